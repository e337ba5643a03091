import Derived.Test.YtjmkhdhffmlhiaaBzBitLattice1
import Derived.Test.YtjmkhdhffmlhiaaProg
import Derived.Below
import Derived.Deep.Draws
import Derived.Deep.AppendLies
import Derived.Maps.AppendAt
import Derived.OwnWalk
import Derived.Laws.BytesArg
import Derived.Laws.MakeOwn
import Derived.Laws.OwnMore
import Derived.Deep.OwnRows
import Derived.Tactics
import Derived.Lib.ConvBytes
import Derived.Laws.Slices
import Derived.WalkKit
import Derived.KernelRfl
import Derived.RowKit3
import Derived.Deep.LoopGhost
import Derived.Deep.QuietTactic
import Derived.BigQuiet
import Derived.WideLaws
import Derived.Deep.DeepCutAuto
import Derived.Deep.CutBlock
import Derived.Deep.RegionHeld3
import Derived.Laws.Rows
import Derived.Lib.AppendStr
import Derived.ArgAppend
import Derived.Laws.IdiomCopy
import Derived.OrdersHeld
import Derived.Laws.BitsLemmas
import Derived.RowKit
import Derived.SizedLaws
import Derived.ChangeSlices
import Derived.ChangeArms
import Derived.Deep.Slices
import Derived.ProofKit
import Derived.Lib.Hide
import Derived.StillTailTactics
section
namespace Go.Proofs.Ytjmkhdhffmlhiaa.PAll
open Go.RowKit Go.Proofs.YtjmkhdhffmlhiaaW.PrintWords Go.Proofs.YtjmkhdhffmlhiaaW.PrintMore
def Wd (x : Int) : Prop := 0 ≤ x ∧ x < 18446744073709551616
def tb (x : Int) (j : Nat) : Bool := x.toNat.testBit j
theorem wrap_u64 (n : Int) : IntKind.u64.wrap n = n % 18446744073709551616 := by simp [IntKind.wrap, IntKind.bits, IntKind.signed]
theorem wraps_u64 (n : Int) (h : Wd n) : IntKind.u64.wrap n = n := by rw [wrap_u64]; unfold Wd at h; omega
theorem Wd.nat {x : Int} (h : Wd x) : x.toNat < 2 ^ 64 ∧ (x.toNat : Int) = x := by unfold Wd at h; omega
theorem Wd.of {n : Nat} (h : n < 2 ^ 64) : Wd (n : Int) := by unfold Wd; omega
theorem Wd.zero : Wd 0 := by unfold Wd; omega
theorem tb_ext {x y : Int} (hx : Wd x) (hy : Wd y) (h : ∀ j, j < 64 → tb x j = tb y j) : x = y := by
  have hx' := hx.nat
  have hy' := hy.nat
  have : x.toNat = y.toNat := Nat.eq_of_testBit_eq fun j => by
    rcases Nat.lt_or_ge j 64 with hj | hj
    · exact h j hj
    · rw [Nat.testBit_lt_two_pow (Nat.lt_of_lt_of_le hx'.1 (Nat.pow_le_pow_right (by decide) hj)), Nat.testBit_lt_two_pow (Nat.lt_of_lt_of_le hy'.1 (Nat.pow_le_pow_right (by decide) hj))]
  rw [← hx'.2, ← hy'.2, this]
theorem tb_high {x : Int} (hx : Wd x) {j : Nat} (hj : 64 ≤ j) : tb x j = false :=
  Nat.testBit_lt_two_pow (Nat.lt_of_lt_of_le hx.nat.1 (Nat.pow_le_pow_right (by decide) hj))
theorem bits_bv (op : BinOp) (f : BitVec 64 → BitVec 64 → BitVec 64) (hf : ∀ a b : Int, Go.bits op .u64 a b = IntKind.u64.wrap ((f (BitVec.ofInt 64 a) (BitVec.ofInt 64 b)).toNat : Int)) (a b : Int) :
    Go.bits op .u64 a b = ((f (BitVec.ofInt 64 a) (BitVec.ofInt 64 b)).toNat : Int) ∧ Wd (Go.bits op .u64 a b) := by
  have h := (f (BitVec.ofInt 64 a) (BitVec.ofInt 64 b)).isLt
  have hw : Wd ((f (BitVec.ofInt 64 a) (BitVec.ofInt 64 b)).toNat : Int) := Wd.of h
  rw [hf, wraps_u64 _ hw]
  exact ⟨rfl, hw⟩
theorem ofInt_tb {a : Int} (ha : Wd a) (j : Nat) : (BitVec.ofInt 64 a).toNat.testBit j = tb a j := by
  have h := ha.nat
  have : (BitVec.ofInt 64 a).toNat = a.toNat := by
    rw [BitVec.toNat_ofInt]
    unfold Wd at ha
    omega
  rw [this]; rfl
theorem or_eq (a b : Int) : Go.bits .or .u64 a b = ((BitVec.ofInt 64 a ||| BitVec.ofInt 64 b).toNat : Int) ∧ Wd (Go.bits .or .u64 a b) := bits_bv .or (· ||| ·) (fun _ _ => rfl) a b
theorem and_eq (a b : Int) : Go.bits .and .u64 a b = ((BitVec.ofInt 64 a &&& BitVec.ofInt 64 b).toNat : Int) ∧ Wd (Go.bits .and .u64 a b) := bits_bv .and (· &&& ·) (fun _ _ => rfl) a b
theorem xor_eq (a b : Int) : Go.bits .xor .u64 a b = ((BitVec.ofInt 64 a ^^^ BitVec.ofInt 64 b).toNat : Int) ∧ Wd (Go.bits .xor .u64 a b) := bits_bv .xor (· ^^^ ·) (fun _ _ => rfl) a b
theorem andNot_eq (a b : Int) : Go.bits .andNot .u64 a b = ((BitVec.ofInt 64 a &&& ~~~ BitVec.ofInt 64 b).toNat : Int) ∧ Wd (Go.bits .andNot .u64 a b) := bits_bv .andNot (fun x y => x &&& ~~~ y) (fun _ _ => rfl) a b
theorem tb_or {a b : Int} (ha : Wd a) (hb : Wd b) (j : Nat) : tb (Go.bits .or .u64 a b) j = (tb a j || tb b j) := by
  rw [(or_eq a b).1]; unfold tb; rw [Int.toNat_natCast, BitVec.toNat_or, Nat.testBit_or, ofInt_tb ha, ofInt_tb hb]; rfl
theorem tb_and {a b : Int} (ha : Wd a) (hb : Wd b) (j : Nat) : tb (Go.bits .and .u64 a b) j = (tb a j && tb b j) := by
  rw [(and_eq a b).1]; unfold tb; rw [Int.toNat_natCast, BitVec.toNat_and, Nat.testBit_and, ofInt_tb ha, ofInt_tb hb]; rfl
theorem tb_xor {a b : Int} (ha : Wd a) (hb : Wd b) (j : Nat) : tb (Go.bits .xor .u64 a b) j = (tb a j != tb b j) := by
  rw [(xor_eq a b).1]; unfold tb; rw [Int.toNat_natCast, BitVec.toNat_xor, Nat.testBit_xor, ofInt_tb ha, ofInt_tb hb]; rfl
theorem tb_andNot {a b : Int} (ha : Wd a) (hb : Wd b) (j : Nat) : tb (Go.bits .andNot .u64 a b) j = (tb a j && !tb b j) := by
  rw [(andNot_eq a b).1]; unfold tb; rw [Int.toNat_natCast, BitVec.toNat_and, Nat.testBit_and, ofInt_tb ha]
  rcases Nat.lt_or_ge j 64 with hj | hj
  · congr 1
    rw [BitVec.testBit_toNat, BitVec.getLsbD_not]
    simp only [hj, decide_true, Bool.true_and]
    rw [← BitVec.testBit_toNat, ofInt_tb hb]; rfl
  · have := tb_high ha hj
    unfold tb at this
    rw [show tb a j = false from this, this]; simp
theorem one_shl {e : Int} (h0 : 0 ≤ e) (h1 : e < 64) : shl .u64 1 e = ((2 ^ e.toNat : Nat) : Int) ∧ Wd (shl .u64 1 e) := by
  have hp : 2 ^ e.toNat < 2 ^ 64 := Nat.pow_lt_pow_right (by decide) (by omega)
  have hw : Wd ((2 ^ e.toNat : Nat) : Int) := Wd.of hp
  have : shl .u64 1 e = IntKind.u64.wrap ((2 ^ e.toNat : Nat) : Int) := by
    unfold shl
    rw [show min e.toNat IntKind.u64.bits = e.toNat by simp [IntKind.bits]; omega, Int.one_mul]
    congr 1
  rw [this, wraps_u64 _ hw]
  exact ⟨rfl, hw⟩
theorem tb_one {e : Int} (h0 : 0 ≤ e) (h1 : e < 64) (j : Nat) : tb (shl .u64 1 e) j = decide (j = e.toNat) := by
  rw [(one_shl h0 h1).1]; unfold tb; rw [Int.toNat_natCast, Nat.testBit_two_pow]
  by_cases h : j = e.toNat
  · simp [h]
  · simp [h]; omega
theorem tb_zero (j : Nat) : tb 0 j = false := by simp [tb]
theorem shr_eq {x e : Int} (hx : Wd x) (h0 : 0 ≤ e) (h1 : e < 64) : shr .u64 x e = ((x.toNat >>> e.toNat : Nat) : Int) := by
  unfold shr
  rw [show min e.toNat IntKind.u64.bits = e.toNat by simp [IntKind.bits]; omega, Nat.shiftRight_eq_div_pow]
  conv => lhs; rw [← hx.nat.2]
  simp
end Go.Proofs.Ytjmkhdhffmlhiaa.PAll
end
section
namespace Go.Proofs.Ytjmkhdhffmlhiaa.PAll
open Go.RowKit Go.Proofs.YtjmkhdhffmlhiaaW.PrintWords Go.Proofs.YtjmkhdhffmlhiaaW.PrintMore
def Wds (ws : List Int) : Prop := ∀ x ∈ ws, Wd x
def hb (ws : List Int) (e : Nat) : Bool := tb (ws.getD (e / 64) 0) (e % 64)
def putw (ws : List Int) (e : Nat) : List Int := ws.set (e / 64) (Go.bits .or .u64 (ws.getD (e / 64) 0) (shl .u64 1 ((e % 64 : Nat) : Int)))
theorem Wds.getD {ws : List Int} (h : Wds ws) (i : Nat) : Wd (ws.getD i 0) := by
  rw [List.getD_eq_getElem?_getD]
  rcases Nat.lt_or_ge i ws.length with hi | hi
  · rw [List.getElem?_eq_getElem hi]; exact h _ (List.getElem_mem hi)
  · rw [List.getElem?_eq_none hi]; exact Wd.zero
theorem Wds.set {ws : List Int} (h : Wds ws) (i : Nat) {x : Int} (hx : Wd x) : Wds (ws.set i x) := by
  intro y hy
  rcases List.mem_or_eq_of_mem_set hy with h1 | h1
  · exact h _ h1
  · exact h1 ▸ hx
theorem Wds.replicate (n : Nat) : Wds (List.replicate n 0) := by
  intro x hx
  rw [(List.mem_replicate.1 hx).2]
  exact Wd.zero
theorem Wds.nil : Wds [] := fun _ h => by cases h
theorem rd_nat (ws : List Int) (i : Nat) : rd ws (i : Int) = ws.getD i 0 := by simp [rd]
theorem getD_set (ws : List Int) (i j : Nat) (x : Int) (hi : i < ws.length) : (ws.set i x).getD j 0 = if i = j then x else ws.getD j 0 := by
  rw [List.getD_eq_getElem?_getD, List.getElem?_set, List.getD_eq_getElem?_getD]
  by_cases h : i = j
  · subst h; simp [hi]
  · simp [h]
theorem hb_ext {ws vs : List Int} (hw : Wds ws) (hv : Wds vs) (hl : ws.length = vs.length) (h : ∀ e, e < 64 * ws.length → hb ws e = hb vs e) : ws = vs := by
  apply List.ext_getElem hl
  intro i h1 h2
  have hi : ws.getD i 0 = ws[i] := by rw [List.getD_eq_getElem?_getD, List.getElem?_eq_getElem h1]; rfl
  have hi2 : vs.getD i 0 = vs[i] := by rw [List.getD_eq_getElem?_getD, List.getElem?_eq_getElem h2]; rfl
  apply tb_ext (hw _ (List.getElem_mem h1)) (hv _ (List.getElem_mem h2))
  intro j hj
  have := h (64 * i + j) (by omega)
  unfold hb at this
  rw [show (64 * i + j) / 64 = i by omega, show (64 * i + j) % 64 = j by omega, hi, hi2] at this
  exact this
theorem hb_replicate (n e : Nat) : hb (List.replicate n 0) e = false := by
  unfold hb
  have : (List.replicate n (0 : Int)).getD (e / 64) 0 = 0 := by
    rw [List.getD_eq_getElem?_getD, List.getElem?_replicate]
    split <;> rfl
  rw [this]; exact tb_zero _
theorem hb_high {ws : List Int} {e : Nat} (h : 64 * ws.length ≤ e) : hb ws e = false := by
  unfold hb
  have : ws.getD (e / 64) 0 = 0 := by
    rw [List.getD_eq_getElem?_getD, List.getElem?_eq_none (by omega)]; rfl
  rw [this]; exact tb_zero _
theorem putw_length (ws : List Int) (e : Nat) : (putw ws e).length = ws.length := by simp [putw]
theorem putw_Wds {ws : List Int} (h : Wds ws) (e : Nat) : Wds (putw ws e) := h.set _ (or_eq _ _).2
theorem hb_putw {ws : List Int} (h : Wds ws) {e : Nat} (he : e / 64 < ws.length) (d : Nat) : hb (putw ws e) d = (hb ws d || decide (d = e)) := by
  unfold hb putw
  rw [getD_set _ _ _ _ he]
  by_cases h1 : e / 64 = d / 64
  · rw [if_pos h1, tb_or (h.getD _) (one_shl (by omega) (by omega)).2, tb_one (by omega) (by omega), h1]
    congr 1
    simp only [Int.toNat_natCast]
    by_cases h2 : d = e
    · subst h2; simp
    · simp only [h2, decide_false, decide_eq_false_iff_not]; omega
  · rw [if_neg h1]
    have : ¬ d = e := fun h2 => h1 (by rw [h2])
    simp [this]
structure Is (n : Nat) (p : Nat → Bool) (ws : List Int) : Prop where
  len : ws.length = (n + 63) / 64
  wds : Wds ws
  has : ∀ e, hb ws e = (decide (e < n) && p e)
theorem Is.eq {n : Nat} {p q : Nat → Bool} {ws vs : List Int} (h : Is n p ws) (k : Is n q vs) (hpq : ∀ e, e < n → p e = q e) : ws = vs := by
  apply hb_ext h.wds k.wds (h.len.trans k.len.symm)
  intro e _
  rw [h.has, k.has]
  by_cases he : e < n
  · rw [hpq e he]
  · simp [he]
theorem Is.congr {n : Nat} {p q : Nat → Bool} {ws : List Int} (h : Is n p ws) (hpq : ∀ e, e < n → p e = q e) : Is n q ws :=
  ⟨h.len, h.wds, fun e => by rw [h.has]; by_cases he : e < n <;> simp [he]; exact hpq e he⟩
theorem Is.none (n : Nat) : Is n (fun _ => false) (List.replicate ((n + 63) / 64) 0) := ⟨by simp, Wds.replicate _, fun e => by rw [hb_replicate]; simp⟩
theorem Is.put {n : Nat} {p : Nat → Bool} {ws : List Int} (h : Is n p ws) {e : Nat} (he : e < n) : Is n (fun d => p d || decide (d = e)) (putw ws e) := by
  refine ⟨by rw [putw_length, h.len], putw_Wds h.wds e, fun d => ?_⟩
  rw [hb_putw h.wds (by rw [h.len]; omega), h.has]
  by_cases h1 : d = e
  · subst h1; simp [he]
  · simp [h1]
theorem Is.lt {n : Nat} {p : Nat → Bool} {ws : List Int} (h : Is n p ws) {e : Nat} (he : e < n) : e / 64 < ws.length := by rw [h.len]; omega
theorem w64_nat {n : Int} (h0 : -9223372036854775808 ≤ n) (h1 : n ≤ 9223372036854775807) : wrap64 n = n := by unfold wrap64; omega
theorem tdiv_nat (e : Nat) : Int.tdiv (e : Int) 64 = ((e / 64 : Nat) : Int) := by rw [show (64 : Int) = ((64 : Nat) : Int) from rfl, ← Int.ofNat_tdiv]
theorem tmod_nat (e : Nat) : Int.tmod (e : Int) 64 = ((e % 64 : Nat) : Int) := by rw [show (64 : Int) = ((64 : Nat) : Int) from rfl, ← Int.ofNat_tmod]
end Go.Proofs.Ytjmkhdhffmlhiaa.PAll
end
section
namespace Go.Proofs.YtjmkhdhffmlhiaaW.PrintWords
open Go.RowKit
section
variable {P : Program} {ops : Array Oper} {Q : Exit → Act → World → Prop}
end
theorem w64_u8 (x : Int) : wrap64 (IntKind.u8.wrap x) = x % 256 := by rw [IntKind.wrap_u8]; unfold wrap64; omega
theorem w64_mod256 (x : Int) : wrap64 (x % 256) = x % 256 := by unfold wrap64; omega
end Go.Proofs.YtjmkhdhffmlhiaaW.PrintWords
end
section
namespace Go.Proofs.Ytjmkhdhffmlhiaa.PAll
open Go.RowKit Go.Proofs.YtjmkhdhffmlhiaaW.PrintWords Go.Proofs.YtjmkhdhffmlhiaaW.PrintLast Go.Proofs.YtjmkhdhffmlhiaaW.PrintMore
attribute [local go_sem] max2_int min2_int max_two min_two max_three min_three max_four min_four w64_u8 w64_mod256   -- for this text's walks alone
set_option linter.unusedVariables false
set_option linter.unusedSimpArgs false
def errW : Option Int → Value
  | none => .nilIface
  | some c => .iface 0 (.int .i64 c)
theorem errW_none : errW none = .nilIface := rfl
theorem errW_some (c : Int) : errW (some c) = .iface 0 (.int .i64 c) := rfl
theorem info82 : (Try.prog.info? 82).map (fun i => (i.zero, i.size, i.bytes)) = some (some (.int .u64 0), 1, 8) := by kernel_rfl
structure S26 where
  f0 : Int
  f1 : (List Int)
def z26 : S26 := ⟨(0 : Int), ([] : List Int)⟩
def k26 : Kd S26 := Kd.iso (Kd.pair (Kd.int .i64) (Kd.slice 82 (Kd.int .u64))) (fun x : S26 => (x.f0, x.f1))
theorem k26_heap : Kd.Heap k26 := Kd.heap_iso _ (Kd.heap_pair (Kd.heap_int .i64) (Kd.heap_slice 82 (Kd.heap_int .u64)))
theorem k26_open {w : World} {x : S26} {cs : List Value} (h : k26.K w x cs) : ∃ A1 c1, cs = [.int .i64 x.f0, .slice A1 x.f1.length c1] ∧ x.f1.length ≤ c1 ∧ (Kd.int .u64).C w A1 x.f1.length x.f1 := by
  obtain ⟨_, _, rfl, rfl, ⟨A1, c1, rfl, l1, g1⟩⟩ := h
  exact ⟨A1, c1, rfl, l1, g1⟩
theorem k26_mk (w : World) (x : S26) {A1 : Option Addr} {c1 : Nat} (l1 : x.f1.length ≤ c1) (g1 : (Kd.int .u64).C w A1 x.f1.length x.f1) : k26.K w x [.int .i64 x.f0, .slice A1 x.f1.length c1] := ⟨[.int .i64 x.f0], [.slice A1 x.f1.length c1], rfl, rfl, ⟨A1, c1, rfl, l1, g1⟩⟩
theorem k26_mkF (W : World) (ok : Nat → Prop) (x : S26) {A1 : Option Addr} {c1 : Nat} (l1 : x.f1.length ≤ c1) (g1 : Kd.F (Kd.int .u64) W ok A1 x.f1.length x.f1) : Kd.FK k26 W ok x [.int .i64 x.f0, .slice A1 x.f1.length c1] := fun W2 hW => k26_mk W2 x l1 (g1 W2 hW)
def rd_T26 (xs : List S26) (i : Int) : S26 := xs.getD i.toNat z26
theorem at_T26 {w : World} {A : Option Addr} {n : Nat} {xs : List S26} (h : Kd.C k26 w A n xs) (i : Int) (h0 : 0 ≤ i) (h1 : i < n) : ∃ ad A1 c1, A = some ad ∧ w.cell? (ad.add (i.toNat * 2)) = some (.int .i64 (rd_T26 xs i).f0) ∧ w.cell? ⟨(ad.add (i.toNat * 2)).block, (ad.add (i.toNat * 2)).off + 1, none⟩ = some (.slice A1 (rd_T26 xs i).f1.length c1) ∧ (rd_T26 xs i).f1.length ≤ c1 ∧ (Kd.int .u64).C w A1 (rd_T26 xs i).f1.length (rd_T26 xs i).f1 := by
  obtain ⟨ad, c, e, _, hK, hc0⟩ := Kd.C_get h z26 i h0 h1
  have hc : ∀ j u, c[j]? = some u → w.cell? (ad.add (i.toNat * 2 + j)) = some u := hc0
  obtain ⟨A1, c1, rfl, l1, g1⟩ := k26_open hK
  exact ⟨ad, A1, c1, e, hc 0 _ rfl, by rw [← add_field _ _ 1 (by omega)]; exact hc 1 _ rfl, l1, g1⟩
structure S95 where
  f0 : Int
  f1 : Int
  f2 : Bool
structure S100 where
  f0 : Int
  f1 : Int
  f2 : Int
end Go.Proofs.Ytjmkhdhffmlhiaa.PAll
end
section
namespace Go.Proofs.Ytjmkhdhffmlhiaa.PAll
open Go.RowKit Go.Proofs.YtjmkhdhffmlhiaaW.PrintWords Go.Proofs.YtjmkhdhffmlhiaaW.PrintLast Go.Proofs.YtjmkhdhffmlhiaaW.PrintMore
attribute [local go_sem] max2_int min2_int max_two min_two max_three min_three max_four min_four w64_u8 w64_mod256   -- for this text's walks alone
set_option linter.unusedVariables false
set_option linter.unusedSimpArgs false
def bitset_words.f (a0 : Int) : Option (Int) := some (wrap64 (Int.tdiv (wrap64 ((wrap64 (a0 + 64)) - 1)) 64))
set_option maxHeartbeats 8000000 in
set_option maxRecDepth 100000 in
theorem bitset_words.calls (a0 : Int) (r : Int) (w : World) (h : bitset_words.f a0 = some r) :
    Calls Try.prog 62 #[.int .i64 a0] w fun e w' => e = .returned (.int .i64 r) ∧ Drawn0 w w' := by
  have H : (some (wrap64 (Int.tdiv (wrap64 ((wrap64 (a0 + 64)) - 1)) 64))) = some r := h
  clear h
  obtain rfl := Option.some.inj H
  go_enter Try.func62, Try.ntmps62
  go_wp2
  go_ret
  exact ⟨by first | rfl | (simp; done) | (simp [*]; done), by repeat (first | exact Drawn0.refl _ | apply Drawn0.step)⟩
end Go.Proofs.Ytjmkhdhffmlhiaa.PAll
end
section
namespace Go.Proofs.Ytjmkhdhffmlhiaa.PAll
open Go.RowKit Go.Proofs.YtjmkhdhffmlhiaaW.PrintWords Go.Proofs.YtjmkhdhffmlhiaaW.PrintLast Go.Proofs.YtjmkhdhffmlhiaaW.PrintMore
attribute [local go_sem] max2_int min2_int max_two min_two max_three min_three max_four min_four w64_u8 w64_mod256   -- for this text's walks alone
set_option linter.unusedVariables false
set_option linter.unusedSimpArgs false
def bitset_blank.f (a0 : Int) : Option (Int × List Int) := (bitset_words.f a0).bind fun t102 => (if 0 ≤ t102 then (if (t102 : Int).toNat ≤ 35184372088832 then (some (a0, (List.replicate (t102 : Int).toNat 0))) else (none)) else (none))
set_option maxHeartbeats 8000000 in
set_option maxRecDepth 100000 in
theorem bitset_blank.calls (a0 : Int) (r1 : Int) (r2 : List Int) (w : World) (h : bitset_blank.f a0 = some (r1, r2)) :
    Calls Try.prog 56 #[.int .i64 a0] w fun e w' => ∃ v1_ : Value, e = .returned (.agg #[.int .i64 r1, v1_]) ∧ Kd.R (Kd.int .u64) 82 w' w.heap.size (fun _ => True) v1_ r2 ∧ Below w.heap.size w w' := by
  have hu26 := Try.underlying26
  have HB := Aside0.mk (Below.refl w.heap.size w)
  have H : ((bitset_words.f a0).bind fun t102 => (if 0 ≤ t102 then (if (t102 : Int).toNat ≤ 35184372088832 then (some (a0, (List.replicate (t102 : Int).toNat 0))) else (none)) else (none))) = some (r1, r2) := h
  clear h
  replace H := Option.bind_eq_some_iff.mp H
  obtain ⟨t102, A20, H⟩ := H
  replace H : (if 0 ≤ t102 then (if (t102 : Int).toNat ≤ 35184372088832 then (some (a0, (List.replicate (t102 : Int).toNat 0))) else (none)) else (none)) = some (r1, r2) := H
  have A2 := Aside0.mk A20
  clear A20
  by_cases c3 : 0 ≤ t102
  · rw [if_pos c3] at H
    have c3b0 := eq_true c3
    have c3b1 : decide (0 ≤ t102) = true := decide_eq_true c3
    clear c3
    by_cases c4 : (t102 : Int).toNat ≤ 35184372088832
    · rw [if_pos c4] at H
      have c4b0 := eq_true c4
      have c4b1 : decide ((t102 : Int).toNat ≤ 35184372088832) = true := decide_eq_true c4
      clear c4
      obtain ⟨y103, hy103⟩ : ∃ y_ : List Int, y_ = (List.replicate (t102 : Int).toNat 0) := ⟨_, rfl⟩
      replace H : (some (a0, y103)) = some (r1, r2) := by first | (rw [hy103]; with_reducible exact H) | (have H2_ := (Option.bind_some _ _).symm.trans H; rw [hy103]; with_reducible exact H2_) | (have H2_ := (Option.bind_some _ _).symm.trans H; with_reducible exact H2_) | with_reducible exact H | (rw [hy103]; exact H) | exact H
      have Ny103 := Aside0.mk hy103
      clear hy103
      simp only [Option.some.injEq, Prod.mk.injEq] at H
      obtain ⟨rfl, rfl⟩ := H
      go_enter Try.func56, Try.ntmps56
      go_wp2_with (first | ((with_reducible refine gate_dst (N := 2) rfl ?_); refine box_event ?hg (N := 2) ?hd (cs := #[.int .i64 0, .slice none 0 0]) (t := 26) ?hr ?_; (case hd => rfl); (case hg => rfl); (case hr => first | (go_simp; done) | (go_simp; rfl)); intro gb101 hg w5 hbox hb; have n0_ := Aside0.mk (below_step (by repeat (first | (with_reducible first | exact HB.out | apply below_alloc | apply pw_below_drewN | apply below_drew1) | exact HB.out)) hb); have n1_ := Aside0.mk (hbox); have n2_ := Aside0.mk ((by rw [hg]; exact (below_size (by repeat (first | (with_reducible first | exact HB.out | apply below_alloc | apply pw_below_drewN | apply below_drew1) | exact HB.out))) : w.heap.size ≤ gb101)); have n3_ := Aside0.mk ((by rw [hg]; exact (below_size (by repeat (first | (with_reducible first | exact HB.out | apply below_alloc | apply pw_below_drewN | apply below_drew1) | exact HB.out))) : w.heap.size ≤ gb101)); clear HB; have HB := n0_; have BK101 := n1_; have GW101 := n2_; have GE101 := n3_; clear n0_ n1_ n2_ n3_; clear hb hbox hg) | ((with_reducible refine gate_callee (f := 62) rfl ?_); refine goesL_ (some 5) rfl rfl Try.func62 (by kernel_rfl) rfl #[.int .i64 a0] rfl (by (try simp only [List.map_toArray, List.map_cons, List.map_nil]); first | done | rfl | (simp only [List.length_drop, List.length_take]; rfl)) ?_; (with_reducible refine (bitset_words.calls a0 t102 _ A2.out).mono ?_); rintro e w' ⟨rfl, ⟨nd, rfl⟩⟩; refine ⟨_, rfl, ?_⟩; (try (rw [drewN_self w5]; generalize hq_ : World.drewN w5 _ = w5; have n0_ : Aside0 (w5.heap[gb101]? = some (.cells #[.int .i64 0, .slice none 0 0] 26 (0, 0))) := ⟨by rw [← hq_]; exact (by (with_reducible repeat (first | refine blk_drewN ?_ _ | refine blk_drew ?_ | refine blk_alloc ?_ _)); exact BK101.out)⟩; have n1_ : Aside0 (Below w.heap.size w w5) := ⟨by rw [← hq_]; exact (by repeat (first | (with_reducible first | exact HB.out | apply below_alloc | apply pw_below_drewN | apply below_drew1 | refine below_set ?_ GE101.out) | exact HB.out))⟩; clear BK101 HB hq_; have BK101 := n0_; have HB := n1_; clear n0_ n1_))) | ((with_reducible refine gate_dst (N := 6) rfl ?_); refine Kd.R_make (Kd.int .u64) _ 82 rfl (N := 6) rfl 24 _ _ rfl t102 rfl rfl Try.underlying24 (.int .u64 0) 8 info82 rfl (by decide) (by omega) 0 (ok := fun _ => True) (okp := fun _ => True) rfl (fun _ hk => hk) trivial (of_decide_eq_true (by first | (with_reducible assumption) | assumption)) (Nat.le_trans (Nat.mul_le_mul_right _ (of_decide_eq_true (by first | (with_reducible assumption) | assumption) : t102.toNat ≤ 35184372088832)) (by omega)) (Below.refl _ _) (Nat.le_refl _) ?_; intro v104 w6 ho7 hb hg_ hnew_; clear hg_ hnew_; (first | rw [← Ny103.out] at ho7 | (simp only [Int.reduceToNat] at ho7; rw [← Ny103.out] at ho7)); have n0_ := Aside0.mk (Kd.R_lower ho7 (below_size (by repeat (first | (with_reducible first | exact HB.out | apply below_alloc | apply pw_below_drewN | apply below_drew1 | refine below_set ?_ GE101.out) | exact HB.out)))); have n1_ := Aside0.mk (blk_below (g := gb101) (o := .cells #[.int .i64 0, .slice none 0 0] 26 (0, 0)) (by (with_reducible repeat (first | refine blk_drewN ?_ _ | refine blk_drew ?_ | refine blk_alloc ?_ _)); exact BK101.out) hb); have n2_ := Aside0.mk (below_step (by repeat (first | (with_reducible first | exact HB.out | apply below_alloc | apply pw_below_drewN | apply below_drew1 | refine below_set ?_ GE101.out) | exact HB.out)) hb); clear BK101; clear HB; have HO105 := n0_; have BK101 := n1_; have HB := n2_; clear n0_ n1_ n2_; clear hb ho7; obtain ⟨Ao8, co8, eo8⟩ := Kd.R_slice HO105.out; subst eo8; have hcz9_0 : w6.cell? ⟨gb101, 0, none⟩ = some (.int .i64 0) := (blk_cell BK101.out 0).trans rfl; have hcz9_1 : w6.cell? ⟨gb101, 1, none⟩ = some (.slice none 0 0) := (blk_cell BK101.out 1).trans rfl; have hfz9_0 := blk_frozen BK101.out 0; have hfz9_1 := blk_frozen BK101.out 1))
      refine bodyPost_ret (results_cell_row rfl _ _ gb101 26 #[.int .i64 a0, .slice Ao8 y103.length co8] (0, 0) _ rfl (by (with_reducible repeat (first | refine blk_drewN ?_ _ | refine blk_drew ?_ | refine blk_alloc ?_ _)); refine blk_put (cs := #[.int .i64 a0, .slice none 0 0]) ?_ 1 _ rfl; (with_reducible repeat (first | refine blk_drewN ?_ _ | refine blk_drew ?_ | refine blk_alloc ?_ _)); refine blk_put (cs := #[.int .i64 0, .slice none 0 0]) ?_ 0 _ rfl; (with_reducible repeat (first | refine blk_drewN ?_ _ | refine blk_drew ?_ | refine blk_alloc ?_ _)); exact BK101.out) Try.underlying26 rfl (by kernel_rfl)) rfl ?_
      exact ⟨_, by first | rfl | (simp [errW_none, errW_some] <;> rfl) | (simp [*, errW_none, errW_some] <;> rfl), by (with_reducible repeat (first | apply Kd.R_alloc | apply Kd.R_drewN | apply Kd.R_drew)); exact Kd.R_mono (Kd.R_far (p := ⟨gb101, 1, none⟩) (Kd.R_far (p := ⟨gb101, 0, none⟩) (Kd.R_types HO105.out BK101.out (by decide)) (fun _ hk => hk.2) (.int .i64 a0)) (fun _ hk => hk.2) (.slice Ao8 y103.length co8)) (fun _ hk => trivial), by repeat (first | (with_reducible first | exact HB.out | apply below_alloc | apply pw_below_drewN | apply below_drew1 | refine below_set ?_ GE101.out) | exact HB.out)⟩
    · rw [if_neg c4] at H
      exact absurd H (by simp)
  · rw [if_neg c3] at H
    exact absurd H (by simp)
end Go.Proofs.Ytjmkhdhffmlhiaa.PAll
end
section
namespace Go.Proofs.Ytjmkhdhffmlhiaa.PAll
open Go.RowKit Go.Proofs.YtjmkhdhffmlhiaaW.PrintWords Go.Proofs.YtjmkhdhffmlhiaaW.PrintLast Go.Proofs.YtjmkhdhffmlhiaaW.PrintMore
attribute [local go_sem] max2_int min2_int max_two min_two max_three min_three max_four min_four w64_u8 w64_mod256   -- for this text's walks alone
set_option linter.unusedVariables false
set_option linter.unusedSimpArgs false
def bitset_put.f (a0_0 : Int) (l0_1 : List Int) (a1 : Int) : Option (List Int) := if 0 ≤ (wrap64 (Int.tdiv a1 64)) then (if (wrap64 (Int.tdiv a1 64)) < (l0_1.length : Int) then (if 0 ≤ (Int.tmod a1 64) then (some (l0_1.set ((wrap64 (Int.tdiv a1 64)) : Int).toNat (Go.bits .or .u64 (rd l0_1 (wrap64 (Int.tdiv a1 64))) (shl .u64 1 (Int.tmod a1 64))))) else (none)) else (none)) else (none)
def bitset_put.T1 : Bool × List (List Nat × List Nat) := (true, [([], []), ([0], [0]), ([], []), ([2], [2]), ([1, 3], [1, 3]), ([4], [4]), ([], []), ([6], [6]), ([7], [7]), ([5, 8], [5, 8]), ([1, 3, 0, 1, 2, 3, 4, 5, 6, 7, 8, 9], [1, 3]), ([10, 9, 0, 1, 2, 3, 4, 5, 6, 7, 8, 9], [9, 10])])
def bitset_put.B1 : List Nat := [0, 1, 0, 4, 15, 31, 0, 64, 192, 511, 1023, 2047]
theorem bitset_put.tab1 : rtab .any (opsOf Try.f58 1) = bitset_put.T1 := by kernel_rfl
theorem bitset_put.bits1 : waitsOk bitset_put.T1.2 bitset_put.B1 = true := by kernel_rfl
set_option maxHeartbeats 8000000 in
set_option maxRecDepth 100000 in
theorem bitset_put.calls (a0_0 : Int) (P0_1_ : Nat → Prop) (u9000_ : Value) (l0_1 : List Int) (a1 : Int) (r : List Int) (w0 w : World) (hB : Below w0.heap.size w0 w) (ho0_1 : Kd.R (Kd.int .u64) 82 w w0.heap.size P0_1_ u9000_ l0_1) (h : bitset_put.f a0_0 l0_1 a1 = some r) :
    Calls Try.prog 58 #[.agg #[.int .i64 a0_0, u9000_], .int .i64 a1] w fun e w' => e = .returned (.tuple #[]) ∧ Kd.R (Kd.int .u64) 82 w' w0.heap.size (fun k_ => (P0_1_ k_ ∨ w.heap.size ≤ k_)) u9000_ r ∧ Below w0.heap.size w0 w' ∧ Kept w w' (fun k_ => P0_1_ k_) := by
  have hu26 := Try.underlying26
  have HO0_1 := Aside0.mk (show Kd.R (Kd.int .u64) 82 w w0.heap.size (fun k_ => (P0_1_ k_ ∨ w.heap.size ≤ k_)) u9000_ l0_1 from Kd.R_mono ho0_1 (fun k_ hk => (.inl hk)))
  have HK := Aside0.mk (Kept.refl w (fun k_ => P0_1_ k_))
  have HW0 := Aside0.mk hB.size
  have HB := Aside0.mk hB
  clear hB
  have H : (if 0 ≤ (wrap64 (Int.tdiv a1 64)) then (if (wrap64 (Int.tdiv a1 64)) < (l0_1.length : Int) then (if 0 ≤ (Int.tmod a1 64) then (some (l0_1.set ((wrap64 (Int.tdiv a1 64)) : Int).toNat (Go.bits .or .u64 (rd l0_1 (wrap64 (Int.tdiv a1 64))) (shl .u64 1 (Int.tmod a1 64))))) else (none)) else (none)) else (none)) = some r := h
  clear h
  obtain ⟨ji3, hji3⟩ : ∃ j_ : Int, (wrap64 (Int.tdiv a1 64)) = j_ := ⟨_, rfl⟩
  replace H : (if 0 ≤ (ji3) then (if (ji3) < (l0_1.length : Int) then (if 0 ≤ (Int.tmod a1 64) then (some (l0_1.set ((ji3) : Int).toNat (Go.bits .or .u64 (rd l0_1 (ji3)) (shl .u64 1 (Int.tmod a1 64))))) else (none)) else (none)) else (none)) = some r := by first | (rw [hji3] at H; exact H) | (simp only [hji3] at H ⊢; exact H)
  have hji3w : (IntKind.i64.wrap (Int.tdiv a1 64)) = ji3 := (i64_w _).trans hji3
  by_cases c4 : 0 ≤ (ji3)
  · rw [if_pos c4] at H
    have c4b0 : decide (0 ≤ (ji3)) = true := decide_eq_true c4
    clear c4
    by_cases c5 : (ji3) < (l0_1.length : Int)
    · rw [if_pos c5] at H
      have c5b0 : decide ((ji3) < (l0_1.length : Int)) = true := decide_eq_true c5
      clear c5
      obtain ⟨ji6, hji6⟩ : ∃ j_ : Int, (Int.tmod a1 64) = j_ := ⟨_, rfl⟩
      replace H : (if 0 ≤ (ji6) then (some (l0_1.set ((ji3) : Int).toNat (Go.bits .or .u64 (rd l0_1 (ji3)) (shl .u64 1 (ji6))))) else (none)) = some r := by first | (rw [hji6] at H; exact H) | (simp only [hji6] at H ⊢; exact H)
      by_cases c7 : 0 ≤ (ji6)
      · rw [if_pos c7] at H
        have c7b0 := eq_true c7
        have c7b1 : decide (0 ≤ (ji6)) = true := decide_eq_true c7
        clear c7
        obtain ⟨ji8, hji8⟩ : ∃ j_ : Int, (shl .u64 1 (ji6)) = j_ := ⟨_, rfl⟩
        replace H : (some (l0_1.set ((ji3) : Int).toNat (Go.bits .or .u64 (rd l0_1 (ji3)) (ji8)))) = some r := by first | (rw [hji8] at H; exact H) | (simp only [hji8] at H ⊢; exact H)
        have hji8_ : (IntKind.u64.wrap (1 * 2 ^ min (ji6).toNat 64)) = ji8 := hji8
        have hji8z : (ji6) ≤ 64 → (IntKind.u64.wrap (1 * 2 ^ (ji6).toNat)) = ji8 := shl_small hji8
        have hji8u : (IntKind.u64.wrap (2 ^ min (ji6).toNat 64)) = ji8 := by have h_ := hji8_; rw [Int.one_mul] at h_; exact h_
        have hji8v : (ji6) ≤ 64 → (IntKind.u64.wrap (2 ^ (ji6).toNat)) = ji8 := fun hle_ => by have h_ := hji8z hle_; rw [Int.one_mul] at h_; exact h_
        obtain ⟨y103, hy103⟩ : ∃ y_ : List Int, y_ = (l0_1.set ((ji3) : Int).toNat (Go.bits .or .u64 (rd l0_1 (ji3)) (ji8))) := ⟨_, rfl⟩
        replace H : (some y103) = some r := by first | (rw [hy103]; with_reducible exact H) | (have H2_ := (Option.bind_some _ _).symm.trans H; rw [hy103]; with_reducible exact H2_) | (have H2_ := (Option.bind_some _ _).symm.trans H; with_reducible exact H2_) | with_reducible exact H | (rw [hy103]; exact H) | exact H
        have Ny103 := Aside0.mk hy103
        clear hy103
        obtain rfl := Option.some.inj H
        obtain ⟨Ao10, co10, eo10⟩ := Kd.R_slice HO0_1.out
        subst eo10
        go_enter Try.func58, Try.ntmps58
        try go_wp2_with (first | ((with_reducible refine gate_dst (N := 2) rfl ?_); refine box_event ?hg (N := 2) ?hd (cs := #[.int .i64 a0_0, .slice Ao10 l0_1.length co10]) (t := 26) ?hr ?_; (case hd => rfl); (case hg => rfl); (case hr => first | (go_simp; done) | (go_simp; rfl)); intro gb101 hg w11 hbox hb; have n0_ := Aside0.mk (Kd.R_below (by (with_reducible repeat (first | apply Kd.R_alloc | apply Kd.R_drewN | apply Kd.R_drew)); exact HO0_1.out) hb); have n1_ := Aside0.mk (Kept.below (S := (fun k_ => P0_1_ k_)) (by repeat (first | (with_reducible first | exact HK.out | apply Kept.alloc | apply Kept.drewN | apply Kept.drew) | exact HK.out)) hb); have n2_ := Aside0.mk (below_step (by repeat (first | (with_reducible first | exact HB.out | apply below_alloc | apply pw_below_drewN | apply below_drew1) | exact HB.out)) hb); have n3_ := Aside0.mk (hbox); have n4_ := Aside0.mk ((by rw [hg]; exact (by first | exact HK.out.1 | exact (show Kept w _ (fun k_ => P0_1_ k_) from by repeat (first | (with_reducible first | exact HK.out | apply Kept.alloc | apply Kept.drewN | apply Kept.drew) | exact HK.out)).1) : w.heap.size ≤ gb101)); have n5_ := Aside0.mk ((by rw [hg]; exact (below_size (by repeat (first | (with_reducible first | exact HB.out | apply below_alloc | apply pw_below_drewN | apply below_drew1) | exact HB.out))) : w0.heap.size ≤ gb101)); clear HO0_1; clear HK; clear HB; have HO0_1 := n0_; have HK := n1_; have HB := n2_; have BK101 := n3_; have GW101 := n4_; have GE101 := n5_; clear n0_ n1_ n2_ n3_ n4_ n5_; clear hb hbox hg))
        have n0_ := Aside0.mk (Kd.R_drew HO0_1.out)
        have n1_ := Aside0.mk (blk_drew BK101.out)
        have n2_ := Aside0.mk (Kept.drew HK.out)
        have n3_ := Aside0.mk (below_drew1 HB.out)
        clear HO0_1
        clear BK101
        clear HK
        clear HB
        have HO0_1 := n0_
        have BK101 := n1_
        have HK := n2_
        have HB := n3_
        clear n0_ n1_ n2_ n3_
        have p102 : 0 ≤ ((ji3) : Int) := of_decide_eq_true (by first | (with_reducible assumption) | assumption)
        have q102 : (ji3) < (l0_1.length : Int) := of_decide_eq_true (by first | (with_reducible assumption) | assumption)
        obtain ⟨ad102, e102, hx102_0⟩ := Kd.at_int (Kd.R_reads' HO0_1.out).2.2 (ji3) p102 q102
        cases e102
        replace p102 := eq_true p102
        replace q102 := eq_true q102
        have p9 : 0 ≤ ((ji3) : Int) := of_decide_eq_true (by first | (with_reducible assumption) | assumption)
        have q9 : ((ji3) : Int) < ((l0_1.length : Int) : Int) := of_decide_eq_true (by first | (with_reducible assumption) | assumption)
        obtain ⟨go9, co9, eo9, gb9, gl9, cl9, HG9⟩ := Kd.R_form HO0_1.out (by omega)
        (first | cases eo9 | (injection eo9 with ea_ en_ ec_; (first | subst ea_ | (injection ea_ with ea_; subst ea_)); subst ec_; clear en_))
        have GB9 := Aside0.mk gb9
        have GG9 := Aside0.mk HG9
        clear gb9 gl9 HG9
        have HMgo9 := Aside0.mk (show (P0_1_ go9 ∨ w.heap.size ≤ go9) from (HO0_1.out.1 _ rfl))
        (first | simp only [add_plain] at hx102_0 | skip)
        obtain ⟨hx9_0, hf9_0⟩ := Kd.R_celln 0 HO0_1.out ((ji3) : Int) p9 q9
        replace p9 := eq_true p9
        replace q9 := eq_true q9
        have HP13 := Kd.R_putn HO0_1.out ((ji3) : Int) (Go.bits .or .u64 (rd l0_1 (ji3)) (ji8))
        rw [← Ny103.out] at HP13
        have HQ13 := Aside0.mk HP13
        clear HP13
        refine start_ (n := 12) (S := fun w' => w'.cell? ⟨gb101, 0, none⟩ = some (.int .i64 a0_0) ∧ w'.cell? ⟨gb101, 1, none⟩ = some (.slice (some ⟨go9, 0, none⟩) l0_1.length co10) ∧ w'.cell? ⟨go9, ((ji3)).toNat, none⟩ = some (.int .u64 (rd l0_1 (ji3)))) (ds := [11]) #[false, false, false, false, false, false, false, false, false, false, false, false] (by kernel_rfl) rfl rfl ⟨(blk_cell BK101.out 0).trans rfl, (blk_cell BK101.out 1).trans rfl, hx102_0⟩ (fun hHeld => ?_); refine with_tabW bitset_put.tab1 bitset_put.bits1 (fun HT_ HW_ => ?_)
        generalize w11.drew = w12 at HO0_1 BK101 HK HB GG9 HQ13 hf9_0 hx102_0 hx9_0 hHeld ⊢
        refine pure_ (i := 0) (N := some 4) (v := ?_) (a' := ?_) #[true, false, false, false, false, false, false, false, false, false, false, false] rfl rfl (any_of HT_.out (by kernel_rfl)) (fun _ _ _ h => h) (Or.inl ⟨by rfl, ?_⟩) ?_ ?_
        rotate_left
        · intro w'
          go_simp
          with_reducible rfl
        rotate_left
        · simp only [Act.put, List.setIfInBounds_toArray, List.set_cons_zero, List.set_cons_succ, i64_w, i32_w]
          rfl
        refine pure_ (i := 2) (N := some 6) (v := ?_) (a' := ?_) #[true, false, true, false, false, false, false, false, false, false, false, false] rfl rfl (any_of HT_.out (by kernel_rfl)) (fun _ _ _ h => h) (Or.inl ⟨by rfl, ?_⟩) ?_ ?_
        rotate_left
        · intro w'
          go_simp
          with_reducible rfl
        rotate_left
        · simp only [Act.put, List.setIfInBounds_toArray, List.set_cons_zero, List.set_cons_succ, i64_w, i32_w]
          rfl
        refine pure_ (i := 3) (N := some 7) (v := ?_) (a' := ?_) #[true, false, true, true, false, false, false, false, false, false, false, false] rfl rfl (any_of HT_.out (by kernel_rfl)) (fun _ _ _ h => h) (Or.inl ⟨by rfl, ?_⟩) ?_ ?_
        rotate_left
        · intro w'
          go_simp
          with_reducible rfl
        rotate_left
        · simp only [Act.put, List.setIfInBounds_toArray, List.set_cons_zero, List.set_cons_succ, i64_w, i32_w]
          rfl
        refine pure_ (i := 6) (N := some 10) (v := ?_) (a' := ?_) #[true, false, true, true, false, false, true, false, false, false, false, false] rfl rfl (any_of HT_.out (by kernel_rfl)) (fun _ _ _ h => h) (Or.inl ⟨by rfl, ?_⟩) ?_ ?_
        rotate_left
        · intro w'
          go_simp
          with_reducible rfl
        rotate_left
        · simp only [Act.put, List.setIfInBounds_toArray, List.set_cons_zero, List.set_cons_succ, i64_w, i32_w]
          rfl
        refine pure_ (i := 7) (N := some 11) (v := ?_) (a' := ?_) #[true, false, true, true, false, false, true, true, false, false, false, false] rfl rfl (any_of HT_.out (by kernel_rfl)) (fun _ _ _ h => h) (Or.inl ⟨by rfl, ?_⟩) ?_ ?_
        rotate_left
        · intro w'
          go_simp
          with_reducible rfl
        rotate_left
        · simp only [Act.put, List.setIfInBounds_toArray, List.set_cons_zero, List.set_cons_succ, i64_w, i32_w]
          rfl
        refine pure_ (i := 8) (N := some 12) (v := ?_) (a' := ?_) #[true, false, true, true, false, false, true, true, true, false, false, false] rfl rfl (any_of HT_.out (by kernel_rfl)) (fun _ _ _ h => h) (Or.inl ⟨by rfl, ?_⟩) ?_ ?_
        rotate_left
        · intro w'
          go_simp
          with_reducible rfl
        rotate_left
        · simp only [Act.put, List.setIfInBounds_toArray, List.set_cons_zero, List.set_cons_succ, i64_w, i32_w]
          rfl
        refine take_ (i := 1) (N := some 5) (v := ?_) (a' := ?_) #[true, true, true, true, false, false, true, true, true, false, false, false] rfl rfl (take_ofW HT_.out HW_.out (by kernel_rfl)) (fun _ _ _ h => h) (Or.inl ⟨by rfl, ?_⟩) hHeld ?_ ?_
        rotate_left
        · rintro w' ⟨s0, s1, s2⟩
          go_simp
          with_reducible rfl
        rotate_left
        · simp only [Act.put, List.setIfInBounds_toArray, List.set_cons_zero, List.set_cons_succ, i64_w, i32_w]
          rfl
        refine pure_ (i := 4) (N := some 8) (v := ?_) (a' := ?_) #[true, true, true, true, true, false, true, true, true, false, false, false] rfl rfl (any_of HT_.out (by kernel_rfl)) (fun _ _ _ h => h) (Or.inl ⟨by rfl, ?_⟩) ?_ ?_
        rotate_left
        · intro w'
          go_simp
          with_reducible rfl
        rotate_left
        · simp only [Act.put, List.setIfInBounds_toArray, List.set_cons_zero, List.set_cons_succ, i64_w, i32_w]
          rfl
        refine take_ (i := 5) (N := some 9) (v := ?_) (a' := ?_) #[true, true, true, true, true, true, true, true, true, false, false, false] rfl rfl (take_ofW HT_.out HW_.out (by kernel_rfl)) (fun _ _ _ h => h) (Or.inl ⟨by rfl, ?_⟩) hHeld ?_ ?_
        rotate_left
        · rintro w' ⟨s0, s1, s2⟩
          go_simp
          with_reducible rfl
        rotate_left
        · simp only [Act.put, List.setIfInBounds_toArray, List.set_cons_zero, List.set_cons_succ, i64_w, i32_w]
          rfl
        refine pure_ (i := 9) (N := some 13) (v := ?_) (a' := ?_) #[true, true, true, true, true, true, true, true, true, true, false, false] rfl rfl (any_of HT_.out (by kernel_rfl)) (fun _ _ _ h => h) (Or.inl ⟨by rfl, ?_⟩) ?_ ?_
        rotate_left
        · intro w'
          go_simp
          with_reducible rfl
        rotate_left
        · simp only [Act.put, List.setIfInBounds_toArray, List.set_cons_zero, List.set_cons_succ, i64_w, i32_w]
          rfl
        refine pure_ (i := 10) (N := some 14) (v := ?_) (a' := ?_) #[true, true, true, true, true, true, true, true, true, true, true, false] rfl rfl (any_of HT_.out (by kernel_rfl)) (fun _ _ _ h => h) (Or.inl ⟨by rfl, ?_⟩) ?_ ?_
        rotate_left
        · intro w'
          go_simp
          with_reducible rfl
        rotate_left
        · simp only [Act.put, List.setIfInBounds_toArray, List.set_cons_zero, List.set_cons_succ, i64_w, i32_w]
          rfl
        refine last_ (i := 11) (N := none) #[true, true, true, true, true, true, true, true, true, true, true, true] rfl rfl (one_of HT_.out (by kernel_rfl)) (by decide) (fun K hK => ?_)
        refine skip_ (w1 := ?_) (by rfl) rfl ?_ ?_
        rotate_left
        · go_simp
          rfl
        refine hK.out _ _ ?_
        clear hK K
        refine done_ (done_of HT_.out (by kernel_rfl)) ?_
        try go_wp2
        first | go_end0 | ((try simp only [Exit.inBlock, Exit.then]); refine bodyPost_ret (results_none rfl _ _ _) rfl ?_)
        exact ⟨by first | rfl | (simp [errW_none, errW_some] <;> rfl) | (simp only [← hji3, ← hji6, ← hji8]; first | rfl | (simp [errW_none, errW_some] <;> rfl)) | (simp [*, errW_none, errW_some] <;> rfl), by (with_reducible repeat (first | apply Kd.R_alloc | apply Kd.R_drewN | apply Kd.R_drew)); exact HQ13.out, by repeat (first | (with_reducible first | exact HB.out | apply below_alloc | apply pw_below_drewN | apply below_drew1 | refine below_set ?_ GB9.out | refine below_set ?_ GE101.out) | exact HB.out), by repeat (first | (with_reducible first | exact HK.out | apply Kept.alloc | apply Kept.drewN | apply Kept.drew | refine Kept.setCell ?_ HMgo9.out _ | refine Kept.setCell ?_ (.inr GW101.out) _) | exact HK.out)⟩
      · rw [if_neg c7] at H
        exact absurd H (by simp)
    · rw [if_neg c5] at H
      exact absurd H (by simp)
  · rw [if_neg c4] at H
    exact absurd H (by simp)
end Go.Proofs.Ytjmkhdhffmlhiaa.PAll
end
section
namespace Go.Proofs.Ytjmkhdhffmlhiaa.PAll
open Go.RowKit Go.Proofs.YtjmkhdhffmlhiaaW.PrintWords Go.Proofs.YtjmkhdhffmlhiaaW.PrintLast Go.Proofs.YtjmkhdhffmlhiaaW.PrintMore
attribute [local go_sem] max2_int min2_int max_two min_two max_three min_three max_four min_four w64_u8 w64_mod256   -- for this text's walks alone
set_option linter.unusedVariables false
set_option linter.unusedSimpArgs false
def bitset_sized.f (a0 : Int) : Option (Bool) := if a0 ≥ 0 then (some (decide (a0 ≤ 4096))) else (some false)
set_option maxHeartbeats 8000000 in
set_option maxRecDepth 100000 in
theorem bitset_sized.calls (a0 : Int) (r : Bool) (w : World) (h : bitset_sized.f a0 = some r) :
    Calls Try.prog 55 #[.int .i64 a0] w fun e w' => e = .returned (.bool r) ∧ Drawn0 w w' := by
  have H : (if a0 ≥ 0 then (some (decide (a0 ≤ 4096))) else (some false)) = some r := h
  clear h
  by_cases c2 : a0 ≥ 0
  · rw [if_pos c2] at H
    have c2b0 : decide (0 ≤ a0) = true := decide_eq_true c2
    clear c2
    obtain rfl := Option.some.inj H
    go_enter Try.func55, Try.ntmps55
    go_wp2
    go_ret
    exact ⟨by first | rfl | (simp; done) | (simp [*]; done), by repeat (first | exact Drawn0.refl _ | apply Drawn0.step)⟩
  · rw [if_neg c2] at H
    have c2b0 : decide (0 ≤ a0) = false := decide_eq_false c2
    clear c2
    obtain rfl := Option.some.inj H
    go_enter Try.func55, Try.ntmps55
    go_wp2
    go_ret
    exact ⟨by first | rfl | (simp; done) | (simp [*]; done), by repeat (first | exact Drawn0.refl _ | apply Drawn0.step)⟩
end Go.Proofs.Ytjmkhdhffmlhiaa.PAll
end
section
namespace Go.Proofs.Ytjmkhdhffmlhiaa.PAll
open Go.RowKit Go.Proofs.YtjmkhdhffmlhiaaW.PrintWords Go.Proofs.YtjmkhdhffmlhiaaW.PrintLast Go.Proofs.YtjmkhdhffmlhiaaW.PrintMore
attribute [local go_sem] max2_int min2_int max_two min_two max_three min_three max_four min_four w64_u8 w64_mod256   -- for this text's walks alone
set_option linter.unusedVariables false
set_option linter.unusedSimpArgs false
def bitset_within.f (a0_0 : Int) (l0_1 : List Int) (a1 : Int) : Option (Bool) := if a1 ≥ 0 then (some (decide (a1 < a0_0))) else (some false)
set_option maxHeartbeats 8000000 in
set_option maxRecDepth 100000 in
theorem bitset_within.calls (a0_0 : Int) (A0_1 : Option Addr) (c0_1 : Nat) (l0_1 : List Int) (a1 : Int) (r : Bool) (w : World) (hr0_1 : Kd.C (Kd.int .u64) w A0_1 l0_1.length l0_1) (hc0_1 : l0_1.length ≤ c0_1) (h : bitset_within.f a0_0 l0_1 a1 = some r) :
    Calls Try.prog 57 #[.agg #[.int .i64 a0_0, .slice A0_1 l0_1.length c0_1], .int .i64 a1] w fun e w' => e = .returned (.bool r) ∧ Below w.heap.size w w' := by
  have hu26 := Try.underlying26
  have HR0_1 := Aside0.mk hr0_1
  have HC0_1 := Aside0.mk hc0_1
  clear hr0_1 hc0_1
  have HB := Aside0.mk (Below.refl w.heap.size w)
  have H : (if a1 ≥ 0 then (some (decide (a1 < a0_0))) else (some false)) = some r := h
  clear h
  by_cases c3 : a1 ≥ 0
  · rw [if_pos c3] at H
    have c3b0 : decide (0 ≤ a1) = true := decide_eq_true c3
    clear c3
    obtain rfl := Option.some.inj H
    go_enter Try.func57, Try.ntmps57
    go_wp2_with (first | ((with_reducible refine gate_dst (N := 2) rfl ?_); refine box_event ?hg (N := 2) ?hd (cs := #[.int .i64 a0_0, .slice A0_1 l0_1.length c0_1]) (t := 26) ?hr ?_; (case hd => rfl); (case hg => rfl); (case hr => first | (go_simp; done) | (go_simp; rfl)); intro gb101 hg w4 hbox hb; have n0_ := Aside0.mk (below_step (by repeat (first | (with_reducible first | exact HB.out | apply below_alloc | apply pw_below_drewN | apply below_drew1) | exact HB.out)) hb); have n1_ := Aside0.mk (hbox); have n2_ := Aside0.mk ((by rw [hg]; exact (below_size (by repeat (first | (with_reducible first | exact HB.out | apply below_alloc | apply pw_below_drewN | apply below_drew1) | exact HB.out))) : w.heap.size ≤ gb101)); have n3_ := Aside0.mk ((by rw [hg]; exact (below_size (by repeat (first | (with_reducible first | exact HB.out | apply below_alloc | apply pw_below_drewN | apply below_drew1) | exact HB.out))) : w.heap.size ≤ gb101)); clear HB; have HB := n0_; have BK101 := n1_; have GW101 := n2_; have GE101 := n3_; clear n0_ n1_ n2_ n3_; clear hb hbox hg; have hcz5_0 : w4.cell? ⟨gb101, 0, none⟩ = some (.int .i64 a0_0) := (blk_cell BK101.out 0).trans rfl; have hcz5_1 : w4.cell? ⟨gb101, 1, none⟩ = some (.slice A0_1 l0_1.length c0_1) := (blk_cell BK101.out 1).trans rfl; have hfz5_0 := blk_frozen BK101.out 0; have hfz5_1 := blk_frozen BK101.out 1))
    go_ret
    exact ⟨by first | rfl | (simp [errW_none, errW_some] <;> rfl) | (simp [*, errW_none, errW_some] <;> rfl), by repeat (first | (with_reducible first | exact HB.out | apply below_alloc | apply pw_below_drewN | apply below_drew1 | refine below_set ?_ GE101.out) | exact HB.out)⟩
  · rw [if_neg c3] at H
    have c3b0 : decide (0 ≤ a1) = false := decide_eq_false c3
    clear c3
    obtain rfl := Option.some.inj H
    go_enter Try.func57, Try.ntmps57
    go_wp2_with (first | ((with_reducible refine gate_dst (N := 2) rfl ?_); refine box_event ?hg (N := 2) ?hd (cs := #[.int .i64 a0_0, .slice A0_1 l0_1.length c0_1]) (t := 26) ?hr ?_; (case hd => rfl); (case hg => rfl); (case hr => first | (go_simp; done) | (go_simp; rfl)); intro gb101 hg w6 hbox hb; have n0_ := Aside0.mk (below_step (by repeat (first | (with_reducible first | exact HB.out | apply below_alloc | apply pw_below_drewN | apply below_drew1) | exact HB.out)) hb); have n1_ := Aside0.mk (hbox); have n2_ := Aside0.mk ((by rw [hg]; exact (below_size (by repeat (first | (with_reducible first | exact HB.out | apply below_alloc | apply pw_below_drewN | apply below_drew1) | exact HB.out))) : w.heap.size ≤ gb101)); have n3_ := Aside0.mk ((by rw [hg]; exact (below_size (by repeat (first | (with_reducible first | exact HB.out | apply below_alloc | apply pw_below_drewN | apply below_drew1) | exact HB.out))) : w.heap.size ≤ gb101)); clear HB; have HB := n0_; have BK101 := n1_; have GW101 := n2_; have GE101 := n3_; clear n0_ n1_ n2_ n3_; clear hb hbox hg))
    go_ret
    exact ⟨by first | rfl | (simp [errW_none, errW_some] <;> rfl) | (simp [*, errW_none, errW_some] <;> rfl), by repeat (first | (with_reducible first | exact HB.out | apply below_alloc | apply pw_below_drewN | apply below_drew1 | refine below_set ?_ GE101.out) | exact HB.out)⟩
end Go.Proofs.Ytjmkhdhffmlhiaa.PAll
end
section
namespace Go.Proofs.Ytjmkhdhffmlhiaa.PAll
open Go.RowKit Go.Proofs.YtjmkhdhffmlhiaaW.PrintWords Go.Proofs.YtjmkhdhffmlhiaaW.PrintLast Go.Proofs.YtjmkhdhffmlhiaaW.PrintMore
attribute [local go_sem] max2_int min2_int max_two min_two max_three min_three max_four min_four w64_u8 w64_mod256   -- for this text's walks alone
set_option linter.unusedVariables false
set_option linter.unusedSimpArgs false
def bitset_Make.l0 : Nat → List Int → Int → Int → Int → List Int → Option (Int × List Int × Int)
  | 0, _, _, _, _, _ => none
  | k + 1, x15, x16, x17, x108000, x108001 => if x17 < x16 then (if 0 ≤ x17 then (if x17 < (x15.length : Int) then ((bitset_within.f x108000 x108001 (rd x15 x17)).bind fun t109 => (if t109 = true then ((bitset_put.f x108000 x108001 (rd x15 x17)).bind fun t110 => (bitset_Make.l0 k x15 x16 (wrap64 (x17 + 1)) x108000 t110)) else (some (0, ([] : List Int), 62)))) else (none)) else (none)) else (some (x108000, x108001, 0))
def bitset_Make.f (k : Nat) (a0 : Int) (l1 : List Int) : Option (Int × List Int × Int) := (bitset_sized.f a0).bind fun t102 => (if t102 = true then ((bitset_blank.f a0).bind fun bt103 => (bitset_Make.l0 k l1 (l1.length : Int) 0 bt103.1 bt103.2)) else (some (0, ([] : List Int), 60)))
theorem bitset_Make.mono_l : ∀ k, (∀ y0 y1 y2 y3 y4, LeO (bitset_Make.l0 k y0 y1 y2 y3 y4) (bitset_Make.l0 (k + 1) y0 y1 y2 y3 y4))
  | 0 => fun _ _ _ _ _ r h => by simp [bitset_Make.l0] at h
  | k + 1 => by
    have ih0 := bitset_Make.mono_l k
    · intro y0 y1 y2 y3 y4
      unfold bitset_Make.l0
      repeat' first
      | (with_reducible exact ih0 _ _ _ _ _)
      | (with_reducible exact LeO.refl _)
      | (with_reducible exact LeO.none _)
      | (with_reducible refine LeO.ite ?_ ?_)
      | (with_reducible refine LeO.bind ?_ (fun _ => ?_))
      | exact ih0 _ _ _ _ _
      | exact LeO.none _
      | refine LeO.ite ?_ ?_
      | refine LeO.bind ?_ (fun _ => ?_)
theorem bitset_Make.mono : ∀ a0 a1 k, LeO (bitset_Make.f k a0 a1) (bitset_Make.f (k + 1) a0 a1) := by
  intro a0 a1 k
  have ih0 := bitset_Make.mono_l k
  unfold bitset_Make.f
  repeat' first
      | (with_reducible exact ih0 _ _ _ _ _)
      | (with_reducible exact LeO.refl _)
      | (with_reducible exact LeO.none _)
      | (with_reducible refine LeO.ite ?_ ?_)
      | (with_reducible refine LeO.bind ?_ (fun _ => ?_))
      | exact ih0 _ _ _ _ _
      | exact LeO.none _
      | refine LeO.ite ?_ ?_
      | refine LeO.bind ?_ (fun _ => ?_)
set_option maxHeartbeats 8000000 in
set_option maxRecDepth 100000 in
theorem bitset_Make.calls (k : Nat) (a0 : Int) (A1 : Option Addr) (c1 : Nat) (l1 : List Int) (r1 : Int) (r2 : List Int) (r3 : Int) (w : World) (hr1 : Kd.C (Kd.int .i64) w A1 l1.length l1) (hc1 : l1.length ≤ c1) (h : bitset_Make.f k a0 l1 = some (r1, r2, r3)) :
    Calls Try.prog 14 #[.int .i64 a0, .slice A1 l1.length c1] w fun e w' => ∃ v1_ : Value, e = .returned (.tuple #[.agg #[.int .i64 r1, v1_], .int .i64 r3]) ∧ Kd.R (Kd.int .u64) 82 w' w.heap.size (fun _ => True) v1_ r2 ∧ Below w.heap.size w w' := by
  have hu26 := Try.underlying26
  have HR1 := Aside0.mk hr1
  have HC1 := Aside0.mk hc1
  clear hr1 hc1
  have HB := Aside0.mk (Below.refl w.heap.size w)
  have H : ((bitset_sized.f a0).bind fun t102 => (if t102 = true then ((bitset_blank.f a0).bind fun bt103 => (bitset_Make.l0 k l1 (l1.length : Int) 0 bt103.1 bt103.2)) else (some (0, ([] : List Int), 60)))) = some (r1, r2, r3) := h
  clear h
  replace H := Option.bind_eq_some_iff.mp H
  obtain ⟨t102, A30, H⟩ := H
  replace H : (if t102 = true then ((bitset_blank.f a0).bind fun bt103 => (bitset_Make.l0 k l1 (l1.length : Int) 0 bt103.1 bt103.2)) else (some (0, ([] : List Int), 60))) = some (r1, r2, r3) := H
  have A3 := Aside0.mk A30
  clear A30
  by_cases c4 : t102 = true
  · subst c4
    have H1 : ((bitset_blank.f a0).bind fun bt103 => (bitset_Make.l0 k l1 (l1.length : Int) 0 bt103.1 bt103.2)) = some (r1, r2, r3) := by rw [if_pos rfl] at H; exact H
    clear H
    have H := H1
    clear H1
    replace H := Option.bind_eq_some_iff.mp H
    obtain ⟨⟨t103, t104⟩, A50, H⟩ := H
    replace H : (bitset_Make.l0 k l1 (l1.length : Int) 0 t103 t104) = some (r1, r2, r3) := H
    have A5 := Aside0.mk A50
    clear A50
    have H' := Aside0.mk H
    clear H
    go_enter Try.func14, Try.ntmps14
    go_wp2_with (first | ((with_reducible refine gate_dst (N := 4) rfl ?_); refine box_event ?hg (N := 4) ?hd (cs := #[.int .i64 0, .slice none 0 0]) (t := 26) ?hr ?_; (case hd => rfl); (case hg => rfl); (case hr => first | (go_simp; done) | (go_simp; rfl)); intro gb101 hg w6 hbox hb; have n0_ := Aside0.mk (below_step (by repeat (first | (with_reducible first | exact HB.out | apply below_alloc | apply pw_below_drewN | apply below_drew1) | exact HB.out)) hb); have n1_ := Aside0.mk (hbox); have n2_ := Aside0.mk ((by rw [hg]; exact (below_size (by repeat (first | (with_reducible first | exact HB.out | apply below_alloc | apply pw_below_drewN | apply below_drew1) | exact HB.out))) : w.heap.size ≤ gb101)); have n3_ := Aside0.mk ((by rw [hg]; exact (below_size (by repeat (first | (with_reducible first | exact HB.out | apply below_alloc | apply pw_below_drewN | apply below_drew1) | exact HB.out))) : w.heap.size ≤ gb101)); clear HB; have HB := n0_; have BK101 := n1_; have GW101 := n2_; have GE101 := n3_; clear n0_ n1_ n2_ n3_; clear hb hbox hg) | ((with_reducible refine gate_callee (f := 55) rfl ?_); refine goesL_ (some 10) rfl rfl Try.func55 (by kernel_rfl) rfl #[.int .i64 a0] rfl (by (try simp only [List.map_toArray, List.map_cons, List.map_nil]); first | done | rfl | (simp only [List.length_drop, List.length_take]; rfl)) ?_; (with_reducible refine (bitset_sized.calls a0 true _ A3.out).mono ?_); rintro e w' ⟨rfl, ⟨nd, rfl⟩⟩; refine ⟨_, rfl, ?_⟩; (try (rw [drewN_self w6]; generalize hq_ : World.drewN w6 _ = w6; have n0_ : Aside0 (w6.heap[gb101]? = some (.cells #[.int .i64 0, .slice none 0 0] 26 (0, 0))) := ⟨by rw [← hq_]; exact (by (with_reducible repeat (first | refine blk_drewN ?_ _ | refine blk_drew ?_ | refine blk_alloc ?_ _)); exact BK101.out)⟩; have n1_ : Aside0 (Below w.heap.size w w6) := ⟨by rw [← hq_]; exact (by repeat (first | (with_reducible first | exact HB.out | apply below_alloc | apply pw_below_drewN | apply below_drew1 | refine below_set ?_ GE101.out) | exact HB.out))⟩; clear BK101 HB hq_; have BK101 := n0_; have HB := n1_; clear n0_ n1_))) | ((with_reducible refine gate_callee (f := 56) rfl ?_); refine goesL_ (some 14) rfl rfl Try.func56 (by kernel_rfl) rfl #[.int .i64 a0] rfl (by (try simp only [List.map_toArray, List.map_cons, List.map_nil]); first | done | rfl | (simp only [List.length_drop, List.length_take]; rfl)) ?_; (with_reducible refine (bitset_blank.calls a0 t103 t104 _ A5.out).mono ?_); rintro e w7 ⟨v105, rfl, ho0, hb⟩; refine ⟨_, rfl, ?_⟩; have n0_ := Aside0.mk (Kd.R_lower ho0 (below_size (by repeat (first | (with_reducible first | exact HB.out | apply below_alloc | apply pw_below_drewN | apply below_drew1 | refine below_set ?_ GE101.out) | exact HB.out)))); have n1_ := Aside0.mk (blk_below (g := gb101) (o := .cells #[.int .i64 0, .slice none 0 0] 26 (0, 0)) (by (with_reducible repeat (first | refine blk_drewN ?_ _ | refine blk_drew ?_ | refine blk_alloc ?_ _)); exact BK101.out) hb); have n2_ := Aside0.mk (below_step (by repeat (first | (with_reducible first | exact HB.out | apply below_alloc | apply pw_below_drewN | apply below_drew1 | refine below_set ?_ GE101.out) | exact HB.out)) hb); clear BK101; clear HB; have HO106 := n0_; have BK101 := n1_; have HB := n2_; clear n0_ n1_ n2_; (try clear hb); (try clear hb2); (try clear hk); (try clear hi); (try clear ho0)) | ((with_reducible refine gate_dst (N := 6) rfl ?_); refine box_event ?hg (N := 6) ?hd (cs := #[.int .i64 0, .slice none 0 0]) (t := 26) ?hr ?_; (case hd => rfl); (case hg => rfl); (case hr => first | (go_simp; done) | (go_simp; rfl)); intro gb107 hg w8 hbox hb; have n0_ := Aside0.mk (Kd.R_below (by (with_reducible repeat (first | apply Kd.R_alloc | apply Kd.R_drewN | apply Kd.R_drew)); exact HO106.out) hb); have n1_ := Aside0.mk (blk_below (g := gb101) (o := .cells #[.int .i64 0, .slice none 0 0] 26 (0, 0)) (by (with_reducible repeat (first | refine blk_drewN ?_ _ | refine blk_drew ?_ | refine blk_alloc ?_ _)); exact BK101.out) hb); have n2_ := Aside0.mk (below_step (by repeat (first | (with_reducible first | exact HB.out | apply below_alloc | apply pw_below_drewN | apply below_drew1 | refine below_set ?_ GE101.out) | exact HB.out)) hb); have n3_ := Aside0.mk (hbox); have n4_ := Aside0.mk ((by rw [hg]; exact (below_size (by repeat (first | (with_reducible first | exact HB.out | apply below_alloc | apply pw_below_drewN | apply below_drew1 | refine below_set ?_ GE101.out) | exact HB.out))) : w.heap.size ≤ gb107)); have n5_ := Aside0.mk ((by rw [hg]; exact (below_size (by repeat (first | (with_reducible first | exact HB.out | apply below_alloc | apply pw_below_drewN | apply below_drew1 | refine below_set ?_ GE101.out) | exact HB.out))) : w.heap.size ≤ gb107)); have n6_ := Aside0.mk ((by rw [hg]; exact Nat.ne_of_lt (blk_lt (g := gb101) (o := .cells #[.int .i64 0, .slice none 0 0] 26 (0, 0)) (by (with_reducible repeat (first | refine blk_drewN ?_ _ | refine blk_drew ?_ | refine blk_alloc ?_ _)); exact BK101.out)) : gb101 ≠ gb107)); have n7_ := Aside0.mk ((by rw [hg]; exact Nat.ne_of_gt (blk_lt (g := gb101) (o := .cells #[.int .i64 0, .slice none 0 0] 26 (0, 0)) (by (with_reducible repeat (first | refine blk_drewN ?_ _ | refine blk_drew ?_ | refine blk_alloc ?_ _)); exact BK101.out)) : gb107 ≠ gb101)); clear HO106; clear BK101; clear HB; have HO106 := n0_; have BK101 := n1_; have HB := n2_; have BK107 := n3_; have GW107 := n4_; have GE107 := n5_; have NB101_107 := n6_; have NB107_101 := n7_; clear n0_ n1_ n2_ n3_ n4_ n5_ n6_ n7_; clear hb hbox hg; have hnb9 := NB107_101.out; have hnc9 := NB101_107.out; have hcz10_0 : w8.cell? ⟨gb107, 0, none⟩ = some (.int .i64 0) := (blk_cell BK107.out 0).trans rfl; have hcz10_1 : w8.cell? ⟨gb107, 1, none⟩ = some (.slice none 0 0) := (blk_cell BK107.out 1).trans rfl; have hfz10_0 := blk_frozen BK107.out 0; have hfz10_1 := blk_frozen BK107.out 1; obtain ⟨Ao11, co11, eo11⟩ := Kd.R_slice HO106.out; subst eo11))
    go_loopg [17] k (fun kq v17 w' => ∃ (x17_1 : Int) (x102000_1 : Int) (x108001_1 : List Int) (u108001 : Value), v17 = .int .i64 x17_1 ∧ Aside0 (bitset_Make.l0 kq l1 (l1.length : Int) x17_1 t103 x108001_1 = some (r1, r2, r3)) ∧ Aside0 (kq ≤ k) ∧ Aside0 (Kd.R (Kd.int .u64) 82 w' w.heap.size (fun _ => True) u108001 x108001_1) ∧ Aside0 (w'.heap[gb101]? = some (.cells #[.int .i64 x102000_1, (.slice none 0 0)] 26 (0, 0))) ∧ Aside0 (w'.heap[gb107]? = some (.cells #[.int .i64 t103, u108001] 26 (0, 0))) ∧ Aside0 (Below w.heap.size w w'))
    case atStart => exact ⟨(0), (0), (t104), (.slice Ao11 t104.length co11), (by first | rfl | (simp; done) | (simp [*]; done)), H', ⟨Nat.le_refl _⟩, ⟨by (with_reducible repeat (first | apply Kd.R_alloc | apply Kd.R_drewN | apply Kd.R_drew)); exact Kd.R_mono (Kd.R_far (p := ⟨gb107, 1, none⟩) (Kd.R_far (p := ⟨gb107, 0, none⟩) (Kd.R_types HO106.out BK107.out (by decide)) (fun _ hk => hk.2) (.int .i64 t103)) (fun _ hk => hk.2) (.slice Ao11 t104.length co11)) (fun _ hk => trivial)⟩, ⟨by (with_reducible repeat (first | refine blk_drewN ?_ _ | refine blk_drew ?_ | refine blk_alloc ?_ _)); refine blk_far ?_ NB101_107.out _; (with_reducible repeat (first | refine blk_drewN ?_ _ | refine blk_drew ?_ | refine blk_alloc ?_ _)); refine blk_far ?_ NB101_107.out _; (with_reducible repeat (first | refine blk_drewN ?_ _ | refine blk_drew ?_ | refine blk_alloc ?_ _)); exact BK101.out⟩, ⟨by (with_reducible repeat (first | refine blk_drewN ?_ _ | refine blk_drew ?_ | refine blk_alloc ?_ _)); refine blk_put (cs := #[.int .i64 t103, .slice none 0 0]) ?_ 1 _ rfl; (with_reducible repeat (first | refine blk_drewN ?_ _ | refine blk_drew ?_ | refine blk_alloc ?_ _)); refine blk_put (cs := #[.int .i64 0, .slice none 0 0]) ?_ 0 _ rfl; (with_reducible repeat (first | refine blk_drewN ?_ _ | refine blk_drew ?_ | refine blk_alloc ?_ _)); exact BK107.out⟩, ⟨by repeat (first | (with_reducible first | exact HB.out | apply below_alloc | apply pw_below_drewN | apply below_drew1 | refine below_set ?_ GE101.out | refine below_set ?_ GE107.out) | exact HB.out)⟩⟩
    case round =>
      clear H'
      try clear c1
      try clear p2
      try clear c4
      try clear c5
      try clear c9
      try clear hcz10_0
      try clear hcz10_1
      try clear hfz10_0
      try clear hfz10_1
      obtain ⟨x17_1, x102000_1, x108001_1, u108001, rfl, HA, HK1, HO_108001, BK101, BK107, HB⟩ := hrel
      cases gk with
      | zero => exact absurd HA.out (by simp [bitset_Make.l0])
      | succ k1 =>
        have H := HA.out
        clear HA
        simp only [bitset_Make.l0] at H
        by_cases c12 : x17_1 < (l1.length : Int)
        · rw [if_pos c12] at H
          have c12b0 : decide (x17_1 < (l1.length : Int)) = true := decide_eq_true c12
          clear c12
          by_cases c13 : 0 ≤ x17_1
          · rw [if_pos c13] at H
            have c13b0 : decide (0 ≤ x17_1) = true := decide_eq_true c13
            clear c13
            by_cases c14 : x17_1 < (l1.length : Int)
            · rw [if_pos c14] at H
              have c14b0 : decide (x17_1 < (l1.length : Int)) = true := decide_eq_true c14
              clear c14
              replace H := Option.bind_eq_some_iff.mp H
              obtain ⟨t109, A150, H⟩ := H
              replace H : (if t109 = true then ((bitset_put.f t103 x108001_1 (rd l1 x17_1)).bind fun t110 => (bitset_Make.l0 k1 l1 (l1.length : Int) (wrap64 (x17_1 + 1)) t103 t110)) else (some (0, ([] : List Int), 62))) = some (r1, r2, r3) := H
              have A15 := Aside0.mk A150
              clear A150
              by_cases c16 : t109 = true
              · subst c16
                have H1 : ((bitset_put.f t103 x108001_1 (rd l1 x17_1)).bind fun t110 => (bitset_Make.l0 k1 l1 (l1.length : Int) (wrap64 (x17_1 + 1)) t103 t110)) = some (r1, r2, r3) := by rw [if_pos rfl] at H; exact H
                clear H
                have H := H1
                clear H1
                replace H := Option.bind_eq_some_iff.mp H
                obtain ⟨t110, A170, H⟩ := H
                replace H : (bitset_Make.l0 k1 l1 (l1.length : Int) (wrap64 (x17_1 + 1)) t103 t110) = some (r1, r2, r3) := H
                have A17 := Aside0.mk A170
                clear A170
                have H' := Aside0.mk H
                clear H
                have p108 : 0 ≤ (x17_1 : Int) := of_decide_eq_true (by first | (with_reducible assumption) | assumption)
                have q108 : x17_1 < (l1.length : Int) := of_decide_eq_true (by first | (with_reducible assumption) | assumption)
                obtain ⟨ad108, e108, hx108_0⟩ := Kd.at_int HR1.out x17_1 p108 q108
                cases e108
                replace hx108_0 := (HB.out.cell (World.block_lt_of_cell? w _ hx108_0)).trans hx108_0
                replace p108 := eq_true p108
                replace q108 := eq_true q108
                have hnb18 := NB107_101.out
                have hnc18 := NB101_107.out
                have hcz19_0 : wr.cell? ⟨gb107, 0, none⟩ = some (.int .i64 t103) := (blk_cell BK107.out 0).trans rfl
                have hcz19_1 : wr.cell? ⟨gb107, 1, none⟩ = some (u108001) := (blk_cell BK107.out 1).trans rfl
                have hfz19_0 := blk_frozen BK107.out 0
                have hfz19_1 := blk_frozen BK107.out 1
                obtain ⟨Ao20, co20, eo20⟩ := Kd.R_slice HO_108001.out
                subst eo20
                go_wp2_with (first | ((with_reducible refine gate_callee (f := 57) rfl ?_); refine goesL_ (some 23) rfl rfl Try.func57 (by kernel_rfl) rfl #[.agg #[.int .i64 t103, .slice Ao20 x108001_1.length co20], .int .i64 (rd l1 x17_1)] rfl (by (try simp only [List.map_toArray, List.map_cons, List.map_nil]); first | done | rfl | (simp only [List.length_drop, List.length_take]; rfl)) ?_; (with_reducible refine (bitset_within.calls t103 _ _ x108001_1 (rd l1 x17_1) true _ ?side1 ?side2 A15.out).mono ?_); (case side1 => repeat (first | exact (Kd.R_reads' HO_108001.out).2.2 | (with_reducible refine Kd.C_alloc ?_ _) | (with_reducible refine Kd.C_drewN ?_ _) | (with_reducible refine Kd.C_drew ?_))); (case side2 => exact (Kd.R_reads' HO_108001.out).2.1); rintro e w21 ⟨rfl, hb⟩; refine ⟨_, rfl, ?_⟩; have n0_ := Aside0.mk (Kd.R_below (by (with_reducible repeat (first | apply Kd.R_alloc | apply Kd.R_drewN | apply Kd.R_drew)); exact HO_108001.out) hb); have n1_ := Aside0.mk (blk_below (g := gb101) (o := .cells #[.int .i64 x102000_1, .slice none 0 0] 26 (0, 0)) (by (with_reducible repeat (first | refine blk_drewN ?_ _ | refine blk_drew ?_ | refine blk_alloc ?_ _)); exact BK101.out) hb); have n2_ := Aside0.mk (blk_below (g := gb107) (o := .cells #[.int .i64 t103, .slice Ao20 x108001_1.length co20] 26 (0, 0)) (by (with_reducible repeat (first | refine blk_drewN ?_ _ | refine blk_drew ?_ | refine blk_alloc ?_ _)); exact BK107.out) hb); have n3_ := Aside0.mk (below_step (by repeat (first | (with_reducible first | exact HB.out | apply below_alloc | apply pw_below_drewN | apply below_drew1 | refine below_set ?_ GE101.out | refine below_set ?_ GE107.out) | exact HB.out)) hb); clear HO_108001; clear BK101; clear BK107; clear HB; have HO_108001 := n0_; have BK101 := n1_; have BK107 := n2_; have HB := n3_; clear n0_ n1_ n2_ n3_; (try clear hb); (try clear hb2); (try clear hk); (try clear hi); have hcz22_0 : w21.cell? ⟨gb107, 0, none⟩ = some (.int .i64 t103) := (blk_cell BK107.out 0).trans rfl; have hcz22_1 : w21.cell? ⟨gb107, 1, none⟩ = some (.slice Ao20 x108001_1.length co20) := (blk_cell BK107.out 1).trans rfl; have hfz22_0 := blk_frozen BK107.out 0; have hfz22_1 := blk_frozen BK107.out 1) | ((with_reducible refine gate_callee (f := 58) rfl ?_); refine goesL_ (some 28) rfl rfl Try.func58 (by kernel_rfl) rfl #[.agg #[.int .i64 t103, .slice Ao20 x108001_1.length co20], .int .i64 (rd l1 x17_1)] rfl (by (try simp only [List.map_toArray, List.map_cons, List.map_nil]); first | done | rfl | (simp only [List.length_drop, List.length_take]; rfl)) ?_; (with_reducible refine (bitset_put.calls t103 (fun k_ => some k_ = (.slice Ao20 x108001_1.length co20 : Value).ownBlock) (.slice Ao20 x108001_1.length co20) x108001_1 (rd l1 x17_1) t110 w _ ?side1 ?side2 A17.out).mono ?_); (case side1 => repeat (first | (with_reducible first | exact HB.out | apply below_alloc | apply pw_below_drewN | apply below_drew1 | refine below_set ?_ GE101.out | refine below_set ?_ GE107.out) | exact HB.out)); (case side2 => exact Kd.R_tight rfl HO_108001.out); rintro e w23 ⟨rfl, hy0, hb, hkp⟩; refine ⟨_, rfl, ?_⟩; have n0_ := Aside0.mk (Kd.R_reok rfl hy0 (fun k_ e_ => HO_108001.out.1 k_ e_)); have n1_ := Aside0.mk (blk_kept (by (with_reducible repeat (first | refine blk_drewN ?_ _ | refine blk_drew ?_ | refine blk_alloc ?_ _)); exact BK101.out) hkp (fun hs_ => (fun e_ => (Kd.R_ne HO_108001.out BK101.out (by decide)) e_) hs_)); have n2_ := Aside0.mk (blk_kept (by (with_reducible repeat (first | refine blk_drewN ?_ _ | refine blk_drew ?_ | refine blk_alloc ?_ _)); exact BK107.out) hkp (fun hs_ => (fun e_ => (Kd.R_ne HO_108001.out BK107.out (by decide)) e_) hs_)); have n3_ := Aside0.mk (hb); clear HO_108001; clear BK101; clear BK107; clear HB; have HO_108001 := n0_; have BK101 := n1_; have BK107 := n2_; have HB := n3_; clear n0_ n1_ n2_ n3_; (try clear hb); (try clear hkp); (try clear hy0)))
                go_roundg k1
                case measure => have := HK1.out; omega
                case rel => exact ⟨(wrap64 (x17_1 + 1)), (x102000_1), (t110), (.slice Ao20 x108001_1.length co20), (by first | rfl | (simp; done) | (simp [*]; done)), H', ⟨by have := HK1.out; omega⟩, ⟨by (with_reducible repeat (first | apply Kd.R_alloc | apply Kd.R_drewN | apply Kd.R_drew)); exact HO_108001.out⟩, ⟨by (with_reducible repeat (first | refine blk_drewN ?_ _ | refine blk_drew ?_ | refine blk_alloc ?_ _)); exact BK101.out⟩, ⟨by (with_reducible repeat (first | refine blk_drewN ?_ _ | refine blk_drew ?_ | refine blk_alloc ?_ _)); exact BK107.out⟩, ⟨by repeat (first | (with_reducible first | exact HB.out | apply below_alloc | apply pw_below_drewN | apply below_drew1 | refine below_set ?_ GE101.out | refine below_set ?_ GE107.out) | exact HB.out)⟩⟩
              · replace c16 := Bool.eq_false_iff.mpr c16
                subst c16
                have H1 : (some (0, ([] : List Int), 62)) = some (r1, r2, r3) := by rw [if_neg (show ¬ (false = true) by decide)] at H; exact H
                clear H
                have H := H1
                clear H1
                simp only [Option.some.injEq, Prod.mk.injEq] at H
                obtain ⟨rfl, rfl, rfl⟩ := H
                have p108 : 0 ≤ (x17_1 : Int) := of_decide_eq_true (by first | (with_reducible assumption) | assumption)
                have q108 : x17_1 < (l1.length : Int) := of_decide_eq_true (by first | (with_reducible assumption) | assumption)
                obtain ⟨ad108, e108, hx108_0⟩ := Kd.at_int HR1.out x17_1 p108 q108
                cases e108
                replace hx108_0 := (HB.out.cell (World.block_lt_of_cell? w _ hx108_0)).trans hx108_0
                replace p108 := eq_true p108
                replace q108 := eq_true q108
                have hnb24 := NB107_101.out
                have hnc24 := NB101_107.out
                have hcz25_0 : wr.cell? ⟨gb107, 0, none⟩ = some (.int .i64 t103) := (blk_cell BK107.out 0).trans rfl
                have hcz25_1 : wr.cell? ⟨gb107, 1, none⟩ = some (u108001) := (blk_cell BK107.out 1).trans rfl
                have hfz25_0 := blk_frozen BK107.out 0
                have hfz25_1 := blk_frozen BK107.out 1
                obtain ⟨Ao26, co26, eo26⟩ := Kd.R_slice HO_108001.out
                subst eo26
                go_wp2_with (first | ((with_reducible refine gate_callee (f := 57) rfl ?_); refine goesL_ (some 23) rfl rfl Try.func57 (by kernel_rfl) rfl #[.agg #[.int .i64 t103, .slice Ao26 x108001_1.length co26], .int .i64 (rd l1 x17_1)] rfl (by (try simp only [List.map_toArray, List.map_cons, List.map_nil]); first | done | rfl | (simp only [List.length_drop, List.length_take]; rfl)) ?_; (with_reducible refine (bitset_within.calls t103 _ _ x108001_1 (rd l1 x17_1) false _ ?side1 ?side2 A15.out).mono ?_); (case side1 => repeat (first | exact (Kd.R_reads' HO_108001.out).2.2 | (with_reducible refine Kd.C_alloc ?_ _) | (with_reducible refine Kd.C_drewN ?_ _) | (with_reducible refine Kd.C_drew ?_))); (case side2 => exact (Kd.R_reads' HO_108001.out).2.1); rintro e w27 ⟨rfl, hb⟩; refine ⟨_, rfl, ?_⟩; have n0_ := Aside0.mk (Kd.R_below (by (with_reducible repeat (first | apply Kd.R_alloc | apply Kd.R_drewN | apply Kd.R_drew)); exact HO_108001.out) hb); have n1_ := Aside0.mk (blk_below (g := gb101) (o := .cells #[.int .i64 x102000_1, .slice none 0 0] 26 (0, 0)) (by (with_reducible repeat (first | refine blk_drewN ?_ _ | refine blk_drew ?_ | refine blk_alloc ?_ _)); exact BK101.out) hb); have n2_ := Aside0.mk (blk_below (g := gb107) (o := .cells #[.int .i64 t103, .slice Ao26 x108001_1.length co26] 26 (0, 0)) (by (with_reducible repeat (first | refine blk_drewN ?_ _ | refine blk_drew ?_ | refine blk_alloc ?_ _)); exact BK107.out) hb); have n3_ := Aside0.mk (below_step (by repeat (first | (with_reducible first | exact HB.out | apply below_alloc | apply pw_below_drewN | apply below_drew1 | refine below_set ?_ GE101.out | refine below_set ?_ GE107.out) | exact HB.out)) hb); clear HO_108001; clear BK101; clear BK107; clear HB; have HO_108001 := n0_; have BK101 := n1_; have BK107 := n2_; have HB := n3_; clear n0_ n1_ n2_ n3_; (try clear hb); (try clear hb2); (try clear hk); (try clear hi); have hcz28_0 : w27.cell? ⟨gb101, 0, none⟩ = some (.int .i64 x102000_1) := (blk_cell BK101.out 0).trans rfl; have hcz28_1 : w27.cell? ⟨gb101, 1, none⟩ = some (.slice none 0 0) := (blk_cell BK101.out 1).trans rfl; have hfz28_0 := blk_frozen BK101.out 0; have hfz28_1 := blk_frozen BK101.out 1))
                refine bodyPost_ret (results_ct rfl _ _ gb101 26 #[.int .i64 0, .slice none 0 0] (0, 0) _ rfl (by (with_reducible repeat (first | refine blk_drewN ?_ _ | refine blk_drew ?_ | refine blk_alloc ?_ _)); refine blk_put (cs := #[.int .i64 0, .slice none 0 0]) ?_ 1 _ rfl; (with_reducible repeat (first | refine blk_drewN ?_ _ | refine blk_drew ?_ | refine blk_alloc ?_ _)); refine blk_put (cs := #[.int .i64 x102000_1, .slice none 0 0]) ?_ 0 _ rfl; (with_reducible repeat (first | refine blk_drewN ?_ _ | refine blk_drew ?_ | refine blk_alloc ?_ _)); exact BK101.out) Try.underlying26 rfl (by kernel_rfl)) rfl ?_
                exact ⟨_, by first | rfl | (simp [errW_none, errW_some] <;> rfl) | (simp [*, errW_none, errW_some] <;> rfl), by first | exact Kd.R_nil _ _ _ _ _ | exact Kd.N_nil _ _ _ _ _ | exact Kd.V_nil _ _ _ _ _ | exact Kd.Q_nil _ _ _ _ _ | exact Kd.S_nil _ _ _ _ _, by repeat (first | (with_reducible first | exact HB.out | apply below_alloc | apply pw_below_drewN | apply below_drew1 | refine below_set ?_ GE101.out | refine below_set ?_ GE107.out) | exact HB.out)⟩
            · rw [if_neg c14] at H
              exact absurd H (by simp)
          · rw [if_neg c13] at H
            exact absurd H (by simp)
        · rw [if_neg c12] at H
          have c12b0 : decide (x17_1 < (l1.length : Int)) = false := decide_eq_false c12
          clear c12
          simp only [Option.some.injEq, Prod.mk.injEq] at H
          obtain ⟨rfl, rfl, rfl⟩ := H
          have hnb29 := NB107_101.out
          have hnc29 := NB101_107.out
          have hcz30_0 : wr.cell? ⟨gb107, 0, none⟩ = some (.int .i64 t103) := (blk_cell BK107.out 0).trans rfl
          have hcz30_1 : wr.cell? ⟨gb107, 1, none⟩ = some (u108001) := (blk_cell BK107.out 1).trans rfl
          have hfz30_0 := blk_frozen BK107.out 0
          have hfz30_1 := blk_frozen BK107.out 1
          have hcz31_0 : wr.cell? ⟨gb101, 0, none⟩ = some (.int .i64 x102000_1) := (blk_cell BK101.out 0).trans rfl
          have hcz31_1 : wr.cell? ⟨gb101, 1, none⟩ = some (.slice none 0 0) := (blk_cell BK101.out 1).trans rfl
          have hfz31_0 := blk_frozen BK101.out 0
          have hfz31_1 := blk_frozen BK101.out 1
          obtain ⟨Ao32, co32, eo32⟩ := Kd.R_slice HO_108001.out
          subst eo32
          go_wp2
          refine bodyPost_ret (results_ct rfl _ _ gb101 26 #[.int .i64 t103, .slice Ao32 x108001_1.length co32] (0, 0) _ rfl (by (with_reducible repeat (first | refine blk_drewN ?_ _ | refine blk_drew ?_ | refine blk_alloc ?_ _)); refine blk_put (cs := #[.int .i64 t103, .slice none 0 0]) ?_ 1 _ rfl; (with_reducible repeat (first | refine blk_drewN ?_ _ | refine blk_drew ?_ | refine blk_alloc ?_ _)); refine blk_put (cs := #[.int .i64 x102000_1, .slice none 0 0]) ?_ 0 _ rfl; (with_reducible repeat (first | refine blk_drewN ?_ _ | refine blk_drew ?_ | refine blk_alloc ?_ _)); exact BK101.out) Try.underlying26 rfl (by kernel_rfl)) rfl ?_
          exact ⟨_, by first | rfl | (simp [errW_none, errW_some] <;> rfl) | (simp [*, errW_none, errW_some] <;> rfl), by (with_reducible repeat (first | apply Kd.R_alloc | apply Kd.R_drewN | apply Kd.R_drew)); exact Kd.R_mono (Kd.R_far (p := ⟨gb101, 1, none⟩) (Kd.R_far (p := ⟨gb101, 0, none⟩) (Kd.R_types HO_108001.out BK101.out (by decide)) (fun _ hk => hk.2) (.int .i64 t103)) (fun _ hk => hk.2) (.slice Ao32 x108001_1.length co32)) (fun _ hk => trivial), by repeat (first | (with_reducible first | exact HB.out | apply below_alloc | apply pw_below_drewN | apply below_drew1 | refine below_set ?_ GE101.out | refine below_set ?_ GE107.out) | exact HB.out)⟩
  · replace c4 := Bool.eq_false_iff.mpr c4
    subst c4
    have H1 : (some (0, ([] : List Int), 60)) = some (r1, r2, r3) := by rw [if_neg (show ¬ (false = true) by decide)] at H; exact H
    clear H
    have H := H1
    clear H1
    simp only [Option.some.injEq, Prod.mk.injEq] at H
    obtain ⟨rfl, rfl, rfl⟩ := H
    go_enter Try.func14, Try.ntmps14
    go_wp2_with (first | ((with_reducible refine gate_dst (N := 4) rfl ?_); refine box_event ?hg (N := 4) ?hd (cs := #[.int .i64 0, .slice none 0 0]) (t := 26) ?hr ?_; (case hd => rfl); (case hg => rfl); (case hr => first | (go_simp; done) | (go_simp; rfl)); intro gb101 hg w33 hbox hb; have n0_ := Aside0.mk (below_step (by repeat (first | (with_reducible first | exact HB.out | apply below_alloc | apply pw_below_drewN | apply below_drew1) | exact HB.out)) hb); have n1_ := Aside0.mk (hbox); have n2_ := Aside0.mk ((by rw [hg]; exact (below_size (by repeat (first | (with_reducible first | exact HB.out | apply below_alloc | apply pw_below_drewN | apply below_drew1) | exact HB.out))) : w.heap.size ≤ gb101)); have n3_ := Aside0.mk ((by rw [hg]; exact (below_size (by repeat (first | (with_reducible first | exact HB.out | apply below_alloc | apply pw_below_drewN | apply below_drew1) | exact HB.out))) : w.heap.size ≤ gb101)); clear HB; have HB := n0_; have BK101 := n1_; have GW101 := n2_; have GE101 := n3_; clear n0_ n1_ n2_ n3_; clear hb hbox hg) | ((with_reducible refine gate_callee (f := 55) rfl ?_); refine goesL_ (some 10) rfl rfl Try.func55 (by kernel_rfl) rfl #[.int .i64 a0] rfl (by (try simp only [List.map_toArray, List.map_cons, List.map_nil]); first | done | rfl | (simp only [List.length_drop, List.length_take]; rfl)) ?_; (with_reducible refine (bitset_sized.calls a0 false _ A3.out).mono ?_); rintro e w' ⟨rfl, ⟨nd, rfl⟩⟩; refine ⟨_, rfl, ?_⟩; (try (rw [drewN_self w33]; generalize hq_ : World.drewN w33 _ = w33; have n0_ : Aside0 (w33.heap[gb101]? = some (.cells #[.int .i64 0, .slice none 0 0] 26 (0, 0))) := ⟨by rw [← hq_]; exact (by (with_reducible repeat (first | refine blk_drewN ?_ _ | refine blk_drew ?_ | refine blk_alloc ?_ _)); exact BK101.out)⟩; have n1_ : Aside0 (Below w.heap.size w w33) := ⟨by rw [← hq_]; exact (by repeat (first | (with_reducible first | exact HB.out | apply below_alloc | apply pw_below_drewN | apply below_drew1 | refine below_set ?_ GE101.out) | exact HB.out))⟩; clear BK101 HB hq_; have BK101 := n0_; have HB := n1_; clear n0_ n1_)); have hcz34_0 : w33.cell? ⟨gb101, 0, none⟩ = some (.int .i64 0) := (blk_cell BK101.out 0).trans rfl; have hcz34_1 : w33.cell? ⟨gb101, 1, none⟩ = some (.slice none 0 0) := (blk_cell BK101.out 1).trans rfl; have hfz34_0 := blk_frozen BK101.out 0; have hfz34_1 := blk_frozen BK101.out 1))
    refine bodyPost_ret (results_ct rfl _ _ gb101 26 #[.int .i64 0, .slice none 0 0] (0, 0) _ rfl (by (with_reducible repeat (first | refine blk_drewN ?_ _ | refine blk_drew ?_ | refine blk_alloc ?_ _)); refine blk_put (cs := #[.int .i64 0, .slice none 0 0]) ?_ 1 _ rfl; (with_reducible repeat (first | refine blk_drewN ?_ _ | refine blk_drew ?_ | refine blk_alloc ?_ _)); refine blk_put (cs := #[.int .i64 0, .slice none 0 0]) ?_ 0 _ rfl; (with_reducible repeat (first | refine blk_drewN ?_ _ | refine blk_drew ?_ | refine blk_alloc ?_ _)); exact BK101.out) Try.underlying26 rfl (by kernel_rfl)) rfl ?_
    exact ⟨_, by first | rfl | (simp [errW_none, errW_some] <;> rfl) | (simp [*, errW_none, errW_some] <;> rfl), by first | exact Kd.R_nil _ _ _ _ _ | exact Kd.N_nil _ _ _ _ _ | exact Kd.V_nil _ _ _ _ _ | exact Kd.Q_nil _ _ _ _ _ | exact Kd.S_nil _ _ _ _ _, by repeat (first | (with_reducible first | exact HB.out | apply below_alloc | apply pw_below_drewN | apply below_drew1 | refine below_set ?_ GE101.out) | exact HB.out)⟩
end Go.Proofs.Ytjmkhdhffmlhiaa.PAll
end
section
namespace Go.Proofs.Ytjmkhdhffmlhiaa.PAll
open Go.RowKit Go.Proofs.YtjmkhdhffmlhiaaW.PrintWords Go.Proofs.YtjmkhdhffmlhiaaW.PrintLast Go.Proofs.YtjmkhdhffmlhiaaW.PrintMore
attribute [local go_sem] max2_int min2_int max_two min_two max_three min_three max_four min_four w64_u8 w64_mod256   -- for this text's walks alone
set_option linter.unusedVariables false
set_option linter.unusedSimpArgs false
end Go.Proofs.Ytjmkhdhffmlhiaa.PAll
end
section
namespace Go.Proofs.Ytjmkhdhffmlhiaa.PAll
open Go.RowKit Go.Proofs.YtjmkhdhffmlhiaaW.PrintWords Go.Proofs.YtjmkhdhffmlhiaaW.PrintLast Go.Proofs.YtjmkhdhffmlhiaaW.PrintMore
attribute [local go_sem] max2_int min2_int max_two min_two max_three min_three max_four min_four w64_u8 w64_mod256   -- for this text's walks alone
set_option linter.unusedVariables false
set_option linter.unusedSimpArgs false
end Go.Proofs.Ytjmkhdhffmlhiaa.PAll
end
section
namespace Go.Proofs.Ytjmkhdhffmlhiaa.PAll
open Go.RowKit Go.Proofs.YtjmkhdhffmlhiaaW.PrintWords Go.Proofs.YtjmkhdhffmlhiaaW.PrintLast Go.Proofs.YtjmkhdhffmlhiaaW.PrintMore
attribute [local go_sem] max2_int min2_int max_two min_two max_three min_three max_four min_four w64_u8 w64_mod256   -- for this text's walks alone
set_option linter.unusedVariables false
set_option linter.unusedSimpArgs false
end Go.Proofs.Ytjmkhdhffmlhiaa.PAll
end
section
namespace Go.Proofs.Ytjmkhdhffmlhiaa.PAll
open Go.RowKit Go.Proofs.YtjmkhdhffmlhiaaW.PrintWords Go.Proofs.YtjmkhdhffmlhiaaW.PrintLast Go.Proofs.YtjmkhdhffmlhiaaW.PrintMore
attribute [local go_sem] max2_int min2_int max_two min_two max_three min_three max_four min_four w64_u8 w64_mod256   -- for this text's walks alone
set_option linter.unusedVariables false
set_option linter.unusedSimpArgs false
end Go.Proofs.Ytjmkhdhffmlhiaa.PAll
end
section
namespace Go.Proofs.Ytjmkhdhffmlhiaa.PAll
open Go.RowKit Go.Proofs.YtjmkhdhffmlhiaaW.PrintWords Go.Proofs.YtjmkhdhffmlhiaaW.PrintLast Go.Proofs.YtjmkhdhffmlhiaaW.PrintMore
attribute [local go_sem] max2_int min2_int max_two min_two max_three min_three max_four min_four w64_u8 w64_mod256   -- for this text's walks alone
set_option linter.unusedVariables false
set_option linter.unusedSimpArgs false
mutual
def slopelaw3_same.j0 : Nat → Bool → Int → List Int → Int → List Int → Option (Bool)
  | 0, _, _, _, _, _ => none
  | k + 1, x19, x102000, x102001, x103000, x103001 => if x19 = true then (some false) else (slopelaw3_same.l0 k 0 x102000 x102001 x103000 x103001)
def slopelaw3_same.l0 : Nat → Int → Int → List Int → Int → List Int → Option (Bool)
  | 0, _, _, _, _, _ => none
  | k + 1, x5, x102000, x102001, x103000, x103001 => if x5 < (x102001.length : Int) then (if 0 ≤ x5 then (if x5 < (x103001.length : Int) then (if (rd x102001 x5) = (rd x103001 x5) then (slopelaw3_same.l0 k (wrap64 (x5 + 1)) x102000 x102001 x103000 x103001) else (some false)) else (none)) else (none)) else (some true)
end
def slopelaw3_same.f (k : Nat) (a0_0 : Int) (l0_1 : List Int) (a1_0 : Int) (l1_1 : List Int) : Option (Bool) := if a0_0 = a1_0 then (slopelaw3_same.j0 k ((l0_1.length : Int) != (l1_1.length : Int)) a0_0 l0_1 a1_0 l1_1) else (slopelaw3_same.j0 k true a0_0 l0_1 a1_0 l1_1)
theorem slopelaw3_same.mono_l : ∀ k, (∀ y0 y1 y2 y3 y4, LeO (slopelaw3_same.j0 k y0 y1 y2 y3 y4) (slopelaw3_same.j0 (k + 1) y0 y1 y2 y3 y4)) ∧ (∀ y0 y1 y2 y3 y4, LeO (slopelaw3_same.l0 k y0 y1 y2 y3 y4) (slopelaw3_same.l0 (k + 1) y0 y1 y2 y3 y4))
  | 0 => ⟨fun _ _ _ _ _ r h => by simp [slopelaw3_same.j0] at h, fun _ _ _ _ _ r h => by simp [slopelaw3_same.l0] at h⟩
  | k + 1 => by
    obtain ⟨ih0, ih1⟩ := slopelaw3_same.mono_l k
    refine ⟨?_, ?_⟩
    · intro y0 y1 y2 y3 y4
      unfold slopelaw3_same.j0
      repeat' first
      | (with_reducible exact ih0 _ _ _ _ _)
      | (with_reducible exact ih1 _ _ _ _ _)
      | (with_reducible exact LeO.refl _)
      | (with_reducible exact LeO.none _)
      | (with_reducible refine LeO.ite ?_ ?_)
      | (with_reducible refine LeO.bind ?_ (fun _ => ?_))
      | exact ih0 _ _ _ _ _
      | exact ih1 _ _ _ _ _
      | exact LeO.none _
      | refine LeO.ite ?_ ?_
      | refine LeO.bind ?_ (fun _ => ?_)
    · intro y0 y1 y2 y3 y4
      unfold slopelaw3_same.l0
      repeat' first
      | (with_reducible exact ih0 _ _ _ _ _)
      | (with_reducible exact ih1 _ _ _ _ _)
      | (with_reducible exact LeO.refl _)
      | (with_reducible exact LeO.none _)
      | (with_reducible refine LeO.ite ?_ ?_)
      | (with_reducible refine LeO.bind ?_ (fun _ => ?_))
      | exact ih0 _ _ _ _ _
      | exact ih1 _ _ _ _ _
      | exact LeO.none _
      | refine LeO.ite ?_ ?_
      | refine LeO.bind ?_ (fun _ => ?_)
theorem slopelaw3_same.mono : ∀ a0 a1 a2 a3 k, LeO (slopelaw3_same.f k a0 a1 a2 a3) (slopelaw3_same.f (k + 1) a0 a1 a2 a3) := by
  intro a0 a1 a2 a3 k
  obtain ⟨ih0, ih1⟩ := slopelaw3_same.mono_l k
  unfold slopelaw3_same.f
  repeat' first
      | (with_reducible exact ih0 _ _ _ _ _)
      | (with_reducible exact ih1 _ _ _ _ _)
      | (with_reducible exact LeO.refl _)
      | (with_reducible exact LeO.none _)
      | (with_reducible refine LeO.ite ?_ ?_)
      | (with_reducible refine LeO.bind ?_ (fun _ => ?_))
      | exact ih0 _ _ _ _ _
      | exact ih1 _ _ _ _ _
      | exact LeO.none _
      | refine LeO.ite ?_ ?_
      | refine LeO.bind ?_ (fun _ => ?_)
set_option maxHeartbeats 8000000 in
set_option maxRecDepth 100000 in
theorem slopelaw3_same.calls (k : Nat) (a0_0 : Int) (A0_1 : Option Addr) (c0_1 : Nat) (l0_1 : List Int) (a1_0 : Int) (A1_1 : Option Addr) (c1_1 : Nat) (l1_1 : List Int) (r : Bool) (w : World) (hr0_1 : Kd.C (Kd.int .u64) w A0_1 l0_1.length l0_1) (hc0_1 : l0_1.length ≤ c0_1) (hr1_1 : Kd.C (Kd.int .u64) w A1_1 l1_1.length l1_1) (hc1_1 : l1_1.length ≤ c1_1) (h : slopelaw3_same.f k a0_0 l0_1 a1_0 l1_1 = some r) :
    Calls Try.prog 18 #[.agg #[.int .i64 a0_0, .slice A0_1 l0_1.length c0_1], .agg #[.int .i64 a1_0, .slice A1_1 l1_1.length c1_1]] w fun e w' => e = .returned (.bool r) ∧ Below w.heap.size w w' := by
  have hu26 := Try.underlying26
  have HR0_1 := Aside0.mk hr0_1
  have HC0_1 := Aside0.mk hc0_1
  clear hr0_1 hc0_1
  have HR1_1 := Aside0.mk hr1_1
  have HC1_1 := Aside0.mk hc1_1
  clear hr1_1 hc1_1
  have HB := Aside0.mk (Below.refl w.heap.size w)
  have H : (if a0_0 = a1_0 then (slopelaw3_same.j0 k ((l0_1.length : Int) != (l1_1.length : Int)) a0_0 l0_1 a1_0 l1_1) else (slopelaw3_same.j0 k true a0_0 l0_1 a1_0 l1_1)) = some r := h
  clear h
  have HC3 := Aside0.mk H
  clear H
  go_enter Try.func18, Try.ntmps18
  go_upto_region 1 with (first | ((with_reducible refine gate_dst (N := 2) rfl ?_); (try (refine gate_guard (by rfl) ?_; dsimp only)); refine box_event ?hg (N := 2) ?hd (cs := #[.int .i64 a0_0, .slice A0_1 l0_1.length c0_1]) (t := 26) ?hr ?_; (case hd => rfl); (case hg => rfl); (case hr => first | (go_simp; done) | (go_simp; rfl)); intro gb101 hg w4 hbox hb; have n0_ := Aside0.mk (below_step (by repeat (first | (with_reducible first | exact HB.out | apply below_alloc | apply pw_below_drewN | apply below_drew1) | exact HB.out)) hb); have n1_ := Aside0.mk (hbox); have n2_ := Aside0.mk ((by rw [hg]; exact (below_size (by repeat (first | (with_reducible first | exact HB.out | apply below_alloc | apply pw_below_drewN | apply below_drew1) | exact HB.out))) : w.heap.size ≤ gb101)); have n3_ := Aside0.mk ((by rw [hg]; exact (below_size (by repeat (first | (with_reducible first | exact HB.out | apply below_alloc | apply pw_below_drewN | apply below_drew1) | exact HB.out))) : w.heap.size ≤ gb101)); clear HB; have HB := n0_; have BK101 := n1_; have GW101 := n2_; have GE101 := n3_; clear n0_ n1_ n2_ n3_; clear hb hbox hg) | ((with_reducible refine gate_dst (N := 3) rfl ?_); (try (refine gate_guard (by rfl) ?_; dsimp only)); refine box_event ?hg (N := 3) ?hd (cs := #[.int .i64 a1_0, .slice A1_1 l1_1.length c1_1]) (t := 26) ?hr ?_; (case hd => rfl); (case hg => rfl); (case hr => first | (go_simp; done) | (go_simp; rfl)); intro gb102 hg w5 hbox hb; have n0_ := Aside0.mk (blk_below (g := gb101) (o := .cells #[.int .i64 a0_0, .slice A0_1 l0_1.length c0_1] 26 (0, 0)) (by (with_reducible repeat (first | refine blk_drewN ?_ _ | refine blk_drew ?_ | refine blk_alloc ?_ _)); exact BK101.out) hb); have n1_ := Aside0.mk (below_step (by repeat (first | (with_reducible first | exact HB.out | apply below_alloc | apply pw_below_drewN | apply below_drew1 | refine below_set ?_ GE101.out) | exact HB.out)) hb); have n2_ := Aside0.mk (hbox); have n3_ := Aside0.mk ((by rw [hg]; exact (below_size (by repeat (first | (with_reducible first | exact HB.out | apply below_alloc | apply pw_below_drewN | apply below_drew1 | refine below_set ?_ GE101.out) | exact HB.out))) : w.heap.size ≤ gb102)); have n4_ := Aside0.mk ((by rw [hg]; exact (below_size (by repeat (first | (with_reducible first | exact HB.out | apply below_alloc | apply pw_below_drewN | apply below_drew1 | refine below_set ?_ GE101.out) | exact HB.out))) : w.heap.size ≤ gb102)); have n5_ := Aside0.mk ((by rw [hg]; exact Nat.ne_of_lt (blk_lt (g := gb101) (o := .cells #[.int .i64 a0_0, .slice A0_1 l0_1.length c0_1] 26 (0, 0)) (by (with_reducible repeat (first | refine blk_drewN ?_ _ | refine blk_drew ?_ | refine blk_alloc ?_ _)); exact BK101.out)) : gb101 ≠ gb102)); have n6_ := Aside0.mk ((by rw [hg]; exact Nat.ne_of_gt (blk_lt (g := gb101) (o := .cells #[.int .i64 a0_0, .slice A0_1 l0_1.length c0_1] 26 (0, 0)) (by (with_reducible repeat (first | refine blk_drewN ?_ _ | refine blk_drew ?_ | refine blk_alloc ?_ _)); exact BK101.out)) : gb102 ≠ gb101)); clear BK101; clear HB; have BK101 := n0_; have HB := n1_; have BK102 := n2_; have GW102 := n3_; have GE102 := n4_; have NB101_102 := n5_; have NB102_101 := n6_; clear n0_ n1_ n2_ n3_ n4_ n5_ n6_; clear hb hbox hg))
  repeat (go_quiet (first | ((with_reducible refine gate_dst (N := 2) rfl ?_); (try (refine gate_guard (by rfl) ?_; dsimp only)); refine box_event ?hg (N := 2) ?hd (cs := #[.int .i64 a0_0, .slice A0_1 l0_1.length c0_1]) (t := 26) ?hr ?_; (case hd => rfl); (case hg => rfl); (case hr => first | (go_simp; done) | (go_simp; rfl)); intro gb101 hg w4 hbox hb; have n0_ := Aside0.mk (below_step (by repeat (first | (with_reducible first | exact HB.out | apply below_alloc | apply pw_below_drewN | apply below_drew1) | exact HB.out)) hb); have n1_ := Aside0.mk (hbox); have n2_ := Aside0.mk ((by rw [hg]; exact (below_size (by repeat (first | (with_reducible first | exact HB.out | apply below_alloc | apply pw_below_drewN | apply below_drew1) | exact HB.out))) : w.heap.size ≤ gb101)); have n3_ := Aside0.mk ((by rw [hg]; exact (below_size (by repeat (first | (with_reducible first | exact HB.out | apply below_alloc | apply pw_below_drewN | apply below_drew1) | exact HB.out))) : w.heap.size ≤ gb101)); clear HB; have HB := n0_; have BK101 := n1_; have GW101 := n2_; have GE101 := n3_; clear n0_ n1_ n2_ n3_; clear hb hbox hg) | ((with_reducible refine gate_dst (N := 3) rfl ?_); (try (refine gate_guard (by rfl) ?_; dsimp only)); refine box_event ?hg (N := 3) ?hd (cs := #[.int .i64 a1_0, .slice A1_1 l1_1.length c1_1]) (t := 26) ?hr ?_; (case hd => rfl); (case hg => rfl); (case hr => first | (go_simp; done) | (go_simp; rfl)); intro gb102 hg w5 hbox hb; have n0_ := Aside0.mk (blk_below (g := gb101) (o := .cells #[.int .i64 a0_0, .slice A0_1 l0_1.length c0_1] 26 (0, 0)) (by (with_reducible repeat (first | refine blk_drewN ?_ _ | refine blk_drew ?_ | refine blk_alloc ?_ _)); exact BK101.out) hb); have n1_ := Aside0.mk (below_step (by repeat (first | (with_reducible first | exact HB.out | apply below_alloc | apply pw_below_drewN | apply below_drew1 | refine below_set ?_ GE101.out) | exact HB.out)) hb); have n2_ := Aside0.mk (hbox); have n3_ := Aside0.mk ((by rw [hg]; exact (below_size (by repeat (first | (with_reducible first | exact HB.out | apply below_alloc | apply pw_below_drewN | apply below_drew1 | refine below_set ?_ GE101.out) | exact HB.out))) : w.heap.size ≤ gb102)); have n4_ := Aside0.mk ((by rw [hg]; exact (below_size (by repeat (first | (with_reducible first | exact HB.out | apply below_alloc | apply pw_below_drewN | apply below_drew1 | refine below_set ?_ GE101.out) | exact HB.out))) : w.heap.size ≤ gb102)); have n5_ := Aside0.mk ((by rw [hg]; exact Nat.ne_of_lt (blk_lt (g := gb101) (o := .cells #[.int .i64 a0_0, .slice A0_1 l0_1.length c0_1] 26 (0, 0)) (by (with_reducible repeat (first | refine blk_drewN ?_ _ | refine blk_drew ?_ | refine blk_alloc ?_ _)); exact BK101.out)) : gb101 ≠ gb102)); have n6_ := Aside0.mk ((by rw [hg]; exact Nat.ne_of_gt (blk_lt (g := gb101) (o := .cells #[.int .i64 a0_0, .slice A0_1 l0_1.length c0_1] 26 (0, 0)) (by (with_reducible repeat (first | refine blk_drewN ?_ _ | refine blk_drew ?_ | refine blk_alloc ?_ _)); exact BK101.out)) : gb102 ≠ gb101)); clear BK101; clear HB; have BK101 := n0_; have HB := n1_; have BK102 := n2_; have GW102 := n3_; have GE102 := n4_; have NB101_102 := n5_; have NB102_101 := n6_; clear n0_ n1_ n2_ n3_ n4_ n5_ n6_; clear hb hbox hg)); go_upto_region 1 with (first | ((with_reducible refine gate_dst (N := 2) rfl ?_); (try (refine gate_guard (by rfl) ?_; dsimp only)); refine box_event ?hg (N := 2) ?hd (cs := #[.int .i64 a0_0, .slice A0_1 l0_1.length c0_1]) (t := 26) ?hr ?_; (case hd => rfl); (case hg => rfl); (case hr => first | (go_simp; done) | (go_simp; rfl)); intro gb101 hg w4 hbox hb; have n0_ := Aside0.mk (below_step (by repeat (first | (with_reducible first | exact HB.out | apply below_alloc | apply pw_below_drewN | apply below_drew1) | exact HB.out)) hb); have n1_ := Aside0.mk (hbox); have n2_ := Aside0.mk ((by rw [hg]; exact (below_size (by repeat (first | (with_reducible first | exact HB.out | apply below_alloc | apply pw_below_drewN | apply below_drew1) | exact HB.out))) : w.heap.size ≤ gb101)); have n3_ := Aside0.mk ((by rw [hg]; exact (below_size (by repeat (first | (with_reducible first | exact HB.out | apply below_alloc | apply pw_below_drewN | apply below_drew1) | exact HB.out))) : w.heap.size ≤ gb101)); clear HB; have HB := n0_; have BK101 := n1_; have GW101 := n2_; have GE101 := n3_; clear n0_ n1_ n2_ n3_; clear hb hbox hg) | ((with_reducible refine gate_dst (N := 3) rfl ?_); (try (refine gate_guard (by rfl) ?_; dsimp only)); refine box_event ?hg (N := 3) ?hd (cs := #[.int .i64 a1_0, .slice A1_1 l1_1.length c1_1]) (t := 26) ?hr ?_; (case hd => rfl); (case hg => rfl); (case hr => first | (go_simp; done) | (go_simp; rfl)); intro gb102 hg w5 hbox hb; have n0_ := Aside0.mk (blk_below (g := gb101) (o := .cells #[.int .i64 a0_0, .slice A0_1 l0_1.length c0_1] 26 (0, 0)) (by (with_reducible repeat (first | refine blk_drewN ?_ _ | refine blk_drew ?_ | refine blk_alloc ?_ _)); exact BK101.out) hb); have n1_ := Aside0.mk (below_step (by repeat (first | (with_reducible first | exact HB.out | apply below_alloc | apply pw_below_drewN | apply below_drew1 | refine below_set ?_ GE101.out) | exact HB.out)) hb); have n2_ := Aside0.mk (hbox); have n3_ := Aside0.mk ((by rw [hg]; exact (below_size (by repeat (first | (with_reducible first | exact HB.out | apply below_alloc | apply pw_below_drewN | apply below_drew1 | refine below_set ?_ GE101.out) | exact HB.out))) : w.heap.size ≤ gb102)); have n4_ := Aside0.mk ((by rw [hg]; exact (below_size (by repeat (first | (with_reducible first | exact HB.out | apply below_alloc | apply pw_below_drewN | apply below_drew1 | refine below_set ?_ GE101.out) | exact HB.out))) : w.heap.size ≤ gb102)); have n5_ := Aside0.mk ((by rw [hg]; exact Nat.ne_of_lt (blk_lt (g := gb101) (o := .cells #[.int .i64 a0_0, .slice A0_1 l0_1.length c0_1] 26 (0, 0)) (by (with_reducible repeat (first | refine blk_drewN ?_ _ | refine blk_drew ?_ | refine blk_alloc ?_ _)); exact BK101.out)) : gb101 ≠ gb102)); have n6_ := Aside0.mk ((by rw [hg]; exact Nat.ne_of_gt (blk_lt (g := gb101) (o := .cells #[.int .i64 a0_0, .slice A0_1 l0_1.length c0_1] 26 (0, 0)) (by (with_reducible repeat (first | refine blk_drewN ?_ _ | refine blk_drew ?_ | refine blk_alloc ?_ _)); exact BK101.out)) : gb102 ≠ gb101)); clear BK101; clear HB; have BK101 := n0_; have HB := n1_; have BK102 := n2_; have GW102 := n3_; have GE102 := n4_; have NB101_102 := n5_; have NB102_101 := n6_; clear n0_ n1_ n2_ n3_ n4_ n5_ n6_; clear hb hbox hg)))
  (try simp only [Act.put, List.setIfInBounds_toArray, List.set_cons_zero, List.set_cons_succ])
  go_cut [19] (fun v19 wc => ∃ (kq : Nat) (x19_2 : Bool), v19 = .bool x19_2 ∧ Aside0 (slopelaw3_same.j0 kq x19_2 a0_0 l0_1 a1_0 l1_1 = some r) ∧ Aside0 (kq ≤ k) ∧ Aside0 (wc.heap[gb101]? = some (.cells #[.int .i64 a0_0, (.slice A0_1 l0_1.length c0_1)] 26 (0, 0))) ∧ Aside0 (wc.heap[gb102]? = some (.cells #[.int .i64 a1_0, (.slice A1_1 l1_1.length c1_1)] 26 (0, 0))) ∧ Aside0 (Below w.heap.size w wc))
  case first =>
    have H := HC3.out
    clear HC3
    by_cases c6 : a0_0 = a1_0
    · rw [if_pos c6] at H
      have c6b0 : (a0_0 == a1_0) = true := beq_iff_eq.mpr c6
      have c6b1 : (a0_0 != a1_0) = false := bne_eq_false_iff_eq.mpr c6
      clear c6
      (first | rw [c6b0] | (simp only [i64_w, i32_w]; rw [c6b0]) | skip)
      have H' := Aside0.mk H
      clear H
      have hnb7 := NB101_102.out
      have hnc7 := NB102_101.out
      have hcz8_0 : w5.cell? ⟨gb101, 0, none⟩ = some (.int .i64 a0_0) := (blk_cell BK101.out 0).trans rfl
      have hcz8_1 : w5.cell? ⟨gb101, 1, none⟩ = some (.slice A0_1 l0_1.length c0_1) := (blk_cell BK101.out 1).trans rfl
      have hfz8_0 := blk_frozen BK101.out 0
      have hfz8_1 := blk_frozen BK101.out 1
      have hcz9_0 : w5.cell? ⟨gb102, 0, none⟩ = some (.int .i64 a1_0) := (blk_cell BK102.out 0).trans rfl
      have hcz9_1 : w5.cell? ⟨gb102, 1, none⟩ = some (.slice A1_1 l1_1.length c1_1) := (blk_cell BK102.out 1).trans rfl
      have hfz9_0 := blk_frozen BK102.out 0
      have hfz9_1 := blk_frozen BK102.out 1
      go_wp2
      repeat (go_quiet (fail); try go_wp2)
      go_meet
      case rel => exact ⟨_, (((l0_1.length : Int) != (l1_1.length : Int))), (by first | rfl | (simp; done) | (simp [*]; done)), H', ⟨by first | omega | exact Nat.le_refl _⟩, ⟨by (with_reducible repeat (first | refine blk_drewN ?_ _ | refine blk_drew ?_ | refine blk_alloc ?_ _)); exact BK101.out⟩, ⟨by (with_reducible repeat (first | refine blk_drewN ?_ _ | refine blk_drew ?_ | refine blk_alloc ?_ _)); exact BK102.out⟩, ⟨by repeat (first | (with_reducible first | exact HB.out | apply below_alloc | apply pw_below_drewN | apply below_drew1 | refine below_set ?_ GE101.out | refine below_set ?_ GE102.out) | exact HB.out)⟩⟩
    · rw [if_neg c6] at H
      have c6b0 : (a0_0 == a1_0) = false := beq_eq_false_iff_ne.mpr c6
      have c6b1 : (a0_0 != a1_0) = true := bne_iff_ne.mpr c6
      (first | rw [c6b0] | (simp only [i64_w, i32_w]; rw [c6b0]) | skip)
      have H' := Aside0.mk H
      clear H
      have hnb10 := NB101_102.out
      have hnc10 := NB102_101.out
      have hcz11_0 : w5.cell? ⟨gb101, 0, none⟩ = some (.int .i64 a0_0) := (blk_cell BK101.out 0).trans rfl
      have hcz11_1 : w5.cell? ⟨gb101, 1, none⟩ = some (.slice A0_1 l0_1.length c0_1) := (blk_cell BK101.out 1).trans rfl
      have hfz11_0 := blk_frozen BK101.out 0
      have hfz11_1 := blk_frozen BK101.out 1
      have hcz12_0 : w5.cell? ⟨gb102, 0, none⟩ = some (.int .i64 a1_0) := (blk_cell BK102.out 0).trans rfl
      have hcz12_1 : w5.cell? ⟨gb102, 1, none⟩ = some (.slice A1_1 l1_1.length c1_1) := (blk_cell BK102.out 1).trans rfl
      have hfz12_0 := blk_frozen BK102.out 0
      have hfz12_1 := blk_frozen BK102.out 1
      go_wp2
      repeat (go_quiet (fail); try go_wp2)
      go_meet
      case rel => exact ⟨_, (true), (by first | rfl | (simp; done) | (simp [*]; done)), H', ⟨by first | omega | exact Nat.le_refl _⟩, ⟨by (with_reducible repeat (first | refine blk_drewN ?_ _ | refine blk_drew ?_ | refine blk_alloc ?_ _)); exact BK101.out⟩, ⟨by (with_reducible repeat (first | refine blk_drewN ?_ _ | refine blk_drew ?_ | refine blk_alloc ?_ _)); exact BK102.out⟩, ⟨by repeat (first | (with_reducible first | exact HB.out | apply below_alloc | apply pw_below_drewN | apply below_drew1 | refine below_set ?_ GE101.out | refine below_set ?_ GE102.out) | exact HB.out)⟩⟩
  case rest =>
    clear HC3
    try clear c1
    try clear p2
    try clear c6
    try clear c6b0
    try clear c6b1
    try clear c7
    try clear c10
    try clear hcz11_0
    try clear hcz11_1
    try clear hcz12_0
    try clear hcz12_1
    try clear hcz8_0
    try clear hcz8_1
    try clear hcz9_0
    try clear hcz9_1
    try clear hfz11_0
    try clear hfz11_1
    try clear hfz12_0
    try clear hfz12_1
    try clear hfz8_0
    try clear hfz8_1
    try clear hfz9_0
    try clear hfz9_1
    obtain ⟨kq, x19_2, rfl, HA, HJ2, BK101, BK102, HB⟩ := hcut
    cases kq with
    | zero => exact absurd HA.out (by simp [slopelaw3_same.j0])
    | succ kj2 =>
      have H := HA.out
      clear HA
      simp only [slopelaw3_same.j0] at H
      by_cases c13 : x19_2 = true
      · subst c13
        have H1 : (some false) = some r := by rw [if_pos rfl] at H; exact H
        clear H
        have H := H1
        clear H1
        obtain rfl := Option.some.inj H
        go_wp2
        repeat (go_quiet (fail); try go_wp2)
        go_ret
        exact ⟨by first | rfl | (simp [errW_none, errW_some] <;> rfl) | (simp [*, errW_none, errW_some] <;> rfl), by repeat (first | (with_reducible first | exact HB.out | apply below_alloc | apply pw_below_drewN | apply below_drew1 | refine below_set ?_ GE101.out | refine below_set ?_ GE102.out) | exact HB.out)⟩
      · replace c13 := Bool.eq_false_iff.mpr c13
        subst c13
        have H1 : (slopelaw3_same.l0 kj2 0 a0_0 l0_1 a1_0 l1_1) = some r := by rw [if_neg (show ¬ (false = true) by decide)] at H; exact H
        clear H
        have H := H1
        clear H1
        have H' := Aside0.mk H
        clear H
        go_wp2
        repeat (go_quiet (fail); try go_wp2)
        go_loopg [5] kj2 (fun kq v5 w' => ∃ (x5_2 : Int), v5 = .int .i64 x5_2 ∧ Aside0 (slopelaw3_same.l0 kq x5_2 a0_0 l0_1 a1_0 l1_1 = some r) ∧ Aside0 (kq ≤ kj2) ∧ Aside0 (w'.heap[gb101]? = some (.cells #[.int .i64 a0_0, (.slice A0_1 l0_1.length c0_1)] 26 (0, 0))) ∧ Aside0 (w'.heap[gb102]? = some (.cells #[.int .i64 a1_0, (.slice A1_1 l1_1.length c1_1)] 26 (0, 0))) ∧ Aside0 (Below w.heap.size w w'))
        case atStart => exact ⟨(0), (by first | rfl | (simp; done) | (simp [*]; done)), H', ⟨Nat.le_refl _⟩, ⟨by (with_reducible repeat (first | refine blk_drewN ?_ _ | refine blk_drew ?_ | refine blk_alloc ?_ _)); exact BK101.out⟩, ⟨by (with_reducible repeat (first | refine blk_drewN ?_ _ | refine blk_drew ?_ | refine blk_alloc ?_ _)); exact BK102.out⟩, ⟨by repeat (first | (with_reducible first | exact HB.out | apply below_alloc | apply pw_below_drewN | apply below_drew1 | refine below_set ?_ GE101.out | refine below_set ?_ GE102.out) | exact HB.out)⟩⟩
        case round =>
          clear H'
          try clear c1
          try clear p2
          try clear c6
          try clear c6b0
          try clear c6b1
          try clear c7
          try clear c10
          try clear c13
          try clear hcz11_0
          try clear hcz11_1
          try clear hcz12_0
          try clear hcz12_1
          try clear hcz8_0
          try clear hcz8_1
          try clear hcz9_0
          try clear hcz9_1
          try clear hfz11_0
          try clear hfz11_1
          try clear hfz12_0
          try clear hfz12_1
          try clear hfz8_0
          try clear hfz8_1
          try clear hfz9_0
          try clear hfz9_1
          try clear p2
          obtain ⟨x5_2, rfl, HA, HK2, BK101, BK102, HB⟩ := hrel
          cases gk with
          | zero => exact absurd HA.out (by simp [slopelaw3_same.l0])
          | succ k2 =>
            have H := HA.out
            clear HA
            simp only [slopelaw3_same.l0] at H
            by_cases c14 : x5_2 < (l0_1.length : Int)
            · rw [if_pos c14] at H
              have c14b0 : decide (x5_2 < (l0_1.length : Int)) = true := decide_eq_true c14
              clear c14
              by_cases c15 : 0 ≤ x5_2
              · rw [if_pos c15] at H
                have c15b0 : decide (0 ≤ x5_2) = true := decide_eq_true c15
                clear c15
                by_cases c16 : x5_2 < (l1_1.length : Int)
                · rw [if_pos c16] at H
                  have c16b0 : decide (x5_2 < (l1_1.length : Int)) = true := decide_eq_true c16
                  clear c16
                  by_cases c17 : (rd l0_1 x5_2) = (rd l1_1 x5_2)
                  · rw [if_pos c17] at H
                    have c17b0 : ((rd l0_1 x5_2) == (rd l1_1 x5_2)) = true := beq_iff_eq.mpr c17
                    have c17b1 : ((rd l0_1 x5_2) != (rd l1_1 x5_2)) = false := bne_eq_false_iff_eq.mpr c17
                    clear c17
                    have H' := Aside0.mk H
                    clear H
                    have hnb18 := NB101_102.out
                    have hnc18 := NB102_101.out
                    have hcz19_0 : wr.cell? ⟨gb101, 0, none⟩ = some (.int .i64 a0_0) := (blk_cell BK101.out 0).trans rfl
                    have hcz19_1 : wr.cell? ⟨gb101, 1, none⟩ = some (.slice A0_1 l0_1.length c0_1) := (blk_cell BK101.out 1).trans rfl
                    have hfz19_0 := blk_frozen BK101.out 0
                    have hfz19_1 := blk_frozen BK101.out 1
                    have p103 : 0 ≤ (x5_2 : Int) := of_decide_eq_true (by first | (with_reducible assumption) | assumption)
                    have q103 : x5_2 < (l0_1.length : Int) := of_decide_eq_true (by first | (with_reducible assumption) | assumption)
                    obtain ⟨ad103, e103, hx103_0⟩ := Kd.at_int HR0_1.out x5_2 p103 q103
                    cases e103
                    replace hx103_0 := (HB.out.cell (World.block_lt_of_cell? w _ hx103_0)).trans hx103_0
                    replace p103 := eq_true p103
                    replace q103 := eq_true q103
                    have hcz20_0 : wr.cell? ⟨gb102, 0, none⟩ = some (.int .i64 a1_0) := (blk_cell BK102.out 0).trans rfl
                    have hcz20_1 : wr.cell? ⟨gb102, 1, none⟩ = some (.slice A1_1 l1_1.length c1_1) := (blk_cell BK102.out 1).trans rfl
                    have hfz20_0 := blk_frozen BK102.out 0
                    have hfz20_1 := blk_frozen BK102.out 1
                    have p104 : 0 ≤ (x5_2 : Int) := of_decide_eq_true (by first | (with_reducible assumption) | assumption)
                    have q104 : x5_2 < (l1_1.length : Int) := of_decide_eq_true (by first | (with_reducible assumption) | assumption)
                    obtain ⟨ad104, e104, hx104_0⟩ := Kd.at_int HR1_1.out x5_2 p104 q104
                    cases e104
                    replace hx104_0 := (HB.out.cell (World.block_lt_of_cell? w _ hx104_0)).trans hx104_0
                    replace p104 := eq_true p104
                    replace q104 := eq_true q104
                    go_wp2
                    repeat (go_quiet (fail); try go_wp2)
                    go_roundg k2
                    case measure => have := HJ2.out; have := HK2.out; omega
                    case rel => exact ⟨(wrap64 (x5_2 + 1)), (by first | rfl | (simp; done) | (simp [*]; done)), H', ⟨by have := HJ2.out; have := HK2.out; omega⟩, ⟨by (with_reducible repeat (first | refine blk_drewN ?_ _ | refine blk_drew ?_ | refine blk_alloc ?_ _)); exact BK101.out⟩, ⟨by (with_reducible repeat (first | refine blk_drewN ?_ _ | refine blk_drew ?_ | refine blk_alloc ?_ _)); exact BK102.out⟩, ⟨by repeat (first | (with_reducible first | exact HB.out | apply below_alloc | apply pw_below_drewN | apply below_drew1 | refine below_set ?_ GE101.out | refine below_set ?_ GE102.out) | exact HB.out)⟩⟩
                  · rw [if_neg c17] at H
                    have c17b0 : ((rd l0_1 x5_2) == (rd l1_1 x5_2)) = false := beq_eq_false_iff_ne.mpr c17
                    have c17b1 : ((rd l0_1 x5_2) != (rd l1_1 x5_2)) = true := bne_iff_ne.mpr c17
                    obtain rfl := Option.some.inj H
                    have hnb21 := NB101_102.out
                    have hnc21 := NB102_101.out
                    have hcz22_0 : wr.cell? ⟨gb101, 0, none⟩ = some (.int .i64 a0_0) := (blk_cell BK101.out 0).trans rfl
                    have hcz22_1 : wr.cell? ⟨gb101, 1, none⟩ = some (.slice A0_1 l0_1.length c0_1) := (blk_cell BK101.out 1).trans rfl
                    have hfz22_0 := blk_frozen BK101.out 0
                    have hfz22_1 := blk_frozen BK101.out 1
                    have p103 : 0 ≤ (x5_2 : Int) := of_decide_eq_true (by first | (with_reducible assumption) | assumption)
                    have q103 : x5_2 < (l0_1.length : Int) := of_decide_eq_true (by first | (with_reducible assumption) | assumption)
                    obtain ⟨ad103, e103, hx103_0⟩ := Kd.at_int HR0_1.out x5_2 p103 q103
                    cases e103
                    replace hx103_0 := (HB.out.cell (World.block_lt_of_cell? w _ hx103_0)).trans hx103_0
                    replace p103 := eq_true p103
                    replace q103 := eq_true q103
                    have hcz23_0 : wr.cell? ⟨gb102, 0, none⟩ = some (.int .i64 a1_0) := (blk_cell BK102.out 0).trans rfl
                    have hcz23_1 : wr.cell? ⟨gb102, 1, none⟩ = some (.slice A1_1 l1_1.length c1_1) := (blk_cell BK102.out 1).trans rfl
                    have hfz23_0 := blk_frozen BK102.out 0
                    have hfz23_1 := blk_frozen BK102.out 1
                    have p104 : 0 ≤ (x5_2 : Int) := of_decide_eq_true (by first | (with_reducible assumption) | assumption)
                    have q104 : x5_2 < (l1_1.length : Int) := of_decide_eq_true (by first | (with_reducible assumption) | assumption)
                    obtain ⟨ad104, e104, hx104_0⟩ := Kd.at_int HR1_1.out x5_2 p104 q104
                    cases e104
                    replace hx104_0 := (HB.out.cell (World.block_lt_of_cell? w _ hx104_0)).trans hx104_0
                    replace p104 := eq_true p104
                    replace q104 := eq_true q104
                    go_wp2
                    repeat (go_quiet (fail); try go_wp2)
                    go_ret
                    exact ⟨by first | rfl | (simp [errW_none, errW_some] <;> rfl) | (simp [*, errW_none, errW_some] <;> rfl), by repeat (first | (with_reducible first | exact HB.out | apply below_alloc | apply pw_below_drewN | apply below_drew1 | refine below_set ?_ GE101.out | refine below_set ?_ GE102.out) | exact HB.out)⟩
                · rw [if_neg c16] at H
                  exact absurd H (by simp)
              · rw [if_neg c15] at H
                exact absurd H (by simp)
            · rw [if_neg c14] at H
              have c14b0 : decide (x5_2 < (l0_1.length : Int)) = false := decide_eq_false c14
              clear c14
              obtain rfl := Option.some.inj H
              have hnb24 := NB101_102.out
              have hnc24 := NB102_101.out
              have hcz25_0 : wr.cell? ⟨gb101, 0, none⟩ = some (.int .i64 a0_0) := (blk_cell BK101.out 0).trans rfl
              have hcz25_1 : wr.cell? ⟨gb101, 1, none⟩ = some (.slice A0_1 l0_1.length c0_1) := (blk_cell BK101.out 1).trans rfl
              have hfz25_0 := blk_frozen BK101.out 0
              have hfz25_1 := blk_frozen BK101.out 1
              go_wp2
              repeat (go_quiet (fail); try go_wp2)
              go_ret
              exact ⟨by first | rfl | (simp [errW_none, errW_some] <;> rfl) | (simp [*, errW_none, errW_some] <;> rfl), by repeat (first | (with_reducible first | exact HB.out | apply below_alloc | apply pw_below_drewN | apply below_drew1 | refine below_set ?_ GE101.out | refine below_set ?_ GE102.out) | exact HB.out)⟩
end Go.Proofs.Ytjmkhdhffmlhiaa.PAll
end
section
namespace Go.Proofs.Ytjmkhdhffmlhiaa.PAll
open Go.RowKit Go.Proofs.YtjmkhdhffmlhiaaW.PrintWords Go.Proofs.YtjmkhdhffmlhiaaW.PrintMore
theorem Ev.const {α : Type} {g : Nat → Option α} {r : α} (h : ∀ k, g k = some r) : Ev g r := ⟨0, fun k _ => h k⟩
theorem sized_yes {n : Nat} (h : n ≤ 4096) : bitset_sized.f (n : Int) = some true := by
  unfold bitset_sized.f
  rw [if_pos (by omega), decide_eq_true (by omega)]
theorem sized_no {n : Int} (h : n < 0 ∨ 4096 < n) : bitset_sized.f n = some false := by
  unfold bitset_sized.f
  by_cases h0 : n ≥ 0
  · rw [if_pos h0, decide_eq_false (by omega)]
  · rw [if_neg h0]
theorem words_eq {n : Nat} (h : n ≤ 4096) : bitset_words.f (n : Int) = some (((n + 63) / 64 : Nat) : Int) := by
  unfold bitset_words.f
  have h1 : wrap64 (wrap64 ((n : Int) + 64) - 1) = ((n + 63 : Nat) : Int) := by unfold wrap64; omega
  rw [h1, tdiv_nat]
  congr 1
  apply w64_nat <;> omega
theorem blank_eq {n : Nat} (h : n ≤ 4096) : bitset_blank.f (n : Int) = some ((n : Int), List.replicate ((n + 63) / 64) 0) := by
  unfold bitset_blank.f
  rw [words_eq h]
  simp only [Option.bind_some, Int.toNat_natCast]
  rw [if_pos (by omega), if_pos (by omega)]
theorem within_yes {n e : Nat} (ws : List Int) (h : e < n) : bitset_within.f (n : Int) ws (e : Int) = some true := by
  unfold bitset_within.f
  rw [if_pos (by omega), decide_eq_true (by omega)]
theorem within_no {n : Nat} (ws : List Int) {e : Int} (h : e < 0 ∨ (n : Int) ≤ e) : bitset_within.f (n : Int) ws e = some false := by
  unfold bitset_within.f
  by_cases h0 : e ≥ 0
  · rw [if_pos h0, decide_eq_false (by omega)]
  · rw [if_neg h0]
theorem put_eq {n : Int} {ws : List Int} {e : Nat} (he : e / 64 < ws.length) (hb : e < 1000000) : bitset_put.f n ws (e : Int) = some (putw ws e) := by
  unfold bitset_put.f
  rw [tdiv_nat, tmod_nat, w64_nat (by omega) (by omega), if_pos (by omega), if_pos (by omega), if_pos (by omega)]
  simp only [Int.toNat_natCast, putw, rd_nat]
theorem Make_loop (n : Nat) (hn : n ≤ 4096) (l : List Int) (hl : l.length ≤ 9223372036854775807) : ∀ (d i : Nat) (p : Nat → Bool) (ws : List Int), i + d = l.length → Is n p ws →
    (∃ ws', Is n (fun e => p e || decide ((e : Int) ∈ l.drop i)) ws' ∧ (∀ x ∈ l.drop i, 0 ≤ x ∧ x < n) ∧ Ev (fun k => bitset_Make.l0 k l (l.length : Int) (i : Int) (n : Int) ws) ((n : Int), ws', 0)) ∨
    ((∃ x ∈ l.drop i, x < 0 ∨ (n : Int) ≤ x) ∧ Ev (fun k => bitset_Make.l0 k l (l.length : Int) (i : Int) (n : Int) ws) (0, [], 62)) := by
  intro d
  induction d with
  | zero =>
    intro i p ws hi h
    refine .inl ⟨ws, ?_, ?_, ⟨1, fun k hk => ?_⟩⟩
    · rw [List.drop_eq_nil_of_le (by omega)]; simpa using h
    · rw [List.drop_eq_nil_of_le (by omega)]; intro x hx; cases hx
    · obtain ⟨k, rfl⟩ : ∃ m, k = m + 1 := ⟨k - 1, by omega⟩
      simp only [bitset_Make.l0]
      rw [if_neg (by omega)]
  | succ d ih =>
    intro i p ws hi h
    have hlt : i < l.length := by omega
    have hr : rd l (i : Int) = l[i] := by simp [rd, List.getD_eq_getElem?_getD, List.getElem?_eq_getElem hlt]
    rw [List.drop_eq_getElem_cons hlt]
    by_cases hx : 0 ≤ l[i] ∧ l[i] < n
    · obtain ⟨e, he⟩ := Int.eq_ofNat_of_zero_le hx.1
      have hen : e < n := by omega
      have hstep : ∀ k, bitset_Make.l0 (k + 1) l (l.length : Int) (i : Int) (n : Int) ws = bitset_Make.l0 k l (l.length : Int) ((i + 1 : Nat) : Int) (n : Int) (putw ws e) := by
        intro k
        conv => lhs; rw [bitset_Make.l0]
        rw [if_pos (by omega), if_pos (by omega), if_pos (by omega), hr, he, within_yes ws hen, Option.bind_some, if_pos rfl, put_eq (h.lt hen) (by omega), Option.bind_some]
        rw [show wrap64 ((i : Int) + 1) = ((i + 1 : Nat) : Int) by unfold wrap64; omega]
      rcases ih (i + 1) _ (putw ws e) (by omega) (h.put hen) with ⟨ws', h1, h2, h3⟩ | ⟨h2, h3⟩
      · refine .inl ⟨ws', h1.congr fun a _ => ?_, ?_, Ev.step hstep h3⟩
        · rw [he]
          by_cases ha : a = e
          · subst ha; simp
          · have : ¬ ((a : Int) = (e : Int)) := by omega
            simp [ha, this]
        · intro x hx'
          rcases List.mem_cons.1 hx' with rfl | h4
          · exact hx
          · exact h2 x h4
      · obtain ⟨x, h4, h5⟩ := h2
        exact .inr ⟨⟨x, List.mem_cons_of_mem _ h4, h5⟩, Ev.step hstep h3⟩
    · refine .inr ⟨⟨l[i], List.mem_cons_self, by omega⟩, ⟨1, fun k hk => ?_⟩⟩
      obtain ⟨k, rfl⟩ : ∃ m, k = m + 1 := ⟨k - 1, by omega⟩
      simp only [bitset_Make.l0]
      rw [if_pos (by omega), if_pos (by omega), if_pos (by omega), hr, within_no ws (by omega)]
      simp
def MakeSays (size : Int) (l : List Int) (r : Int × List Int × Int) : Prop :=
  ((size < 0 ∨ 4096 < size) ∧ r = (0, [], 60)) ∨ (0 ≤ size ∧ size ≤ 4096 ∧ (((∃ x ∈ l, x < 0 ∨ size ≤ x) ∧ r = (0, [], 62)) ∨
    ((∀ x ∈ l, 0 ≤ x ∧ x < size) ∧ ∃ ws, Is size.toNat (fun e => decide ((e : Int) ∈ l)) ws ∧ r = (size, ws, 0))))
theorem MakeSays.eq {size : Int} {l : List Int} {r q : Int × List Int × Int} (h : MakeSays size l r) (k : MakeSays size l q) : r = q := by
  rcases h with ⟨h1, rfl⟩ | ⟨h1, h2, ⟨⟨x, h3, h4⟩, rfl⟩ | ⟨h3, ws, h4, rfl⟩⟩ <;> rcases k with ⟨k1, rfl⟩ | ⟨k1, k2, ⟨⟨y, k3, k4⟩, rfl⟩ | ⟨k3, vs, k4, rfl⟩⟩
  · rfl
  · omega
  · omega
  · omega
  · rfl
  · have := k3 x h3; omega
  · omega
  · have := h3 y k3; omega
  · rw [h4.eq k4 (fun _ _ => rfl)]
theorem Make_eq (size : Int) (l : List Int) (hl : l.length ≤ 9223372036854775807) : ∃ r, MakeSays size l r ∧ Ev (fun k => bitset_Make.f k size l) r := by
  by_cases hs : 0 ≤ size ∧ size ≤ 4096
  · obtain ⟨n, rfl⟩ := Int.eq_ofNat_of_zero_le hs.1
    have hn : n ≤ 4096 := by omega
    have he : ∀ k, bitset_Make.f k (n : Int) l = bitset_Make.l0 k l (l.length : Int) ((0 : Nat) : Int) (n : Int) (List.replicate ((n + 63) / 64) 0) := by
      intro k
      unfold bitset_Make.f
      rw [sized_yes hn, blank_eq hn]
      simp
    rcases Make_loop n hn l hl l.length 0 _ _ (by omega) (Is.none n) with ⟨ws, h1, h2, h3⟩ | ⟨h2, h3⟩
    · rw [List.drop_zero] at h2
      exact ⟨_, .inr ⟨by omega, by omega, .inr ⟨h2, ws, by simpa using h1, rfl⟩⟩, Ev.congr he h3⟩
    · rw [List.drop_zero] at h2
      exact ⟨_, .inr ⟨by omega, by omega, .inl ⟨h2, rfl⟩⟩, Ev.congr he h3⟩
  · refine ⟨_, .inl ⟨by omega, rfl⟩, Ev.const fun k => ?_⟩
    unfold bitset_Make.f
    rw [sized_no (by omega), Option.bind_some, if_neg (by simp)]
theorem span_tb {f t : Nat} (h1 : f < t) (h2 : t ≤ 64) (j : Nat) :
    tb (shl .u64 (shr .u64 18446744073709551615 (64 - ((t : Int) - (f : Int)))) (f : Int)) j = (decide (f ≤ j) && decide (j < t)) ∧ Wd (shl .u64 (shr .u64 18446744073709551615 (64 - ((t : Int) - (f : Int)))) (f : Int)) := by
  have hone : Wd 18446744073709551615 := by unfold Wd; omega
  have hs : (64 - ((t : Int) - (f : Int))) = ((64 - (t - f) : Nat) : Int) := by omega
  have h3 : shr .u64 18446744073709551615 (64 - ((t : Int) - (f : Int))) = ((2 ^ (t - f) - 1 : Nat) : Int) := by
    rw [hs, shr_eq hone (by omega) (by omega), Int.toNat_natCast]
    congr 1
    rw [show (18446744073709551615 : Int).toNat = 2 ^ 64 - 1 by decide]
    apply Nat.eq_of_testBit_eq
    intro i
    rw [Nat.testBit_shiftRight, Nat.testBit_two_pow_sub_one, Nat.testBit_two_pow_sub_one]
    congr 1
    simp only [eq_iff_iff]
    omega
  have hp : 0 < 2 ^ (t - f) := Nat.two_pow_pos _
  have hlt : (2 ^ (t - f) - 1) * 2 ^ f < 2 ^ 64 := by
    have h4 : 2 ^ (t - f) * 2 ^ f = 2 ^ t := by rw [← Nat.pow_add]; congr 1; omega
    have h5 : 2 ^ t ≤ 2 ^ 64 := Nat.pow_le_pow_right (by decide) h2
    have h6 : 0 < 2 ^ f := Nat.two_pow_pos _
    rw [Nat.sub_mul, h4]
    omega
  have hw : Wd (((2 ^ (t - f) - 1) * 2 ^ f : Nat) : Int) := Wd.of hlt
  have h7 : shl .u64 ((2 ^ (t - f) - 1 : Nat) : Int) (f : Int) = (((2 ^ (t - f) - 1) * 2 ^ f : Nat) : Int) := by
    unfold shl
    rw [show min (f : Int).toNat IntKind.u64.bits = f by simp [IntKind.bits]; omega]
    have : ((2 ^ (t - f) - 1 : Nat) : Int) * 2 ^ f = (((2 ^ (t - f) - 1) * 2 ^ f : Nat) : Int) := by rw [Int.natCast_mul]; simp
    rw [this, wraps_u64 _ hw]
  rw [h3, h7]
  refine ⟨?_, hw⟩
  unfold tb
  rw [Int.toNat_natCast, ← Nat.shiftLeft_eq, Nat.testBit_shiftLeft, Nat.testBit_two_pow_sub_one]
  by_cases h8 : f ≤ j
  · simp only [h8, decide_true, Bool.true_and]
    congr 1
    simp only [eq_iff_iff]
    omega
  · simp [h8]
theorem hb_set (ws : List Int) (i : Nat) (x : Int) (hi : i < ws.length) (e : Nat) : hb (ws.set i x) e = if i = e / 64 then tb x (e % 64) else hb ws e := by
  unfold hb
  rw [getD_set _ _ _ _ hi]
  split <;> rfl
end Go.Proofs.Ytjmkhdhffmlhiaa.PAll
end
section
namespace Go.Proofs.Ytjmkhdhffmlhiaa.PAll
open Go.RowKit Go.Proofs.YtjmkhdhffmlhiaaW.PrintWords Go.Proofs.YtjmkhdhffmlhiaaW.PrintLast Go.Proofs.YtjmkhdhffmlhiaaW.PrintMore
attribute [local go_sem] max2_int min2_int max_two min_two max_three min_three max_four min_four w64_u8 w64_mod256   -- for this text's walks alone
set_option linter.unusedVariables false
set_option linter.unusedSimpArgs false
end Go.Proofs.Ytjmkhdhffmlhiaa.PAll
end
section
namespace Go.Proofs.Ytjmkhdhffmlhiaa.PAll
open Go.RowKit Go.Proofs.YtjmkhdhffmlhiaaW.PrintWords Go.Proofs.YtjmkhdhffmlhiaaW.PrintLast Go.Proofs.YtjmkhdhffmlhiaaW.PrintMore
attribute [local go_sem] max2_int min2_int max_two min_two max_three min_three max_four min_four w64_u8 w64_mod256   -- for this text's walks alone
set_option linter.unusedVariables false
set_option linter.unusedSimpArgs false
end Go.Proofs.Ytjmkhdhffmlhiaa.PAll
end
section
namespace Go.Proofs.Ytjmkhdhffmlhiaa.PAll
open Go.RowKit Go.Proofs.YtjmkhdhffmlhiaaW.PrintWords Go.Proofs.YtjmkhdhffmlhiaaW.PrintLast Go.Proofs.YtjmkhdhffmlhiaaW.PrintMore
attribute [local go_sem] max2_int min2_int max_two min_two max_three min_three max_four min_four w64_u8 w64_mod256   -- for this text's walks alone
set_option linter.unusedVariables false
set_option linter.unusedSimpArgs false
end Go.Proofs.Ytjmkhdhffmlhiaa.PAll
end
section
namespace Go.Proofs.Ytjmkhdhffmlhiaa.PAll
open Go.RowKit Go.Proofs.YtjmkhdhffmlhiaaW.PrintWords Go.Proofs.YtjmkhdhffmlhiaaW.PrintLast Go.Proofs.YtjmkhdhffmlhiaaW.PrintMore
attribute [local go_sem] max2_int min2_int max_two min_two max_three min_three max_four min_four w64_u8 w64_mod256   -- for this text's walks alone
set_option linter.unusedVariables false
set_option linter.unusedSimpArgs false
end Go.Proofs.Ytjmkhdhffmlhiaa.PAll
end
section
namespace Go.Proofs.Ytjmkhdhffmlhiaa.PAll
open Go.RowKit Go.Proofs.YtjmkhdhffmlhiaaW.PrintWords Go.Proofs.YtjmkhdhffmlhiaaW.PrintLast Go.Proofs.YtjmkhdhffmlhiaaW.PrintMore
attribute [local go_sem] max2_int min2_int max_two min_two max_three min_three max_four min_four w64_u8 w64_mod256   -- for this text's walks alone
set_option linter.unusedVariables false
set_option linter.unusedSimpArgs false
def bitset_mask.f (a0 : Int) : Option (Int) := if (Int.tmod a0 64) = 0 then (some 18446744073709551615) else (if 0 ≤ (Int.tmod a0 64) then (some (IntKind.u64.wrap ((shl .u64 1 (Int.tmod a0 64)) - 1))) else (none))
set_option maxHeartbeats 8000000 in
set_option maxRecDepth 100000 in
theorem bitset_mask.calls (a0 : Int) (r : Int) (w : World) (h : bitset_mask.f a0 = some r) :
    Calls Try.prog 63 #[.int .i64 a0] w fun e w' => e = .returned (.int .u64 r) ∧ Drawn0 w w' := by
  have H : (if (Int.tmod a0 64) = 0 then (some 18446744073709551615) else (if 0 ≤ (Int.tmod a0 64) then (some (IntKind.u64.wrap ((shl .u64 1 (Int.tmod a0 64)) - 1))) else (none))) = some r := h
  clear h
  by_cases c2 : (Int.tmod a0 64) = 0
  · rw [if_pos c2] at H
    have c2b0 : ((Int.tmod a0 64) == 0) = true := beq_iff_eq.mpr c2
    have c2b1 : ((Int.tmod a0 64) != 0) = false := bne_eq_false_iff_eq.mpr c2
    clear c2
    obtain rfl := Option.some.inj H
    go_enter Try.func63, Try.ntmps63
    go_wp2
    go_ret
    exact ⟨by first | rfl | (simp; done) | (simp [*]; done), by repeat (first | exact Drawn0.refl _ | apply Drawn0.step)⟩
  · rw [if_neg c2] at H
    have c2b0 : ((Int.tmod a0 64) == 0) = false := beq_eq_false_iff_ne.mpr c2
    have c2b1 : ((Int.tmod a0 64) != 0) = true := bne_iff_ne.mpr c2
    obtain ⟨ji3, hji3⟩ : ∃ j_ : Int, (Int.tmod a0 64) = j_ := ⟨_, rfl⟩
    replace H : (if 0 ≤ (ji3) then (some (IntKind.u64.wrap ((shl .u64 1 (ji3)) - 1))) else (none)) = some r := by first | (rw [hji3] at H; exact H) | (simp only [hji3] at H ⊢; exact H)
    (try rw [hji3] at c2b0)
    (try rw [hji3] at c2b1)
    by_cases c4 : 0 ≤ (ji3)
    · rw [if_pos c4] at H
      have c4b0 := eq_true c4
      have c4b1 : decide (0 ≤ (ji3)) = true := decide_eq_true c4
      clear c4
      obtain ⟨ji5, hji5⟩ : ∃ j_ : Int, (shl .u64 1 (ji3)) = j_ := ⟨_, rfl⟩
      replace H : (some (IntKind.u64.wrap ((ji5) - 1))) = some r := by first | (rw [hji5] at H; exact H) | (simp only [hji5] at H ⊢; exact H)
      have hji5_ : (IntKind.u64.wrap (1 * 2 ^ min (ji3).toNat 64)) = ji5 := hji5
      have hji5z : (ji3) ≤ 64 → (IntKind.u64.wrap (1 * 2 ^ (ji3).toNat)) = ji5 := shl_small hji5
      have hji5u : (IntKind.u64.wrap (2 ^ min (ji3).toNat 64)) = ji5 := by have h_ := hji5_; rw [Int.one_mul] at h_; exact h_
      have hji5v : (ji3) ≤ 64 → (IntKind.u64.wrap (2 ^ (ji3).toNat)) = ji5 := fun hle_ => by have h_ := hji5z hle_; rw [Int.one_mul] at h_; exact h_
      obtain rfl := Option.some.inj H
      go_enter Try.func63, Try.ntmps63
      go_wp2
      go_ret
      exact ⟨by first | rfl | (simp; done) | (simp only [← hji3, ← hji5] <;> (first | rfl | simp)) | (simp [*]; done), by repeat (first | exact Drawn0.refl _ | apply Drawn0.step)⟩
    · rw [if_neg c4] at H
      exact absurd H (by simp)
end Go.Proofs.Ytjmkhdhffmlhiaa.PAll
end
section
namespace Go.Proofs.Ytjmkhdhffmlhiaa.PAll
open Go.RowKit Go.Proofs.YtjmkhdhffmlhiaaW.PrintWords Go.Proofs.YtjmkhdhffmlhiaaW.PrintLast Go.Proofs.YtjmkhdhffmlhiaaW.PrintMore
attribute [local go_sem] max2_int min2_int max_two min_two max_three min_three max_four min_four w64_u8 w64_mod256   -- for this text's walks alone
set_option linter.unusedVariables false
set_option linter.unusedSimpArgs false
def bitset_May.f (a0_0 : Int) (l0_1 : List Int) : Option (Bool) := (bitset_sized.f a0_0).bind fun t102 => (if t102 = true then ((bitset_words.f a0_0).bind fun t103 => (if (l0_1.length : Int) = t103 then (if (l0_1.length : Int) = 0 then (some true) else (if 0 ≤ (wrap64 ((l0_1.length : Int) - 1)) then (if (wrap64 ((l0_1.length : Int) - 1)) < (l0_1.length : Int) then ((bitset_mask.f a0_0).bind fun t105 => (some ((Go.bits .andNot .u64 (rd l0_1 (wrap64 ((l0_1.length : Int) - 1))) t105) == 0))) else (none)) else (none))) else (some false))) else (some false))
set_option maxHeartbeats 8000000 in
set_option maxRecDepth 100000 in
theorem bitset_May.calls (a0_0 : Int) (A0_1 : Option Addr) (c0_1 : Nat) (l0_1 : List Int) (r : Bool) (w : World) (hr0_1 : Kd.C (Kd.int .u64) w A0_1 l0_1.length l0_1) (hc0_1 : l0_1.length ≤ c0_1) (h : bitset_May.f a0_0 l0_1 = some r) :
    Calls Try.prog 23 #[.agg #[.int .i64 a0_0, .slice A0_1 l0_1.length c0_1]] w fun e w' => e = .returned (.bool r) ∧ Below w.heap.size w w' := by
  have hu26 := Try.underlying26
  have HR0_1 := Aside0.mk hr0_1
  have HC0_1 := Aside0.mk hc0_1
  clear hr0_1 hc0_1
  have HB := Aside0.mk (Below.refl w.heap.size w)
  have H : ((bitset_sized.f a0_0).bind fun t102 => (if t102 = true then ((bitset_words.f a0_0).bind fun t103 => (if (l0_1.length : Int) = t103 then (if (l0_1.length : Int) = 0 then (some true) else (if 0 ≤ (wrap64 ((l0_1.length : Int) - 1)) then (if (wrap64 ((l0_1.length : Int) - 1)) < (l0_1.length : Int) then ((bitset_mask.f a0_0).bind fun t105 => (some ((Go.bits .andNot .u64 (rd l0_1 (wrap64 ((l0_1.length : Int) - 1))) t105) == 0))) else (none)) else (none))) else (some false))) else (some false))) = some r := h
  clear h
  replace H := Option.bind_eq_some_iff.mp H
  obtain ⟨t102, A20, H⟩ := H
  replace H : (if t102 = true then ((bitset_words.f a0_0).bind fun t103 => (if (l0_1.length : Int) = t103 then (if (l0_1.length : Int) = 0 then (some true) else (if 0 ≤ (wrap64 ((l0_1.length : Int) - 1)) then (if (wrap64 ((l0_1.length : Int) - 1)) < (l0_1.length : Int) then ((bitset_mask.f a0_0).bind fun t105 => (some ((Go.bits .andNot .u64 (rd l0_1 (wrap64 ((l0_1.length : Int) - 1))) t105) == 0))) else (none)) else (none))) else (some false))) else (some false)) = some r := H
  have A2 := Aside0.mk A20
  clear A20
  by_cases c3 : t102 = true
  · subst c3
    have H1 : ((bitset_words.f a0_0).bind fun t103 => (if (l0_1.length : Int) = t103 then (if (l0_1.length : Int) = 0 then (some true) else (if 0 ≤ (wrap64 ((l0_1.length : Int) - 1)) then (if (wrap64 ((l0_1.length : Int) - 1)) < (l0_1.length : Int) then ((bitset_mask.f a0_0).bind fun t105 => (some ((Go.bits .andNot .u64 (rd l0_1 (wrap64 ((l0_1.length : Int) - 1))) t105) == 0))) else (none)) else (none))) else (some false))) = some r := by rw [if_pos rfl] at H; exact H
    clear H
    have H := H1
    clear H1
    replace H := Option.bind_eq_some_iff.mp H
    obtain ⟨t103, A40, H⟩ := H
    replace H : (if (l0_1.length : Int) = t103 then (if (l0_1.length : Int) = 0 then (some true) else (if 0 ≤ (wrap64 ((l0_1.length : Int) - 1)) then (if (wrap64 ((l0_1.length : Int) - 1)) < (l0_1.length : Int) then ((bitset_mask.f a0_0).bind fun t105 => (some ((Go.bits .andNot .u64 (rd l0_1 (wrap64 ((l0_1.length : Int) - 1))) t105) == 0))) else (none)) else (none))) else (some false)) = some r := H
    have A4 := Aside0.mk A40
    clear A40
    by_cases c5 : (l0_1.length : Int) = t103
    · rw [if_pos c5] at H
      have c5b0 : ((l0_1.length : Int) == t103) = true := beq_iff_eq.mpr c5
      have c5b1 : ((l0_1.length : Int) != t103) = false := bne_eq_false_iff_eq.mpr c5
      clear c5
      by_cases c6 : (l0_1.length : Int) = 0
      · rw [if_pos c6] at H
        have c6b0 : ((l0_1.length : Int) == 0) = true := beq_iff_eq.mpr c6
        have c6b1 : ((l0_1.length : Int) != 0) = false := bne_eq_false_iff_eq.mpr c6
        clear c6
        obtain rfl := Option.some.inj H
        go_enter Try.func23, Try.ntmps23
        go_wp2_with (first | ((with_reducible refine gate_dst (N := 1) rfl ?_); (try (refine gate_guard (by rfl) ?_; dsimp only)); refine box_event ?hg (N := 1) ?hd (cs := #[.int .i64 a0_0, .slice A0_1 l0_1.length c0_1]) (t := 26) ?hr ?_; (case hd => rfl); (case hg => rfl); (case hr => first | (go_simp; done) | (go_simp; rfl)); intro gb101 hg w7 hbox hb; have n0_ := Aside0.mk (below_step (by repeat (first | (with_reducible first | exact HB.out | apply below_alloc | apply pw_below_drewN | apply below_drew1) | exact HB.out)) hb); have n1_ := Aside0.mk (hbox); have n2_ := Aside0.mk ((by rw [hg]; exact (below_size (by repeat (first | (with_reducible first | exact HB.out | apply below_alloc | apply pw_below_drewN | apply below_drew1) | exact HB.out))) : w.heap.size ≤ gb101)); have n3_ := Aside0.mk ((by rw [hg]; exact (below_size (by repeat (first | (with_reducible first | exact HB.out | apply below_alloc | apply pw_below_drewN | apply below_drew1) | exact HB.out))) : w.heap.size ≤ gb101)); clear HB; have HB := n0_; have BK101 := n1_; have GW101 := n2_; have GE101 := n3_; clear n0_ n1_ n2_ n3_; clear hb hbox hg; have hcz8_0 : w7.cell? ⟨gb101, 0, none⟩ = some (.int .i64 a0_0) := (blk_cell BK101.out 0).trans rfl; have hcz8_1 : w7.cell? ⟨gb101, 1, none⟩ = some (.slice A0_1 l0_1.length c0_1) := (blk_cell BK101.out 1).trans rfl; have hfz8_0 := blk_frozen BK101.out 0; have hfz8_1 := blk_frozen BK101.out 1) | (go_at_call 55; (with_reducible refine (bitset_sized.calls a0_0 true _ A2.out).mono ?_); rintro e w' ⟨rfl, ⟨nd, rfl⟩⟩; (try first | exact ⟨rfl, _, World.drewN_drewN _ _ _⟩ | exact ⟨rfl, _, Eq.trans (World.drewN_drewN _ _ _) (congrArg (World.drewN _) (Nat.add_assoc _ _ _))⟩)) | (go_at_call 62; (with_reducible refine (bitset_words.calls a0_0 t103 _ A4.out).mono ?_); rintro e w' ⟨rfl, ⟨nd, rfl⟩⟩; (try first | exact ⟨rfl, _, World.drewN_drewN _ _ _⟩ | exact ⟨rfl, _, Eq.trans (World.drewN_drewN _ _ _) (congrArg (World.drewN _) (Nat.add_assoc _ _ _))⟩)))
        repeat (go_quiet (first | ((with_reducible refine gate_dst (N := 1) rfl ?_); (try (refine gate_guard (by rfl) ?_; dsimp only)); refine box_event ?hg (N := 1) ?hd (cs := #[.int .i64 a0_0, .slice A0_1 l0_1.length c0_1]) (t := 26) ?hr ?_; (case hd => rfl); (case hg => rfl); (case hr => first | (go_simp; done) | (go_simp; rfl)); intro gb101 hg w7 hbox hb; have n0_ := Aside0.mk (below_step (by repeat (first | (with_reducible first | exact HB.out | apply below_alloc | apply pw_below_drewN | apply below_drew1) | exact HB.out)) hb); have n1_ := Aside0.mk (hbox); have n2_ := Aside0.mk ((by rw [hg]; exact (below_size (by repeat (first | (with_reducible first | exact HB.out | apply below_alloc | apply pw_below_drewN | apply below_drew1) | exact HB.out))) : w.heap.size ≤ gb101)); have n3_ := Aside0.mk ((by rw [hg]; exact (below_size (by repeat (first | (with_reducible first | exact HB.out | apply below_alloc | apply pw_below_drewN | apply below_drew1) | exact HB.out))) : w.heap.size ≤ gb101)); clear HB; have HB := n0_; have BK101 := n1_; have GW101 := n2_; have GE101 := n3_; clear n0_ n1_ n2_ n3_; clear hb hbox hg; have hcz8_0 : w7.cell? ⟨gb101, 0, none⟩ = some (.int .i64 a0_0) := (blk_cell BK101.out 0).trans rfl; have hcz8_1 : w7.cell? ⟨gb101, 1, none⟩ = some (.slice A0_1 l0_1.length c0_1) := (blk_cell BK101.out 1).trans rfl; have hfz8_0 := blk_frozen BK101.out 0; have hfz8_1 := blk_frozen BK101.out 1) | (go_at_call 55; (with_reducible refine (bitset_sized.calls a0_0 true _ A2.out).mono ?_); rintro e w' ⟨rfl, ⟨nd, rfl⟩⟩; (try first | exact ⟨rfl, _, World.drewN_drewN _ _ _⟩ | exact ⟨rfl, _, Eq.trans (World.drewN_drewN _ _ _) (congrArg (World.drewN _) (Nat.add_assoc _ _ _))⟩)) | (go_at_call 62; (with_reducible refine (bitset_words.calls a0_0 t103 _ A4.out).mono ?_); rintro e w' ⟨rfl, ⟨nd, rfl⟩⟩; (try first | exact ⟨rfl, _, World.drewN_drewN _ _ _⟩ | exact ⟨rfl, _, Eq.trans (World.drewN_drewN _ _ _) (congrArg (World.drewN _) (Nat.add_assoc _ _ _))⟩))); try go_wp2_with (first | ((with_reducible refine gate_dst (N := 1) rfl ?_); (try (refine gate_guard (by rfl) ?_; dsimp only)); refine box_event ?hg (N := 1) ?hd (cs := #[.int .i64 a0_0, .slice A0_1 l0_1.length c0_1]) (t := 26) ?hr ?_; (case hd => rfl); (case hg => rfl); (case hr => first | (go_simp; done) | (go_simp; rfl)); intro gb101 hg w7 hbox hb; have n0_ := Aside0.mk (below_step (by repeat (first | (with_reducible first | exact HB.out | apply below_alloc | apply pw_below_drewN | apply below_drew1) | exact HB.out)) hb); have n1_ := Aside0.mk (hbox); have n2_ := Aside0.mk ((by rw [hg]; exact (below_size (by repeat (first | (with_reducible first | exact HB.out | apply below_alloc | apply pw_below_drewN | apply below_drew1) | exact HB.out))) : w.heap.size ≤ gb101)); have n3_ := Aside0.mk ((by rw [hg]; exact (below_size (by repeat (first | (with_reducible first | exact HB.out | apply below_alloc | apply pw_below_drewN | apply below_drew1) | exact HB.out))) : w.heap.size ≤ gb101)); clear HB; have HB := n0_; have BK101 := n1_; have GW101 := n2_; have GE101 := n3_; clear n0_ n1_ n2_ n3_; clear hb hbox hg; have hcz8_0 : w7.cell? ⟨gb101, 0, none⟩ = some (.int .i64 a0_0) := (blk_cell BK101.out 0).trans rfl; have hcz8_1 : w7.cell? ⟨gb101, 1, none⟩ = some (.slice A0_1 l0_1.length c0_1) := (blk_cell BK101.out 1).trans rfl; have hfz8_0 := blk_frozen BK101.out 0; have hfz8_1 := blk_frozen BK101.out 1) | (go_at_call 55; (with_reducible refine (bitset_sized.calls a0_0 true _ A2.out).mono ?_); rintro e w' ⟨rfl, ⟨nd, rfl⟩⟩; (try first | exact ⟨rfl, _, World.drewN_drewN _ _ _⟩ | exact ⟨rfl, _, Eq.trans (World.drewN_drewN _ _ _) (congrArg (World.drewN _) (Nat.add_assoc _ _ _))⟩)) | (go_at_call 62; (with_reducible refine (bitset_words.calls a0_0 t103 _ A4.out).mono ?_); rintro e w' ⟨rfl, ⟨nd, rfl⟩⟩; (try first | exact ⟨rfl, _, World.drewN_drewN _ _ _⟩ | exact ⟨rfl, _, Eq.trans (World.drewN_drewN _ _ _) (congrArg (World.drewN _) (Nat.add_assoc _ _ _))⟩))))
        go_ret
        exact ⟨by first | rfl | (simp [errW_none, errW_some] <;> rfl) | (simp [*, errW_none, errW_some] <;> rfl), by repeat (first | (with_reducible first | exact HB.out | apply below_alloc | apply pw_below_drewN | apply below_drew1 | refine below_set ?_ GE101.out) | exact HB.out)⟩
      · rw [if_neg c6] at H
        have c6b0 : ((l0_1.length : Int) == 0) = false := beq_eq_false_iff_ne.mpr c6
        have c6b1 : ((l0_1.length : Int) != 0) = true := bne_iff_ne.mpr c6
        have c6b2 : ¬ (l0_1 = []) := fun h_ => c6 (by rw [h_]; rfl)
        obtain ⟨ji9, hji9⟩ : ∃ j_ : Int, (wrap64 ((l0_1.length : Int) - 1)) = j_ := ⟨_, rfl⟩
        replace H : (if 0 ≤ (ji9) then (if (ji9) < (l0_1.length : Int) then ((bitset_mask.f a0_0).bind fun t105 => (some ((Go.bits .andNot .u64 (rd l0_1 (ji9)) t105) == 0))) else (none)) else (none)) = some r := by first | (rw [hji9] at H; exact H) | (simp only [hji9] at H ⊢; exact H)
        (try rw [hji9] at A2)
        (try rw [hji9] at A4)
        have hji9w : (IntKind.i64.wrap ((l0_1.length : Int) - 1)) = ji9 := (i64_w _).trans hji9
        by_cases c10 : 0 ≤ (ji9)
        · rw [if_pos c10] at H
          have c10b0 : decide (0 ≤ (ji9)) = true := decide_eq_true c10
          clear c10
          by_cases c11 : (ji9) < (l0_1.length : Int)
          · rw [if_pos c11] at H
            have c11b0 : decide ((ji9) < (l0_1.length : Int)) = true := decide_eq_true c11
            clear c11
            replace H := Option.bind_eq_some_iff.mp H
            obtain ⟨t105, A120, H⟩ := H
            replace H : (some ((Go.bits .andNot .u64 (rd l0_1 (ji9)) t105) == 0)) = some r := H
            have A12 := Aside0.mk A120
            clear A120
            obtain rfl := Option.some.inj H
            go_enter Try.func23, Try.ntmps23
            go_wp2_with (first | ((with_reducible refine gate_dst (N := 1) rfl ?_); (try (refine gate_guard (by rfl) ?_; dsimp only)); refine box_event ?hg (N := 1) ?hd (cs := #[.int .i64 a0_0, .slice A0_1 l0_1.length c0_1]) (t := 26) ?hr ?_; (case hd => rfl); (case hg => rfl); (case hr => first | (go_simp; done) | (go_simp; rfl)); intro gb101 hg w13 hbox hb; have n0_ := Aside0.mk (below_step (by repeat (first | (with_reducible first | exact HB.out | apply below_alloc | apply pw_below_drewN | apply below_drew1) | exact HB.out)) hb); have n1_ := Aside0.mk (hbox); have n2_ := Aside0.mk ((by rw [hg]; exact (below_size (by repeat (first | (with_reducible first | exact HB.out | apply below_alloc | apply pw_below_drewN | apply below_drew1) | exact HB.out))) : w.heap.size ≤ gb101)); have n3_ := Aside0.mk ((by rw [hg]; exact (below_size (by repeat (first | (with_reducible first | exact HB.out | apply below_alloc | apply pw_below_drewN | apply below_drew1) | exact HB.out))) : w.heap.size ≤ gb101)); clear HB; have HB := n0_; have BK101 := n1_; have GW101 := n2_; have GE101 := n3_; clear n0_ n1_ n2_ n3_; clear hb hbox hg; have hcz14_0 : w13.cell? ⟨gb101, 0, none⟩ = some (.int .i64 a0_0) := (blk_cell BK101.out 0).trans rfl; have hcz14_1 : w13.cell? ⟨gb101, 1, none⟩ = some (.slice A0_1 l0_1.length c0_1) := (blk_cell BK101.out 1).trans rfl; have hfz14_0 := blk_frozen BK101.out 0; have hfz14_1 := blk_frozen BK101.out 1) | (go_at_call 55; (with_reducible refine (bitset_sized.calls a0_0 true _ A2.out).mono ?_); rintro e w' ⟨rfl, ⟨nd, rfl⟩⟩; (try first | exact ⟨rfl, _, World.drewN_drewN _ _ _⟩ | exact ⟨rfl, _, Eq.trans (World.drewN_drewN _ _ _) (congrArg (World.drewN _) (Nat.add_assoc _ _ _))⟩)) | (go_at_call 62; (with_reducible refine (bitset_words.calls a0_0 t103 _ A4.out).mono ?_); rintro e w' ⟨rfl, ⟨nd, rfl⟩⟩; (try first | exact ⟨rfl, _, World.drewN_drewN _ _ _⟩ | exact ⟨rfl, _, Eq.trans (World.drewN_drewN _ _ _) (congrArg (World.drewN _) (Nat.add_assoc _ _ _))⟩); have p104 : 0 ≤ ((ji9) : Int) := of_decide_eq_true (by first | (with_reducible assumption) | assumption); have q104 : (ji9) < (l0_1.length : Int) := of_decide_eq_true (by first | (with_reducible assumption) | assumption); obtain ⟨ad104, e104, hx104_0⟩ := Kd.at_int HR0_1.out (ji9) p104 q104; cases e104; replace hx104_0 := (HB.out.cell (World.block_lt_of_cell? w _ hx104_0)).trans hx104_0; replace p104 := eq_true p104; replace q104 := eq_true q104) | (go_at_call 63; (with_reducible refine (bitset_mask.calls a0_0 t105 _ A12.out).mono ?_); rintro e w' ⟨rfl, ⟨nd, rfl⟩⟩; (try first | exact ⟨rfl, _, World.drewN_drewN _ _ _⟩ | exact ⟨rfl, _, Eq.trans (World.drewN_drewN _ _ _) (congrArg (World.drewN _) (Nat.add_assoc _ _ _))⟩)))
            repeat (go_quiet (first | ((with_reducible refine gate_dst (N := 1) rfl ?_); (try (refine gate_guard (by rfl) ?_; dsimp only)); refine box_event ?hg (N := 1) ?hd (cs := #[.int .i64 a0_0, .slice A0_1 l0_1.length c0_1]) (t := 26) ?hr ?_; (case hd => rfl); (case hg => rfl); (case hr => first | (go_simp; done) | (go_simp; rfl)); intro gb101 hg w13 hbox hb; have n0_ := Aside0.mk (below_step (by repeat (first | (with_reducible first | exact HB.out | apply below_alloc | apply pw_below_drewN | apply below_drew1) | exact HB.out)) hb); have n1_ := Aside0.mk (hbox); have n2_ := Aside0.mk ((by rw [hg]; exact (below_size (by repeat (first | (with_reducible first | exact HB.out | apply below_alloc | apply pw_below_drewN | apply below_drew1) | exact HB.out))) : w.heap.size ≤ gb101)); have n3_ := Aside0.mk ((by rw [hg]; exact (below_size (by repeat (first | (with_reducible first | exact HB.out | apply below_alloc | apply pw_below_drewN | apply below_drew1) | exact HB.out))) : w.heap.size ≤ gb101)); clear HB; have HB := n0_; have BK101 := n1_; have GW101 := n2_; have GE101 := n3_; clear n0_ n1_ n2_ n3_; clear hb hbox hg; have hcz14_0 : w13.cell? ⟨gb101, 0, none⟩ = some (.int .i64 a0_0) := (blk_cell BK101.out 0).trans rfl; have hcz14_1 : w13.cell? ⟨gb101, 1, none⟩ = some (.slice A0_1 l0_1.length c0_1) := (blk_cell BK101.out 1).trans rfl; have hfz14_0 := blk_frozen BK101.out 0; have hfz14_1 := blk_frozen BK101.out 1) | (go_at_call 55; (with_reducible refine (bitset_sized.calls a0_0 true _ A2.out).mono ?_); rintro e w' ⟨rfl, ⟨nd, rfl⟩⟩; (try first | exact ⟨rfl, _, World.drewN_drewN _ _ _⟩ | exact ⟨rfl, _, Eq.trans (World.drewN_drewN _ _ _) (congrArg (World.drewN _) (Nat.add_assoc _ _ _))⟩)) | (go_at_call 62; (with_reducible refine (bitset_words.calls a0_0 t103 _ A4.out).mono ?_); rintro e w' ⟨rfl, ⟨nd, rfl⟩⟩; (try first | exact ⟨rfl, _, World.drewN_drewN _ _ _⟩ | exact ⟨rfl, _, Eq.trans (World.drewN_drewN _ _ _) (congrArg (World.drewN _) (Nat.add_assoc _ _ _))⟩); have p104 : 0 ≤ ((ji9) : Int) := of_decide_eq_true (by first | (with_reducible assumption) | assumption); have q104 : (ji9) < (l0_1.length : Int) := of_decide_eq_true (by first | (with_reducible assumption) | assumption); obtain ⟨ad104, e104, hx104_0⟩ := Kd.at_int HR0_1.out (ji9) p104 q104; cases e104; replace hx104_0 := (HB.out.cell (World.block_lt_of_cell? w _ hx104_0)).trans hx104_0; replace p104 := eq_true p104; replace q104 := eq_true q104) | (go_at_call 63; (with_reducible refine (bitset_mask.calls a0_0 t105 _ A12.out).mono ?_); rintro e w' ⟨rfl, ⟨nd, rfl⟩⟩; (try first | exact ⟨rfl, _, World.drewN_drewN _ _ _⟩ | exact ⟨rfl, _, Eq.trans (World.drewN_drewN _ _ _) (congrArg (World.drewN _) (Nat.add_assoc _ _ _))⟩))); try go_wp2_with (first | ((with_reducible refine gate_dst (N := 1) rfl ?_); (try (refine gate_guard (by rfl) ?_; dsimp only)); refine box_event ?hg (N := 1) ?hd (cs := #[.int .i64 a0_0, .slice A0_1 l0_1.length c0_1]) (t := 26) ?hr ?_; (case hd => rfl); (case hg => rfl); (case hr => first | (go_simp; done) | (go_simp; rfl)); intro gb101 hg w13 hbox hb; have n0_ := Aside0.mk (below_step (by repeat (first | (with_reducible first | exact HB.out | apply below_alloc | apply pw_below_drewN | apply below_drew1) | exact HB.out)) hb); have n1_ := Aside0.mk (hbox); have n2_ := Aside0.mk ((by rw [hg]; exact (below_size (by repeat (first | (with_reducible first | exact HB.out | apply below_alloc | apply pw_below_drewN | apply below_drew1) | exact HB.out))) : w.heap.size ≤ gb101)); have n3_ := Aside0.mk ((by rw [hg]; exact (below_size (by repeat (first | (with_reducible first | exact HB.out | apply below_alloc | apply pw_below_drewN | apply below_drew1) | exact HB.out))) : w.heap.size ≤ gb101)); clear HB; have HB := n0_; have BK101 := n1_; have GW101 := n2_; have GE101 := n3_; clear n0_ n1_ n2_ n3_; clear hb hbox hg; have hcz14_0 : w13.cell? ⟨gb101, 0, none⟩ = some (.int .i64 a0_0) := (blk_cell BK101.out 0).trans rfl; have hcz14_1 : w13.cell? ⟨gb101, 1, none⟩ = some (.slice A0_1 l0_1.length c0_1) := (blk_cell BK101.out 1).trans rfl; have hfz14_0 := blk_frozen BK101.out 0; have hfz14_1 := blk_frozen BK101.out 1) | (go_at_call 55; (with_reducible refine (bitset_sized.calls a0_0 true _ A2.out).mono ?_); rintro e w' ⟨rfl, ⟨nd, rfl⟩⟩; (try first | exact ⟨rfl, _, World.drewN_drewN _ _ _⟩ | exact ⟨rfl, _, Eq.trans (World.drewN_drewN _ _ _) (congrArg (World.drewN _) (Nat.add_assoc _ _ _))⟩)) | (go_at_call 62; (with_reducible refine (bitset_words.calls a0_0 t103 _ A4.out).mono ?_); rintro e w' ⟨rfl, ⟨nd, rfl⟩⟩; (try first | exact ⟨rfl, _, World.drewN_drewN _ _ _⟩ | exact ⟨rfl, _, Eq.trans (World.drewN_drewN _ _ _) (congrArg (World.drewN _) (Nat.add_assoc _ _ _))⟩); have p104 : 0 ≤ ((ji9) : Int) := of_decide_eq_true (by first | (with_reducible assumption) | assumption); have q104 : (ji9) < (l0_1.length : Int) := of_decide_eq_true (by first | (with_reducible assumption) | assumption); obtain ⟨ad104, e104, hx104_0⟩ := Kd.at_int HR0_1.out (ji9) p104 q104; cases e104; replace hx104_0 := (HB.out.cell (World.block_lt_of_cell? w _ hx104_0)).trans hx104_0; replace p104 := eq_true p104; replace q104 := eq_true q104) | (go_at_call 63; (with_reducible refine (bitset_mask.calls a0_0 t105 _ A12.out).mono ?_); rintro e w' ⟨rfl, ⟨nd, rfl⟩⟩; (try first | exact ⟨rfl, _, World.drewN_drewN _ _ _⟩ | exact ⟨rfl, _, Eq.trans (World.drewN_drewN _ _ _) (congrArg (World.drewN _) (Nat.add_assoc _ _ _))⟩))))
            go_ret
            exact ⟨by first | rfl | (simp [errW_none, errW_some] <;> rfl) | (simp only [← hji9]; first | rfl | (simp [errW_none, errW_some] <;> rfl)) | (simp [*, errW_none, errW_some] <;> rfl), by repeat (first | (with_reducible first | exact HB.out | apply below_alloc | apply pw_below_drewN | apply below_drew1 | refine below_set ?_ GE101.out) | exact HB.out)⟩
          · rw [if_neg c11] at H
            exact absurd H (by simp)
        · rw [if_neg c10] at H
          exact absurd H (by simp)
    · rw [if_neg c5] at H
      have c5b0 : ((l0_1.length : Int) == t103) = false := beq_eq_false_iff_ne.mpr c5
      have c5b1 : ((l0_1.length : Int) != t103) = true := bne_iff_ne.mpr c5
      obtain rfl := Option.some.inj H
      go_enter Try.func23, Try.ntmps23
      go_wp2_with (first | ((with_reducible refine gate_dst (N := 1) rfl ?_); (try (refine gate_guard (by rfl) ?_; dsimp only)); refine box_event ?hg (N := 1) ?hd (cs := #[.int .i64 a0_0, .slice A0_1 l0_1.length c0_1]) (t := 26) ?hr ?_; (case hd => rfl); (case hg => rfl); (case hr => first | (go_simp; done) | (go_simp; rfl)); intro gb101 hg w15 hbox hb; have n0_ := Aside0.mk (below_step (by repeat (first | (with_reducible first | exact HB.out | apply below_alloc | apply pw_below_drewN | apply below_drew1) | exact HB.out)) hb); have n1_ := Aside0.mk (hbox); have n2_ := Aside0.mk ((by rw [hg]; exact (below_size (by repeat (first | (with_reducible first | exact HB.out | apply below_alloc | apply pw_below_drewN | apply below_drew1) | exact HB.out))) : w.heap.size ≤ gb101)); have n3_ := Aside0.mk ((by rw [hg]; exact (below_size (by repeat (first | (with_reducible first | exact HB.out | apply below_alloc | apply pw_below_drewN | apply below_drew1) | exact HB.out))) : w.heap.size ≤ gb101)); clear HB; have HB := n0_; have BK101 := n1_; have GW101 := n2_; have GE101 := n3_; clear n0_ n1_ n2_ n3_; clear hb hbox hg; have hcz16_0 : w15.cell? ⟨gb101, 0, none⟩ = some (.int .i64 a0_0) := (blk_cell BK101.out 0).trans rfl; have hcz16_1 : w15.cell? ⟨gb101, 1, none⟩ = some (.slice A0_1 l0_1.length c0_1) := (blk_cell BK101.out 1).trans rfl; have hfz16_0 := blk_frozen BK101.out 0; have hfz16_1 := blk_frozen BK101.out 1) | (go_at_call 55; (with_reducible refine (bitset_sized.calls a0_0 true _ A2.out).mono ?_); rintro e w' ⟨rfl, ⟨nd, rfl⟩⟩; (try first | exact ⟨rfl, _, World.drewN_drewN _ _ _⟩ | exact ⟨rfl, _, Eq.trans (World.drewN_drewN _ _ _) (congrArg (World.drewN _) (Nat.add_assoc _ _ _))⟩)) | (go_at_call 62; (with_reducible refine (bitset_words.calls a0_0 t103 _ A4.out).mono ?_); rintro e w' ⟨rfl, ⟨nd, rfl⟩⟩; (try first | exact ⟨rfl, _, World.drewN_drewN _ _ _⟩ | exact ⟨rfl, _, Eq.trans (World.drewN_drewN _ _ _) (congrArg (World.drewN _) (Nat.add_assoc _ _ _))⟩)))
      repeat (go_quiet (first | ((with_reducible refine gate_dst (N := 1) rfl ?_); (try (refine gate_guard (by rfl) ?_; dsimp only)); refine box_event ?hg (N := 1) ?hd (cs := #[.int .i64 a0_0, .slice A0_1 l0_1.length c0_1]) (t := 26) ?hr ?_; (case hd => rfl); (case hg => rfl); (case hr => first | (go_simp; done) | (go_simp; rfl)); intro gb101 hg w15 hbox hb; have n0_ := Aside0.mk (below_step (by repeat (first | (with_reducible first | exact HB.out | apply below_alloc | apply pw_below_drewN | apply below_drew1) | exact HB.out)) hb); have n1_ := Aside0.mk (hbox); have n2_ := Aside0.mk ((by rw [hg]; exact (below_size (by repeat (first | (with_reducible first | exact HB.out | apply below_alloc | apply pw_below_drewN | apply below_drew1) | exact HB.out))) : w.heap.size ≤ gb101)); have n3_ := Aside0.mk ((by rw [hg]; exact (below_size (by repeat (first | (with_reducible first | exact HB.out | apply below_alloc | apply pw_below_drewN | apply below_drew1) | exact HB.out))) : w.heap.size ≤ gb101)); clear HB; have HB := n0_; have BK101 := n1_; have GW101 := n2_; have GE101 := n3_; clear n0_ n1_ n2_ n3_; clear hb hbox hg; have hcz16_0 : w15.cell? ⟨gb101, 0, none⟩ = some (.int .i64 a0_0) := (blk_cell BK101.out 0).trans rfl; have hcz16_1 : w15.cell? ⟨gb101, 1, none⟩ = some (.slice A0_1 l0_1.length c0_1) := (blk_cell BK101.out 1).trans rfl; have hfz16_0 := blk_frozen BK101.out 0; have hfz16_1 := blk_frozen BK101.out 1) | (go_at_call 55; (with_reducible refine (bitset_sized.calls a0_0 true _ A2.out).mono ?_); rintro e w' ⟨rfl, ⟨nd, rfl⟩⟩; (try first | exact ⟨rfl, _, World.drewN_drewN _ _ _⟩ | exact ⟨rfl, _, Eq.trans (World.drewN_drewN _ _ _) (congrArg (World.drewN _) (Nat.add_assoc _ _ _))⟩)) | (go_at_call 62; (with_reducible refine (bitset_words.calls a0_0 t103 _ A4.out).mono ?_); rintro e w' ⟨rfl, ⟨nd, rfl⟩⟩; (try first | exact ⟨rfl, _, World.drewN_drewN _ _ _⟩ | exact ⟨rfl, _, Eq.trans (World.drewN_drewN _ _ _) (congrArg (World.drewN _) (Nat.add_assoc _ _ _))⟩))); try go_wp2_with (first | ((with_reducible refine gate_dst (N := 1) rfl ?_); (try (refine gate_guard (by rfl) ?_; dsimp only)); refine box_event ?hg (N := 1) ?hd (cs := #[.int .i64 a0_0, .slice A0_1 l0_1.length c0_1]) (t := 26) ?hr ?_; (case hd => rfl); (case hg => rfl); (case hr => first | (go_simp; done) | (go_simp; rfl)); intro gb101 hg w15 hbox hb; have n0_ := Aside0.mk (below_step (by repeat (first | (with_reducible first | exact HB.out | apply below_alloc | apply pw_below_drewN | apply below_drew1) | exact HB.out)) hb); have n1_ := Aside0.mk (hbox); have n2_ := Aside0.mk ((by rw [hg]; exact (below_size (by repeat (first | (with_reducible first | exact HB.out | apply below_alloc | apply pw_below_drewN | apply below_drew1) | exact HB.out))) : w.heap.size ≤ gb101)); have n3_ := Aside0.mk ((by rw [hg]; exact (below_size (by repeat (first | (with_reducible first | exact HB.out | apply below_alloc | apply pw_below_drewN | apply below_drew1) | exact HB.out))) : w.heap.size ≤ gb101)); clear HB; have HB := n0_; have BK101 := n1_; have GW101 := n2_; have GE101 := n3_; clear n0_ n1_ n2_ n3_; clear hb hbox hg; have hcz16_0 : w15.cell? ⟨gb101, 0, none⟩ = some (.int .i64 a0_0) := (blk_cell BK101.out 0).trans rfl; have hcz16_1 : w15.cell? ⟨gb101, 1, none⟩ = some (.slice A0_1 l0_1.length c0_1) := (blk_cell BK101.out 1).trans rfl; have hfz16_0 := blk_frozen BK101.out 0; have hfz16_1 := blk_frozen BK101.out 1) | (go_at_call 55; (with_reducible refine (bitset_sized.calls a0_0 true _ A2.out).mono ?_); rintro e w' ⟨rfl, ⟨nd, rfl⟩⟩; (try first | exact ⟨rfl, _, World.drewN_drewN _ _ _⟩ | exact ⟨rfl, _, Eq.trans (World.drewN_drewN _ _ _) (congrArg (World.drewN _) (Nat.add_assoc _ _ _))⟩)) | (go_at_call 62; (with_reducible refine (bitset_words.calls a0_0 t103 _ A4.out).mono ?_); rintro e w' ⟨rfl, ⟨nd, rfl⟩⟩; (try first | exact ⟨rfl, _, World.drewN_drewN _ _ _⟩ | exact ⟨rfl, _, Eq.trans (World.drewN_drewN _ _ _) (congrArg (World.drewN _) (Nat.add_assoc _ _ _))⟩))))
      go_ret
      exact ⟨by first | rfl | (simp [errW_none, errW_some] <;> rfl) | (simp [*, errW_none, errW_some] <;> rfl), by repeat (first | (with_reducible first | exact HB.out | apply below_alloc | apply pw_below_drewN | apply below_drew1 | refine below_set ?_ GE101.out) | exact HB.out)⟩
  · replace c3 := Bool.eq_false_iff.mpr c3
    subst c3
    have H1 : (some false) = some r := by rw [if_neg (show ¬ (false = true) by decide)] at H; exact H
    clear H
    have H := H1
    clear H1
    obtain rfl := Option.some.inj H
    go_enter Try.func23, Try.ntmps23
    go_wp2_with (first | ((with_reducible refine gate_dst (N := 1) rfl ?_); (try (refine gate_guard (by rfl) ?_; dsimp only)); refine box_event ?hg (N := 1) ?hd (cs := #[.int .i64 a0_0, .slice A0_1 l0_1.length c0_1]) (t := 26) ?hr ?_; (case hd => rfl); (case hg => rfl); (case hr => first | (go_simp; done) | (go_simp; rfl)); intro gb101 hg w17 hbox hb; have n0_ := Aside0.mk (below_step (by repeat (first | (with_reducible first | exact HB.out | apply below_alloc | apply pw_below_drewN | apply below_drew1) | exact HB.out)) hb); have n1_ := Aside0.mk (hbox); have n2_ := Aside0.mk ((by rw [hg]; exact (below_size (by repeat (first | (with_reducible first | exact HB.out | apply below_alloc | apply pw_below_drewN | apply below_drew1) | exact HB.out))) : w.heap.size ≤ gb101)); have n3_ := Aside0.mk ((by rw [hg]; exact (below_size (by repeat (first | (with_reducible first | exact HB.out | apply below_alloc | apply pw_below_drewN | apply below_drew1) | exact HB.out))) : w.heap.size ≤ gb101)); clear HB; have HB := n0_; have BK101 := n1_; have GW101 := n2_; have GE101 := n3_; clear n0_ n1_ n2_ n3_; clear hb hbox hg; have hcz18_0 : w17.cell? ⟨gb101, 0, none⟩ = some (.int .i64 a0_0) := (blk_cell BK101.out 0).trans rfl; have hcz18_1 : w17.cell? ⟨gb101, 1, none⟩ = some (.slice A0_1 l0_1.length c0_1) := (blk_cell BK101.out 1).trans rfl; have hfz18_0 := blk_frozen BK101.out 0; have hfz18_1 := blk_frozen BK101.out 1) | (go_at_call 55; (with_reducible refine (bitset_sized.calls a0_0 false _ A2.out).mono ?_); rintro e w' ⟨rfl, ⟨nd, rfl⟩⟩; (try first | exact ⟨rfl, _, World.drewN_drewN _ _ _⟩ | exact ⟨rfl, _, Eq.trans (World.drewN_drewN _ _ _) (congrArg (World.drewN _) (Nat.add_assoc _ _ _))⟩)))
    repeat (go_quiet (first | ((with_reducible refine gate_dst (N := 1) rfl ?_); (try (refine gate_guard (by rfl) ?_; dsimp only)); refine box_event ?hg (N := 1) ?hd (cs := #[.int .i64 a0_0, .slice A0_1 l0_1.length c0_1]) (t := 26) ?hr ?_; (case hd => rfl); (case hg => rfl); (case hr => first | (go_simp; done) | (go_simp; rfl)); intro gb101 hg w17 hbox hb; have n0_ := Aside0.mk (below_step (by repeat (first | (with_reducible first | exact HB.out | apply below_alloc | apply pw_below_drewN | apply below_drew1) | exact HB.out)) hb); have n1_ := Aside0.mk (hbox); have n2_ := Aside0.mk ((by rw [hg]; exact (below_size (by repeat (first | (with_reducible first | exact HB.out | apply below_alloc | apply pw_below_drewN | apply below_drew1) | exact HB.out))) : w.heap.size ≤ gb101)); have n3_ := Aside0.mk ((by rw [hg]; exact (below_size (by repeat (first | (with_reducible first | exact HB.out | apply below_alloc | apply pw_below_drewN | apply below_drew1) | exact HB.out))) : w.heap.size ≤ gb101)); clear HB; have HB := n0_; have BK101 := n1_; have GW101 := n2_; have GE101 := n3_; clear n0_ n1_ n2_ n3_; clear hb hbox hg; have hcz18_0 : w17.cell? ⟨gb101, 0, none⟩ = some (.int .i64 a0_0) := (blk_cell BK101.out 0).trans rfl; have hcz18_1 : w17.cell? ⟨gb101, 1, none⟩ = some (.slice A0_1 l0_1.length c0_1) := (blk_cell BK101.out 1).trans rfl; have hfz18_0 := blk_frozen BK101.out 0; have hfz18_1 := blk_frozen BK101.out 1) | (go_at_call 55; (with_reducible refine (bitset_sized.calls a0_0 false _ A2.out).mono ?_); rintro e w' ⟨rfl, ⟨nd, rfl⟩⟩; (try first | exact ⟨rfl, _, World.drewN_drewN _ _ _⟩ | exact ⟨rfl, _, Eq.trans (World.drewN_drewN _ _ _) (congrArg (World.drewN _) (Nat.add_assoc _ _ _))⟩))); try go_wp2_with (first | ((with_reducible refine gate_dst (N := 1) rfl ?_); (try (refine gate_guard (by rfl) ?_; dsimp only)); refine box_event ?hg (N := 1) ?hd (cs := #[.int .i64 a0_0, .slice A0_1 l0_1.length c0_1]) (t := 26) ?hr ?_; (case hd => rfl); (case hg => rfl); (case hr => first | (go_simp; done) | (go_simp; rfl)); intro gb101 hg w17 hbox hb; have n0_ := Aside0.mk (below_step (by repeat (first | (with_reducible first | exact HB.out | apply below_alloc | apply pw_below_drewN | apply below_drew1) | exact HB.out)) hb); have n1_ := Aside0.mk (hbox); have n2_ := Aside0.mk ((by rw [hg]; exact (below_size (by repeat (first | (with_reducible first | exact HB.out | apply below_alloc | apply pw_below_drewN | apply below_drew1) | exact HB.out))) : w.heap.size ≤ gb101)); have n3_ := Aside0.mk ((by rw [hg]; exact (below_size (by repeat (first | (with_reducible first | exact HB.out | apply below_alloc | apply pw_below_drewN | apply below_drew1) | exact HB.out))) : w.heap.size ≤ gb101)); clear HB; have HB := n0_; have BK101 := n1_; have GW101 := n2_; have GE101 := n3_; clear n0_ n1_ n2_ n3_; clear hb hbox hg; have hcz18_0 : w17.cell? ⟨gb101, 0, none⟩ = some (.int .i64 a0_0) := (blk_cell BK101.out 0).trans rfl; have hcz18_1 : w17.cell? ⟨gb101, 1, none⟩ = some (.slice A0_1 l0_1.length c0_1) := (blk_cell BK101.out 1).trans rfl; have hfz18_0 := blk_frozen BK101.out 0; have hfz18_1 := blk_frozen BK101.out 1) | (go_at_call 55; (with_reducible refine (bitset_sized.calls a0_0 false _ A2.out).mono ?_); rintro e w' ⟨rfl, ⟨nd, rfl⟩⟩; (try first | exact ⟨rfl, _, World.drewN_drewN _ _ _⟩ | exact ⟨rfl, _, Eq.trans (World.drewN_drewN _ _ _) (congrArg (World.drewN _) (Nat.add_assoc _ _ _))⟩))))
    go_ret
    exact ⟨by first | rfl | (simp [errW_none, errW_some] <;> rfl) | (simp [*, errW_none, errW_some] <;> rfl), by repeat (first | (with_reducible first | exact HB.out | apply below_alloc | apply pw_below_drewN | apply below_drew1 | refine below_set ?_ GE101.out) | exact HB.out)⟩
end Go.Proofs.Ytjmkhdhffmlhiaa.PAll
end
section
namespace Go.Proofs.Ytjmkhdhffmlhiaa.PAll
open Go.RowKit Go.Proofs.YtjmkhdhffmlhiaaW.PrintWords Go.Proofs.YtjmkhdhffmlhiaaW.PrintLast Go.Proofs.YtjmkhdhffmlhiaaW.PrintMore
attribute [local go_sem] max2_int min2_int max_two min_two max_three min_three max_four min_four w64_u8 w64_mod256   -- for this text's walks alone
set_option linter.unusedVariables false
set_option linter.unusedSimpArgs false
def bitset_own.f (a0_0 : Int) (l0_1 : List Int) : Option (List Int) := (bitset_May.f a0_0 l0_1).bind fun t102 => (if t102 = true then (if ([] : List Int).length + l0_1.length < 17592186044416 then (some (([] : List Int) ++ l0_1)) else (none)) else (some ([] : List Int)))
set_option maxHeartbeats 8000000 in
set_option maxRecDepth 100000 in
theorem bitset_own.calls (a0_0 : Int) (A0_1 : Option Addr) (c0_1 : Nat) (l0_1 : List Int) (r : List Int) (w : World) (hr0_1 : Kd.C (Kd.int .u64) w A0_1 l0_1.length l0_1) (hc0_1 : l0_1.length ≤ c0_1) (h : bitset_own.f a0_0 l0_1 = some r) :
    Calls Try.prog 82 #[.agg #[.int .i64 a0_0, .slice A0_1 l0_1.length c0_1]] w fun e w' => ∃ v0_ : Value, e = .returned (v0_) ∧ Kd.R (Kd.int .u64) 82 w' w.heap.size (fun _ => True) v0_ r ∧ Below w.heap.size w w' := by
  have hu26 := Try.underlying26
  have HR0_1 := Aside0.mk hr0_1
  have HC0_1 := Aside0.mk hc0_1
  clear hr0_1 hc0_1
  have HB := Aside0.mk (Below.refl w.heap.size w)
  have H : ((bitset_May.f a0_0 l0_1).bind fun t102 => (if t102 = true then (if ([] : List Int).length + l0_1.length < 17592186044416 then (some (([] : List Int) ++ l0_1)) else (none)) else (some ([] : List Int)))) = some r := h
  clear h
  replace H := Option.bind_eq_some_iff.mp H
  obtain ⟨t102, A20, H⟩ := H
  replace H : (if t102 = true then (if ([] : List Int).length + l0_1.length < 17592186044416 then (some (([] : List Int) ++ l0_1)) else (none)) else (some ([] : List Int))) = some r := H
  have A2 := Aside0.mk A20
  clear A20
  by_cases c3 : t102 = true
  · subst c3
    have H1 : (if ([] : List Int).length + l0_1.length < 17592186044416 then (some (([] : List Int) ++ l0_1)) else (none)) = some r := by rw [if_pos rfl] at H; exact H
    clear H
    have H := H1
    clear H1
    by_cases c4 : ([] : List Int).length + l0_1.length < 17592186044416
    · rw [if_pos c4] at H
      have LMc4 := Aside0.mk c4
      clear c4
      obtain ⟨y103, hy103⟩ : ∃ y_ : List Int, y_ = (([] : List Int) ++ l0_1) := ⟨_, rfl⟩
      replace H : (some y103) = some r := by first | (rw [hy103]; with_reducible exact H) | (have H2_ := (Option.bind_some _ _).symm.trans H; rw [hy103]; with_reducible exact H2_) | (have H2_ := (Option.bind_some _ _).symm.trans H; with_reducible exact H2_) | with_reducible exact H | (rw [hy103]; exact H) | exact H
      have Ny103 := Aside0.mk hy103
      clear hy103
      obtain rfl := Option.some.inj H
      go_enter Try.func82, Try.ntmps82
      go_wp2_with (first | ((with_reducible refine gate_dst (N := 1) rfl ?_); refine box_event ?hg (N := 1) ?hd (cs := #[.int .i64 a0_0, .slice A0_1 l0_1.length c0_1]) (t := 26) ?hr ?_; (case hd => rfl); (case hg => rfl); (case hr => first | (go_simp; done) | (go_simp; rfl)); intro gb101 hg w5 hbox hb; have n0_ := Aside0.mk (below_step (by repeat (first | (with_reducible first | exact HB.out | apply below_alloc | apply pw_below_drewN | apply below_drew1) | exact HB.out)) hb); have n1_ := Aside0.mk (hbox); have n2_ := Aside0.mk ((by rw [hg]; exact (below_size (by repeat (first | (with_reducible first | exact HB.out | apply below_alloc | apply pw_below_drewN | apply below_drew1) | exact HB.out))) : w.heap.size ≤ gb101)); have n3_ := Aside0.mk ((by rw [hg]; exact (below_size (by repeat (first | (with_reducible first | exact HB.out | apply below_alloc | apply pw_below_drewN | apply below_drew1) | exact HB.out))) : w.heap.size ≤ gb101)); clear HB; have HB := n0_; have BK101 := n1_; have GW101 := n2_; have GE101 := n3_; clear n0_ n1_ n2_ n3_; clear hb hbox hg; have hcz6_0 : w5.cell? ⟨gb101, 0, none⟩ = some (.int .i64 a0_0) := (blk_cell BK101.out 0).trans rfl; have hcz6_1 : w5.cell? ⟨gb101, 1, none⟩ = some (.slice A0_1 l0_1.length c0_1) := (blk_cell BK101.out 1).trans rfl; have hfz6_0 := blk_frozen BK101.out 0; have hfz6_1 := blk_frozen BK101.out 1) | ((with_reducible refine gate_callee (f := 23) rfl ?_); refine goesL_ (some 4) rfl rfl Try.func23 (by kernel_rfl) rfl #[.agg #[.int .i64 a0_0, .slice A0_1 l0_1.length c0_1]] rfl (by (try simp only [List.map_toArray, List.map_cons, List.map_nil]); first | done | rfl | (simp only [List.length_drop, List.length_take]; rfl)) ?_; (with_reducible refine (bitset_May.calls a0_0 _ _ l0_1 true _ ?side1 ?side2 A2.out).mono ?_); (case side1 => repeat (first | exact (Kd.C_below HR0_1.out HB.out) | (with_reducible refine Kd.C_alloc ?_ _) | (with_reducible refine Kd.C_drewN ?_ _) | (with_reducible refine Kd.C_drew ?_))); (case side2 => exact HC0_1.out); rintro e w7 ⟨rfl, hb⟩; refine ⟨_, rfl, ?_⟩; have n0_ := Aside0.mk (blk_below (g := gb101) (o := .cells #[.int .i64 a0_0, .slice A0_1 l0_1.length c0_1] 26 (0, 0)) (by (with_reducible repeat (first | refine blk_drewN ?_ _ | refine blk_drew ?_ | refine blk_alloc ?_ _)); exact BK101.out) hb); have n1_ := Aside0.mk (below_step (by repeat (first | (with_reducible first | exact HB.out | apply below_alloc | apply pw_below_drewN | apply below_drew1 | refine below_set ?_ GE101.out) | exact HB.out)) hb); clear BK101; clear HB; have BK101 := n0_; have HB := n1_; clear n0_ n1_; (try clear hb); (try clear hb2); (try clear hk); (try clear hi); have hcz8_0 : w7.cell? ⟨gb101, 0, none⟩ = some (.int .i64 a0_0) := (blk_cell BK101.out 0).trans rfl; have hcz8_1 : w7.cell? ⟨gb101, 1, none⟩ = some (.slice A0_1 l0_1.length c0_1) := (blk_cell BK101.out 1).trans rfl; have hfz8_0 := blk_frozen BK101.out 0; have hfz8_1 := blk_frozen BK101.out 1) | ((with_reducible refine gate_builtin (b := .append) (xs := #[.const (.slice none 0 0), .tmp 7]) rfl ?_); at_builtin; refine Kd.R_append_rows (Kd.int .u64) (w0 := w) w.heap.size rfl (.const (.slice none 0 0)) (.tmp 7) 24 82 (.int .u64 0) 8 rfl Try.underlying24 info82 rfl (by decide) (by omega) (.slice none 0 0) ([] : List Int) l0_1 _ _ _ (fun _ => True) (fun _ => False) rfl rfl ?aO ?aR (fun _ _ h => h) (fun _ h => h.elim) ?aF ?aB ?aS ?aL ?_; (case aR => repeat (first | exact (Kd.C_below HR0_1.out HB.out) | (with_reducible refine Kd.C_alloc ?_ _) | (with_reducible refine Kd.C_drewN ?_ _) | (with_reducible refine Kd.C_drew ?_))); (case aB => exact (by repeat (first | (with_reducible first | exact HB.out | apply below_alloc | apply pw_below_drewN | apply below_drew1 | refine below_set ?_ GE101.out) | exact HB.out))); (case aF => exact (fun _ _ => trivial)); (case aO => exact ((Kd.R_nil _ _ _ _ (fun _ => True)))); (case aS => exact (below_size (by repeat (first | (with_reducible first | exact HB.out | apply below_alloc | apply pw_below_drewN | apply below_drew1 | refine below_set ?_ GE101.out) | exact HB.out)))); (case aL => have := LMc4.out; omega); intro v104 w9 ho hb hg hat; rw [← Ny103.out] at ho; have n0_ := Aside0.mk (blk_grown (g := gb101) (o := .cells #[.int .i64 a0_0, .slice A0_1 l0_1.length c0_1] 26 (0, 0)) (by (with_reducible repeat (first | refine blk_drewN ?_ _ | refine blk_drew ?_ | refine blk_alloc ?_ _)); exact BK101.out) hg (by simp [Value.ownBlock])); have n1_ := Aside0.mk (hb); have n2_ := Aside0.mk (ho); clear BK101; clear HB; have BK101 := n0_; have HB := n1_; have HO105 := n2_; clear n0_ n1_ n2_; clear ho hb hg hat))
      go_ret
      exact ⟨_, by first | rfl | (simp [errW_none, errW_some] <;> rfl) | (simp [*, errW_none, errW_some] <;> rfl), by (with_reducible repeat (first | apply Kd.R_alloc | apply Kd.R_drewN | apply Kd.R_drew)); exact HO105.out, by repeat (first | (with_reducible first | exact HB.out | apply below_alloc | apply pw_below_drewN | apply below_drew1 | refine below_set ?_ GE101.out) | exact HB.out)⟩
    · rw [if_neg c4] at H
      exact absurd H (by simp)
  · replace c3 := Bool.eq_false_iff.mpr c3
    subst c3
    have H1 : (some ([] : List Int)) = some r := by rw [if_neg (show ¬ (false = true) by decide)] at H; exact H
    clear H
    have H := H1
    clear H1
    obtain rfl := Option.some.inj H
    go_enter Try.func82, Try.ntmps82
    go_wp2_with (first | ((with_reducible refine gate_dst (N := 1) rfl ?_); refine box_event ?hg (N := 1) ?hd (cs := #[.int .i64 a0_0, .slice A0_1 l0_1.length c0_1]) (t := 26) ?hr ?_; (case hd => rfl); (case hg => rfl); (case hr => first | (go_simp; done) | (go_simp; rfl)); intro gb101 hg w10 hbox hb; have n0_ := Aside0.mk (below_step (by repeat (first | (with_reducible first | exact HB.out | apply below_alloc | apply pw_below_drewN | apply below_drew1) | exact HB.out)) hb); have n1_ := Aside0.mk (hbox); have n2_ := Aside0.mk ((by rw [hg]; exact (below_size (by repeat (first | (with_reducible first | exact HB.out | apply below_alloc | apply pw_below_drewN | apply below_drew1) | exact HB.out))) : w.heap.size ≤ gb101)); have n3_ := Aside0.mk ((by rw [hg]; exact (below_size (by repeat (first | (with_reducible first | exact HB.out | apply below_alloc | apply pw_below_drewN | apply below_drew1) | exact HB.out))) : w.heap.size ≤ gb101)); clear HB; have HB := n0_; have BK101 := n1_; have GW101 := n2_; have GE101 := n3_; clear n0_ n1_ n2_ n3_; clear hb hbox hg; have hcz11_0 : w10.cell? ⟨gb101, 0, none⟩ = some (.int .i64 a0_0) := (blk_cell BK101.out 0).trans rfl; have hcz11_1 : w10.cell? ⟨gb101, 1, none⟩ = some (.slice A0_1 l0_1.length c0_1) := (blk_cell BK101.out 1).trans rfl; have hfz11_0 := blk_frozen BK101.out 0; have hfz11_1 := blk_frozen BK101.out 1) | ((with_reducible refine gate_callee (f := 23) rfl ?_); refine goesL_ (some 4) rfl rfl Try.func23 (by kernel_rfl) rfl #[.agg #[.int .i64 a0_0, .slice A0_1 l0_1.length c0_1]] rfl (by (try simp only [List.map_toArray, List.map_cons, List.map_nil]); first | done | rfl | (simp only [List.length_drop, List.length_take]; rfl)) ?_; (with_reducible refine (bitset_May.calls a0_0 _ _ l0_1 false _ ?side1 ?side2 A2.out).mono ?_); (case side1 => repeat (first | exact (Kd.C_below HR0_1.out HB.out) | (with_reducible refine Kd.C_alloc ?_ _) | (with_reducible refine Kd.C_drewN ?_ _) | (with_reducible refine Kd.C_drew ?_))); (case side2 => exact HC0_1.out); rintro e w12 ⟨rfl, hb⟩; refine ⟨_, rfl, ?_⟩; have n0_ := Aside0.mk (blk_below (g := gb101) (o := .cells #[.int .i64 a0_0, .slice A0_1 l0_1.length c0_1] 26 (0, 0)) (by (with_reducible repeat (first | refine blk_drewN ?_ _ | refine blk_drew ?_ | refine blk_alloc ?_ _)); exact BK101.out) hb); have n1_ := Aside0.mk (below_step (by repeat (first | (with_reducible first | exact HB.out | apply below_alloc | apply pw_below_drewN | apply below_drew1 | refine below_set ?_ GE101.out) | exact HB.out)) hb); clear BK101; clear HB; have BK101 := n0_; have HB := n1_; clear n0_ n1_; (try clear hb); (try clear hb2); (try clear hk); (try clear hi)))
    go_ret
    exact ⟨_, by first | rfl | (simp [errW_none, errW_some] <;> rfl) | (simp [*, errW_none, errW_some] <;> rfl), by first | exact Kd.R_nil _ _ _ _ _ | exact Kd.N_nil _ _ _ _ _ | exact Kd.V_nil _ _ _ _ _ | exact Kd.Q_nil _ _ _ _ _ | exact Kd.S_nil _ _ _ _ _, by repeat (first | (with_reducible first | exact HB.out | apply below_alloc | apply pw_below_drewN | apply below_drew1 | refine below_set ?_ GE101.out) | exact HB.out)⟩
end Go.Proofs.Ytjmkhdhffmlhiaa.PAll
end
section
namespace Go.Proofs.Ytjmkhdhffmlhiaa.PAll
open Go.RowKit Go.Proofs.YtjmkhdhffmlhiaaW.PrintWords Go.Proofs.YtjmkhdhffmlhiaaW.PrintLast Go.Proofs.YtjmkhdhffmlhiaaW.PrintMore
attribute [local go_sem] max2_int min2_int max_two min_two max_three min_three max_four min_four w64_u8 w64_mod256   -- for this text's walks alone
set_option linter.unusedVariables false
set_option linter.unusedSimpArgs false
end Go.Proofs.Ytjmkhdhffmlhiaa.PAll
end
section
namespace Go.Proofs.Ytjmkhdhffmlhiaa.PAll
open Go.RowKit Go.Proofs.YtjmkhdhffmlhiaaW.PrintWords Go.Proofs.YtjmkhdhffmlhiaaW.PrintLast Go.Proofs.YtjmkhdhffmlhiaaW.PrintMore
attribute [local go_sem] max2_int min2_int max_two min_two max_three min_three max_four min_four w64_u8 w64_mod256   -- for this text's walks alone
set_option linter.unusedVariables false
set_option linter.unusedSimpArgs false
end Go.Proofs.Ytjmkhdhffmlhiaa.PAll
end
section
namespace Go.Proofs.Ytjmkhdhffmlhiaa.PAll
open Go.RowKit Go.Proofs.YtjmkhdhffmlhiaaW.PrintWords Go.Proofs.YtjmkhdhffmlhiaaW.PrintLast Go.Proofs.YtjmkhdhffmlhiaaW.PrintMore
attribute [local go_sem] max2_int min2_int max_two min_two max_three min_three max_four min_four w64_u8 w64_mod256   -- for this text's walks alone
set_option linter.unusedVariables false
set_option linter.unusedSimpArgs false
end Go.Proofs.Ytjmkhdhffmlhiaa.PAll
end
section
namespace Go.Proofs.Ytjmkhdhffmlhiaa.PAll
set_option linter.unusedVariables false
open Go.RowKit Go.Proofs.YtjmkhdhffmlhiaaW.PrintWords Go.Proofs.YtjmkhdhffmlhiaaW.PrintMore
def MayP (n : Int) (ws : List Int) : Prop := 0 ≤ n ∧ n ≤ 4096 ∧ ws.length = (n.toNat + 63) / 64 ∧ ∀ e : Nat, n.toNat ≤ e → hb ws e = false
noncomputable def may (n : Int) (ws : List Int) : Bool := @decide (MayP n ws) (Classical.propDecidable _)
theorem may_true {n : Int} {ws : List Int} : may n ws = true ↔ MayP n ws := by unfold may; exact @decide_eq_true_iff _ (Classical.propDecidable _)
theorem may_false {n : Int} {ws : List Int} : may n ws = false ↔ ¬ MayP n ws := by unfold may; exact @decide_eq_false_iff_not _ (Classical.propDecidable _)
theorem may_of {n : Int} {ws : List Int} {b : Bool} (h : b = true ↔ MayP n ws) : b = may n ws := by
  rw [Bool.eq_iff_iff, h, may_true]
theorem MayP.is {n : Int} {ws : List Int} (h : MayP n ws) (hw : Wds ws) : Is n.toNat (hb ws) ws :=
  ⟨h.2.2.1, hw, fun e => by
    by_cases he : e < n.toNat
    · simp [he]
    · rw [h.2.2.2 e (by omega)]; simp [he]⟩
theorem Is.may {n : Nat} {p : Nat → Bool} {ws : List Int} (h : Is n p ws) (hn : n ≤ 4096) : MayP (n : Int) ws :=
  ⟨by omega, by omega, by rw [h.len]; simp, fun e he => (by
    rw [h.has]
    have : ¬ e < n := by omega
    simp [this])⟩
theorem mask_tb (n : Nat) (hn : n ≤ 4096) : ∃ m, bitset_mask.f (n : Int) = some m ∧ Wd m ∧ ∀ j, j < 64 → tb m j = (decide (n % 64 = 0) || decide (j < n % 64)) := by
  unfold bitset_mask.f
  rw [tmod_nat]
  by_cases h : n % 64 = 0
  · refine ⟨18446744073709551615, by rw [if_pos (by omega)], by unfold Wd; omega, fun j hj => ?_⟩
    have : tb 18446744073709551615 j = decide (j < 64) := by
      unfold tb
      rw [show (18446744073709551615 : Int).toNat = 2 ^ 64 - 1 by decide, Nat.testBit_two_pow_sub_one]
    rw [this]; simp [h, hj]
  · have h1 := one_shl (e := ((n % 64 : Nat) : Int)) (by omega) (by omega)
    rw [Int.toNat_natCast] at h1
    have hp : 0 < 2 ^ (n % 64) := Nat.two_pow_pos _
    have h2 : shl .u64 1 ((n % 64 : Nat) : Int) - 1 = ((2 ^ (n % 64) - 1 : Nat) : Int) := by rw [h1.1]; omega
    have h3 : Wd ((2 ^ (n % 64) - 1 : Nat) : Int) := by
      have := h1.2
      rw [h1.1] at this
      unfold Wd at this ⊢
      omega
    refine ⟨((2 ^ (n % 64) - 1 : Nat) : Int), ?_, h3, fun j hj => ?_⟩
    · rw [if_neg (by omega), if_pos (by omega), h2, wraps_u64 _ h3]
    · unfold tb
      rw [Int.toNat_natCast, Nat.testBit_two_pow_sub_one]
      simp [h]
theorem andNot_zero {x y : Int} (hx : Wd x) (hy : Wd y) : (Go.bits .andNot .u64 x y == 0) = true ↔ ∀ j, j < 64 → tb x j = true → tb y j = true := by
  rw [beq_iff_eq]
  constructor
  · intro h j hj hxj
    have h1 := tb_andNot hx hy j
    rw [h, tb_zero, hxj] at h1
    simpa using h1
  · intro h
    refine tb_ext (andNot_eq _ _).2 Wd.zero fun j hj => ?_
    rw [tb_andNot hx hy, tb_zero]
    cases h1 : tb x j
    · rfl
    · rw [h j hj h1]; rfl
theorem May_eq (n : Int) (ws : List Int) (hw : Wds ws) (hl : ws.length ≤ 9223372036854775807) : bitset_May.f n ws = some (may n ws) := by
  unfold bitset_May.f
  by_cases hs : 0 ≤ n ∧ n ≤ 4096
  · obtain ⟨m, rfl⟩ := Int.eq_ofNat_of_zero_le hs.1
    have hm : m ≤ 4096 := by omega
    rw [sized_yes hm, Option.bind_some, if_pos rfl, words_eq hm, Option.bind_some]
    by_cases hq : ws.length = (m + 63) / 64
    · rw [if_pos (by omega)]
      by_cases h0 : ws.length = 0
      · rw [if_pos (by omega)]
        congr 1
        exact (may_true.2 ⟨by omega, by omega, by simpa using hq, fun e he => hb_high (by omega)⟩).symm
      · obtain ⟨l, hl1⟩ : ∃ l, ws.length = l + 1 := ⟨ws.length - 1, by omega⟩
        have h4 : wrap64 ((ws.length : Int) - 1) = (l : Int) := by rw [w64_nat (by omega) (by omega)]; omega
        obtain ⟨mk, h5, h6, h7⟩ := mask_tb m hm
        rw [if_neg (by omega), h4, if_pos (by omega), if_pos (by omega), h5, Option.bind_some, rd_nat]
        congr 1
        apply may_of
        rw [andNot_zero (hw.getD _) h6]
        constructor
        · refine fun h => ⟨by omega, by omega, by simpa using hq, fun e he => ?_⟩
          rw [Int.toNat_natCast] at he
          rcases Nat.lt_or_ge e (64 * ws.length) with h8 | h8
          · unfold hb
            rw [show e / 64 = l by omega]
            cases h9 : tb (ws.getD l 0) (e % 64)
            · rfl
            · have h10 := h (e % 64) (by omega) h9
              rw [h7 _ (by omega), Bool.or_eq_true, decide_eq_true_eq, decide_eq_true_eq] at h10
              omega
          · exact hb_high h8
        · intro h j hj hx
          rw [h7 _ hj, Bool.or_eq_true, decide_eq_true_eq, decide_eq_true_eq]
          refine Classical.byContradiction fun h8 => ?_
          have h9 := h.2.2.2 (64 * l + j) (by rw [Int.toNat_natCast]; omega)
          unfold hb at h9
          rw [show (64 * l + j) / 64 = l by omega, show (64 * l + j) % 64 = j by omega, hx] at h9
          cases h9
    · rw [if_neg (by omega)]
      congr 1
      exact (may_false.2 fun h => hq (by simpa using h.2.2.1)).symm
  · rw [sized_no (by omega), Option.bind_some, if_neg (by simp)]
    congr 1
    exact (may_false.2 fun h => hs ⟨h.1, h.2.1⟩).symm
def TurnSays (n : Int) (ws : List Int) (e : Int) (yes : Bool) (r : Int × List Int × Int) : Prop :=
  (¬ MayP n ws ∧ r = (0, [], 61)) ∨ (MayP n ws ∧ (((e < 0 ∨ n ≤ e) ∧ r = (0, [], 62)) ∨ (0 ≤ e ∧ e < n ∧ ∃ vs, Is n.toNat (fun d => if d = e.toNat then yes else hb ws d) vs ∧ r = (n, vs, 0))))
theorem TurnSays.eq {n : Int} {ws : List Int} {e : Int} {yes : Bool} {r q : Int × List Int × Int} (h : TurnSays n ws e yes r) (k : TurnSays n ws e yes q) : r = q := by
  rcases h with ⟨h1, rfl⟩ | ⟨h1, ⟨h2, rfl⟩ | ⟨h2, h3, vs, h4, rfl⟩⟩ <;> rcases k with ⟨k1, rfl⟩ | ⟨k1, ⟨k2, rfl⟩ | ⟨k2, k3, us, k4, rfl⟩⟩
  · rfl
  · exact absurd k1 h1
  · exact absurd k1 h1
  · exact absurd h1 k1
  · rfl
  · omega
  · exact absurd h1 k1
  · omega
  · rw [h4.eq k4 (fun _ _ => rfl)]
theorem own_eq {n : Int} {ws : List Int} (h : MayP n ws) (hw : Wds ws) : bitset_own.f n ws = some ws := by
  have h1 := h.2.1
  have h2 := h.2.2.1
  unfold bitset_own.f
  rw [May_eq n ws hw (by omega), may_true.2 h, Option.bind_some, if_pos rfl, if_pos (by simp only [List.length_nil]; omega), List.nil_append]
end Go.Proofs.Ytjmkhdhffmlhiaa.PAll
end
section
namespace Go.Proofs.Ytjmkhdhffmlhiaa.PAll
open Go.ChangeShapes Go.WideShapes Go.RowKit Go.Proofs.YtjmkhdhffmlhiaaW.PrintWords
def light {H : Type} (P : Program) (t : TypeId) (d : DataW H) : Prop := (d.weights P t).all (· ≤ reachBytes) = true
structure Reads {α : Type} (P : Program) (t : TypeId) (d : Kd α) (good : α → Prop) : Prop where
  sz : d.sz = P.cellsOf t
  opens : ∀ {H : Type} {enc : TypeId × Value → H} {W : World} {base : Nat} {spare : Nat → Bool} {held : Bool} {fuel : Nat} {cs : List Value} {x : DataW H × List MemPlace},
    DataW.trod enc P W base spare held fuel t cs = some x → light P t x.1 → ∃ a, d.K W a cs ∧ good a
section
variable {α β : Type} {P : Program} {t e : TypeId} {d : Kd α} {good : α → Prop}
theorem Reads.int {k : IntKind} (ht : P.underlying t = some (.int k)) (hc : P.cellsOf t = 1) : Reads P t (Kd.int k) (fun n => (Lit.int k n).wf = true) :=
  ⟨hc.symm, fun h _ => by obtain ⟨n, rfl, _, hw⟩ := DataW.trod_int ht h; exact ⟨n, rfl, hw⟩⟩
theorem Reads.bool (ht : P.underlying t = some .bool) (hc : P.cellsOf t = 1) : Reads P t Kd.bool (fun _ => True) :=
  ⟨hc.symm, fun h _ => by obtain ⟨n, rfl, _⟩ := DataW.trod_bool ht h; exact ⟨n, rfl, trivial⟩⟩
theorem add_add_ (a : Addr) (i j : Nat) : (a.add i).add j = a.add (i + j) := by
  unfold Addr.add
  by_cases hi : i = 0 <;> by_cases hj : j = 0 <;> simp [hi, hj, Nat.add_assoc]
theorem exists_list (R : Nat → α → Prop) : ∀ n, (∀ i, i < n → ∃ a, R i a) → ∃ xs : List α, xs.length = n ∧ ∀ i (h : i < xs.length), R i xs[i] := by
  intro n
  induction n with
  | zero => intro _; exact ⟨[], rfl, fun i h => by cases h⟩
  | succ n ih =>
    intro h
    obtain ⟨xs, hl, hx⟩ := ih (fun i hi => h i (by omega))
    obtain ⟨a, ha⟩ := h n (by omega)
    refine ⟨xs ++ [a], by simp [hl], fun i hi => ?_⟩
    rcases Nat.lt_or_ge i xs.length with h1 | h1
    · rw [List.getElem_append_left h1]; exact hx i h1
    · have : i = n := by simp at hi; omega
      subst this
      rw [List.getElem_append_right h1]
      simpa [hl] using ha
theorem light_elem {H : Type} {elems spare : List (DataW H)} (ht : P.underlying t = some (.slice e)) (h : light P t (.slice elems spare)) : (elems.length + spare.length) * P.bytesOf e ≤ 140737488351232 ∧ ∀ y ∈ elems, light P e y := by
  unfold light at h
  simp only [DataW.weights, ht, List.all_cons, List.all_append, Bool.and_eq_true] at h
  refine ⟨by have := of_decide_eq_true h.1; simpa [reachBytes] using this, fun y hy => ?_⟩
  have h2 := h.2.1
  clear h
  induction elems with
  | nil => cases hy
  | cons z l ih =>
    simp only [DataW.weightsAll, List.all_append, Bool.and_eq_true] at h2
    rcases List.mem_cons.1 hy with rfl | h3
    · exact h2.1
    · exact ih h3 h2.2
theorem Reads.slice (ht : P.underlying t = some (.slice e)) (hc : P.cellsOf t = 1) (h : Reads P e d good) : Reads P t (Kd.slice e d) (fun xs => (∀ x ∈ xs, good x) ∧ xs.length * P.bytesOf e ≤ 140737488351232) := by
  refine ⟨hc.symm, fun {H enc W base spare held fuel cs x} hf hw => ?_⟩
  rcases Go.Deep.open_slice ht hf with ⟨rfl, hx⟩ | ⟨a, len, cap, m, n, D, Pl, rfl, hb, hl, hm, hmm, rfl, hel⟩
  · exact ⟨[], ⟨none, 0, rfl, Nat.le_refl _, Kd.C_nil d W⟩, ⟨fun _ h => (by cases h), by simp⟩⟩
  · obtain ⟨hlen, hlight⟩ := light_elem ht hw
    have hlm : len ≤ m := by rw [hmm]; split <;> omega
    obtain ⟨xs, hxl, hxs⟩ := exists_list (fun i y => ∃ cs', W.cells? base (Addr.add a (i * P.cellsOf e)) (P.cellsOf e) = some cs' ∧ d.K W y cs' ∧ good y) len (fun i hi => by
      obtain ⟨cs', h1, h2⟩ := hel i (by omega)
      obtain ⟨y, h3, h4⟩ := h.opens h2 (hlight _ (by simp only [List.mem_map, List.mem_range]; exact ⟨i, hi, rfl⟩))
      exact ⟨y, cs', h1, h3, h4⟩)
    subst hxl
    refine ⟨xs, ⟨some a, cap, rfl, hl, rfl, by unfold maxLen at hm; omega, fun _ => ⟨a, rfl, fun j p hj => ?_⟩⟩, ?_, ?_⟩
    · obtain ⟨hj', rfl⟩ := List.getElem?_eq_some_iff.1 hj
      obtain ⟨cs', h1, h2, _⟩ := hxs j hj'
      refine ⟨cs', d.K_len h2, h2, fun i u hu => ?_⟩
      obtain ⟨_, hl2, hc2⟩ := World.cells?_some h1
      have hi : i < P.cellsOf e := by rw [← hl2]; exact (List.getElem?_eq_some_iff.1 hu).1
      rw [h.sz, ← add_add_, hc2 i hi, hu]
    · intro x hx
      obtain ⟨j, hj, rfl⟩ := List.getElem_of_mem hx
      obtain ⟨_, _, _, hg⟩ := hxs j hj
      exact hg
    · refine Nat.le_trans (Nat.mul_le_mul_right _ ?_) hlen
      simp
theorem Reads.iso (h : Reads P t d good) (f : β → α) (g : α → β) (hg : ∀ a, f (g a) = a) : Reads P t (Kd.iso d f) (fun b => good (f b)) :=
  ⟨h.sz, fun hf hw => by
    obtain ⟨a, h1, h2⟩ := h.opens hf hw
    exact ⟨g a, by show d.K _ (f (g a)) _; rw [hg]; exact h1, by rw [hg]; exact h2⟩⟩
end
end Go.Proofs.Ytjmkhdhffmlhiaa.PAll
end
section
namespace Go.Proofs.Ytjmkhdhffmlhiaa.PAll
open Go.ChangeShapes Go.WideShapes Go.RowKit Go.Proofs.YtjmkhdhffmlhiaaW.PrintWords Go.Proofs.YtjmkhdhffmlhiaaW.PrintMore
def good26 (x : S26) : Prop := (Lit.int .i64 x.f0).wf = true ∧ Wds x.f1 ∧ x.f1.length * 8 ≤ 140737488351232
set_option maxRecDepth 100000
section
variable {H : Type} {enc : TypeId × Value → H} {W : World} {r : Reach} {base : Nat} {spare : Nat → Bool} {held : Bool} {v : Value} {y : DataW H} {p : List MemPlace} {ts : List TypeId} {ds : List (DataW H)} {j : Nat}
end
end Go.Proofs.Ytjmkhdhffmlhiaa.PAll
end
section
namespace Go.Proofs.Ytjmkhdhffmlhiaa.PAll
open Go.RowKit Go.Proofs.YtjmkhdhffmlhiaaW.PrintWords Go.Proofs.YtjmkhdhffmlhiaaW.PrintLast Go.Proofs.YtjmkhdhffmlhiaaW.PrintMore
attribute [local go_sem] max2_int min2_int max_two min_two max_three min_three max_four min_four w64_u8 w64_mod256   -- for this text's walks alone
set_option linter.unusedVariables false
set_option linter.unusedSimpArgs false
end Go.Proofs.Ytjmkhdhffmlhiaa.PAll
end
section
namespace Go.Proofs.Ytjmkhdhffmlhiaa.PAll
open Go.RowKit Go.Proofs.YtjmkhdhffmlhiaaW.PrintWords Go.Proofs.YtjmkhdhffmlhiaaW.PrintLast Go.Proofs.YtjmkhdhffmlhiaaW.PrintMore
attribute [local go_sem] max2_int min2_int max_two min_two max_three min_three max_four min_four w64_u8 w64_mod256   -- for this text's walks alone
set_option linter.unusedVariables false
set_option linter.unusedSimpArgs false
end Go.Proofs.Ytjmkhdhffmlhiaa.PAll
end
section
namespace Go.Proofs.Ytjmkhdhffmlhiaa.PAll
open Go.RowKit Go.Proofs.YtjmkhdhffmlhiaaW.PrintWords Go.Proofs.YtjmkhdhffmlhiaaW.PrintLast Go.Proofs.YtjmkhdhffmlhiaaW.PrintMore
attribute [local go_sem] max2_int min2_int max_two min_two max_three min_three max_four min_four w64_u8 w64_mod256   -- for this text's walks alone
set_option linter.unusedVariables false
set_option linter.unusedSimpArgs false
mutual
def bitset_fit.l0 : Nat → Int → List (S26) → List (S26) → Int → Int → Option (Int)
  | 0, _, _, _, _, _ => none
  | k + 1, x0, x1, x9, x10, x11 => if x11 < x10 then (if 0 ≤ x11 then (if x11 < (x9.length : Int) then ((bitset_May.f ((rd_T26 x9 x11).f0) ((rd_T26 x9 x11).f1)).bind fun t103 => (if t103 = true then (bitset_fit.l0 k x0 x1 x9 x10 (wrap64 (x11 + 1))) else (some 61))) else (none)) else (none)) else ((bitset_sized.f x0).bind fun t104 => (if t104 = true then (bitset_fit.l1 k x0 x1 (x1.length : Int) 0) else (some 60)))
def bitset_fit.l1 : Nat → Int → List (S26) → Int → Int → Option (Int)
  | 0, _, _, _, _ => none
  | k + 1, x0, x22, x23, x24 => if x24 < x23 then (if 0 ≤ x24 then (if x24 < (x22.length : Int) then (if ((rd_T26 x22 x24).f0) = x0 then (bitset_fit.l1 k x0 x22 x23 (wrap64 (x24 + 1))) else (some 60)) else (none)) else (none)) else (some 0)
end
def bitset_fit.f (k : Nat) (a0 : Int) (l1 : List (S26)) : Option (Int) := bitset_fit.l0 k a0 l1 l1 (l1.length : Int) 0
set_option maxHeartbeats 8000000 in
set_option maxRecDepth 100000 in
theorem bitset_fit.calls (k : Nat) (a0 : Int) (A1 : Option Addr) (c1 : Nat) (l1 : List (S26)) (r : Int) (w : World) (hr1 : Kd.C k26 w A1 l1.length l1) (hc1 : l1.length ≤ c1) (h : bitset_fit.f k a0 l1 = some r) :
    Calls Try.prog 65 #[.int .i64 a0, .slice A1 l1.length c1] w fun e w' => e = .returned (.int .i64 r) ∧ Below w.heap.size w w' := by
  have hu26 := Try.underlying26
  have HR1 := Aside0.mk hr1
  have HC1 := Aside0.mk hc1
  clear hr1 hc1
  have HB := Aside0.mk (Below.refl w.heap.size w)
  have H : (bitset_fit.l0 k a0 l1 l1 (l1.length : Int) 0) = some r := h
  clear h
  have H' := Aside0.mk H
  clear H
  go_enter Try.func65, Try.ntmps65
  go_wp2
  go_loopg [11] k (fun kq v11 w' => ∃ (x11_1 : Int), v11 = .int .i64 x11_1 ∧ Aside0 (bitset_fit.l0 kq a0 l1 l1 (l1.length : Int) x11_1 = some r) ∧ Aside0 (kq ≤ k) ∧ Aside0 (Below w.heap.size w w'))
  case atStart => exact ⟨(0), (by first | rfl | (simp; done) | (simp [*]; done)), H', ⟨Nat.le_refl _⟩, ⟨by repeat (first | (with_reducible first | exact HB.out | apply below_alloc | apply pw_below_drewN | apply below_drew1) | exact HB.out)⟩⟩
  case round =>
    clear H'
    try clear c1
    try clear p2
    obtain ⟨x11_1, rfl, HA, HK1, HB⟩ := hrel
    cases gk with
    | zero => exact absurd HA.out (by simp [bitset_fit.l0])
    | succ k1 =>
      have H := HA.out
      clear HA
      simp only [bitset_fit.l0] at H
      by_cases c3 : x11_1 < (l1.length : Int)
      · rw [if_pos c3] at H
        have c3b0 : decide (x11_1 < (l1.length : Int)) = true := decide_eq_true c3
        clear c3
        by_cases c4 : 0 ≤ x11_1
        · rw [if_pos c4] at H
          have c4b0 : decide (0 ≤ x11_1) = true := decide_eq_true c4
          clear c4
          by_cases c5 : x11_1 < (l1.length : Int)
          · rw [if_pos c5] at H
            have c5b0 : decide (x11_1 < (l1.length : Int)) = true := decide_eq_true c5
            clear c5
            replace H := Option.bind_eq_some_iff.mp H
            obtain ⟨t103, A60, H⟩ := H
            replace H : (if t103 = true then (bitset_fit.l0 k1 a0 l1 l1 (l1.length : Int) (wrap64 (x11_1 + 1))) else (some 61)) = some r := H
            have A6 := Aside0.mk A60
            clear A60
            by_cases c7 : t103 = true
            · subst c7
              have H1 : (bitset_fit.l0 k1 a0 l1 l1 (l1.length : Int) (wrap64 (x11_1 + 1))) = some r := by rw [if_pos rfl] at H; exact H
              clear H
              have H := H1
              clear H1
              have H' := Aside0.mk H
              clear H
              have p101 : 0 ≤ (x11_1 : Int) := of_decide_eq_true (by first | (with_reducible assumption) | assumption)
              have q101 : x11_1 < (l1.length : Int) := of_decide_eq_true (by first | (with_reducible assumption) | assumption)
              obtain ⟨ad101, A101_1, c101_1, e101, hx101_0, hx101_1, hl101_1, hi101_1⟩ := at_T26 HR1.out x11_1 p101 q101
              cases e101
              replace hx101_0 := (HB.out.cell (World.block_lt_of_cell? w _ hx101_0)).trans hx101_0
              replace hx101_1 := (HB.out.cell (World.block_lt_of_cell? w _ hx101_1)).trans hx101_1
              have HR101_1 := Aside0.mk hi101_1
              have HC101_1 := Aside0.mk hl101_1
              clear hi101_1 hl101_1
              replace p101 := eq_true p101
              replace q101 := eq_true q101
              go_wp2_with (first | ((with_reducible refine gate_dst (N := 6) rfl ?_); refine box_event ?hg (N := 6) ?hd (cs := #[.int .i64 0, .slice none 0 0]) (t := 26) ?hr ?_; (case hd => rfl); (case hg => rfl); (case hr => first | (go_simp; done) | (go_simp; rfl)); intro gb102 hg w8 hbox hb; have n0_ := Aside0.mk (below_step (by repeat (first | (with_reducible first | exact HB.out | apply below_alloc | apply pw_below_drewN | apply below_drew1) | exact HB.out)) hb); have n1_ := Aside0.mk (hbox); have n2_ := Aside0.mk ((by rw [hg]; exact (below_size (by repeat (first | (with_reducible first | exact HB.out | apply below_alloc | apply pw_below_drewN | apply below_drew1) | exact HB.out))) : w.heap.size ≤ gb102)); have n3_ := Aside0.mk ((by rw [hg]; exact (below_size (by repeat (first | (with_reducible first | exact HB.out | apply below_alloc | apply pw_below_drewN | apply below_drew1) | exact HB.out))) : w.heap.size ≤ gb102)); clear HB; have HB := n0_; have BK102 := n1_; have GW102 := n2_; have GE102 := n3_; clear n0_ n1_ n2_ n3_; clear hb hbox hg; have hcz9_0 : w8.cell? ⟨gb102, 0, none⟩ = some (.int .i64 0) := (blk_cell BK102.out 0).trans rfl; have hcz9_1 : w8.cell? ⟨gb102, 1, none⟩ = some (.slice none 0 0) := (blk_cell BK102.out 1).trans rfl; have hfz9_0 := blk_frozen BK102.out 0; have hfz9_1 := blk_frozen BK102.out 1) | ((with_reducible refine gate_callee (f := 23) rfl ?_); refine goesL_ (some 16) rfl rfl Try.func23 (by kernel_rfl) rfl #[.agg #[.int .i64 ((rd_T26 l1 x11_1).f0), .slice A101_1 ((rd_T26 l1 x11_1).f1).length c101_1]] rfl (by (try simp only [List.map_toArray, List.map_cons, List.map_nil]); first | done | rfl | (simp only [List.length_drop, List.length_take]; rfl)) ?_; (with_reducible refine (bitset_May.calls ((rd_T26 l1 x11_1).f0) _ _ ((rd_T26 l1 x11_1).f1) true _ ?side1 ?side2 A6.out).mono ?_); (case side1 => exact Kd.C_below HR101_1.out (by repeat (first | (with_reducible first | exact HB.out | apply below_alloc | apply pw_below_drewN | apply below_drew1 | refine below_set ?_ GE102.out) | exact HB.out))); (case side2 => exact HC101_1.out); rintro e w10 ⟨rfl, hb⟩; refine ⟨_, rfl, ?_⟩; have n0_ := Aside0.mk (blk_below (g := gb102) (o := .cells #[.int .i64 ((rd_T26 l1 x11_1).f0), .slice A101_1 ((rd_T26 l1 x11_1).f1).length c101_1] 26 (0, 0)) (by (with_reducible repeat (first | refine blk_drewN ?_ _ | refine blk_drew ?_ | refine blk_alloc ?_ _)); refine blk_put (cs := #[.int .i64 ((rd_T26 l1 x11_1).f0), .slice none 0 0]) ?_ 1 _ rfl; (with_reducible repeat (first | refine blk_drewN ?_ _ | refine blk_drew ?_ | refine blk_alloc ?_ _)); refine blk_put (cs := #[.int .i64 0, .slice none 0 0]) ?_ 0 _ rfl; (with_reducible repeat (first | refine blk_drewN ?_ _ | refine blk_drew ?_ | refine blk_alloc ?_ _)); exact BK102.out) hb); have n1_ := Aside0.mk (below_step (by repeat (first | (with_reducible first | exact HB.out | apply below_alloc | apply pw_below_drewN | apply below_drew1 | refine below_set ?_ GE102.out) | exact HB.out)) hb); clear BK102; clear HB; have BK102 := n0_; have HB := n1_; clear n0_ n1_; (try clear hb); (try clear hb2); (try clear hk); (try clear hi)))
              go_roundg k1
              case measure => have := HK1.out; omega
              case rel => exact ⟨(wrap64 (x11_1 + 1)), (by first | rfl | (simp; done) | (simp [*]; done)), H', ⟨by have := HK1.out; omega⟩, ⟨by repeat (first | (with_reducible first | exact HB.out | apply below_alloc | apply pw_below_drewN | apply below_drew1 | refine below_set ?_ GE102.out) | exact HB.out)⟩⟩
            · replace c7 := Bool.eq_false_iff.mpr c7
              subst c7
              have H1 : (some 61) = some r := by rw [if_neg (show ¬ (false = true) by decide)] at H; exact H
              clear H
              have H := H1
              clear H1
              obtain rfl := Option.some.inj H
              have p101 : 0 ≤ (x11_1 : Int) := of_decide_eq_true (by first | (with_reducible assumption) | assumption)
              have q101 : x11_1 < (l1.length : Int) := of_decide_eq_true (by first | (with_reducible assumption) | assumption)
              obtain ⟨ad101, A101_1, c101_1, e101, hx101_0, hx101_1, hl101_1, hi101_1⟩ := at_T26 HR1.out x11_1 p101 q101
              cases e101
              replace hx101_0 := (HB.out.cell (World.block_lt_of_cell? w _ hx101_0)).trans hx101_0
              replace hx101_1 := (HB.out.cell (World.block_lt_of_cell? w _ hx101_1)).trans hx101_1
              have HR101_1 := Aside0.mk hi101_1
              have HC101_1 := Aside0.mk hl101_1
              clear hi101_1 hl101_1
              replace p101 := eq_true p101
              replace q101 := eq_true q101
              go_wp2_with (first | ((with_reducible refine gate_dst (N := 6) rfl ?_); refine box_event ?hg (N := 6) ?hd (cs := #[.int .i64 0, .slice none 0 0]) (t := 26) ?hr ?_; (case hd => rfl); (case hg => rfl); (case hr => first | (go_simp; done) | (go_simp; rfl)); intro gb102 hg w11 hbox hb; have n0_ := Aside0.mk (below_step (by repeat (first | (with_reducible first | exact HB.out | apply below_alloc | apply pw_below_drewN | apply below_drew1) | exact HB.out)) hb); have n1_ := Aside0.mk (hbox); have n2_ := Aside0.mk ((by rw [hg]; exact (below_size (by repeat (first | (with_reducible first | exact HB.out | apply below_alloc | apply pw_below_drewN | apply below_drew1) | exact HB.out))) : w.heap.size ≤ gb102)); have n3_ := Aside0.mk ((by rw [hg]; exact (below_size (by repeat (first | (with_reducible first | exact HB.out | apply below_alloc | apply pw_below_drewN | apply below_drew1) | exact HB.out))) : w.heap.size ≤ gb102)); clear HB; have HB := n0_; have BK102 := n1_; have GW102 := n2_; have GE102 := n3_; clear n0_ n1_ n2_ n3_; clear hb hbox hg; have hcz12_0 : w11.cell? ⟨gb102, 0, none⟩ = some (.int .i64 0) := (blk_cell BK102.out 0).trans rfl; have hcz12_1 : w11.cell? ⟨gb102, 1, none⟩ = some (.slice none 0 0) := (blk_cell BK102.out 1).trans rfl; have hfz12_0 := blk_frozen BK102.out 0; have hfz12_1 := blk_frozen BK102.out 1) | ((with_reducible refine gate_callee (f := 23) rfl ?_); refine goesL_ (some 16) rfl rfl Try.func23 (by kernel_rfl) rfl #[.agg #[.int .i64 ((rd_T26 l1 x11_1).f0), .slice A101_1 ((rd_T26 l1 x11_1).f1).length c101_1]] rfl (by (try simp only [List.map_toArray, List.map_cons, List.map_nil]); first | done | rfl | (simp only [List.length_drop, List.length_take]; rfl)) ?_; (with_reducible refine (bitset_May.calls ((rd_T26 l1 x11_1).f0) _ _ ((rd_T26 l1 x11_1).f1) false _ ?side1 ?side2 A6.out).mono ?_); (case side1 => exact Kd.C_below HR101_1.out (by repeat (first | (with_reducible first | exact HB.out | apply below_alloc | apply pw_below_drewN | apply below_drew1 | refine below_set ?_ GE102.out) | exact HB.out))); (case side2 => exact HC101_1.out); rintro e w13 ⟨rfl, hb⟩; refine ⟨_, rfl, ?_⟩; have n0_ := Aside0.mk (blk_below (g := gb102) (o := .cells #[.int .i64 ((rd_T26 l1 x11_1).f0), .slice A101_1 ((rd_T26 l1 x11_1).f1).length c101_1] 26 (0, 0)) (by (with_reducible repeat (first | refine blk_drewN ?_ _ | refine blk_drew ?_ | refine blk_alloc ?_ _)); refine blk_put (cs := #[.int .i64 ((rd_T26 l1 x11_1).f0), .slice none 0 0]) ?_ 1 _ rfl; (with_reducible repeat (first | refine blk_drewN ?_ _ | refine blk_drew ?_ | refine blk_alloc ?_ _)); refine blk_put (cs := #[.int .i64 0, .slice none 0 0]) ?_ 0 _ rfl; (with_reducible repeat (first | refine blk_drewN ?_ _ | refine blk_drew ?_ | refine blk_alloc ?_ _)); exact BK102.out) hb); have n1_ := Aside0.mk (below_step (by repeat (first | (with_reducible first | exact HB.out | apply below_alloc | apply pw_below_drewN | apply below_drew1 | refine below_set ?_ GE102.out) | exact HB.out)) hb); clear BK102; clear HB; have BK102 := n0_; have HB := n1_; clear n0_ n1_; (try clear hb); (try clear hb2); (try clear hk); (try clear hi)))
              go_ret
              exact ⟨by first | rfl | (simp [errW_none, errW_some] <;> rfl) | (simp [*, errW_none, errW_some] <;> rfl), by repeat (first | (with_reducible first | exact HB.out | apply below_alloc | apply pw_below_drewN | apply below_drew1 | refine below_set ?_ GE102.out) | exact HB.out)⟩
          · rw [if_neg c5] at H
            exact absurd H (by simp)
        · rw [if_neg c4] at H
          exact absurd H (by simp)
      · rw [if_neg c3] at H
        have c3b0 : decide (x11_1 < (l1.length : Int)) = false := decide_eq_false c3
        clear c3
        replace H := Option.bind_eq_some_iff.mp H
        obtain ⟨t104, A140, H⟩ := H
        replace H : (if t104 = true then (bitset_fit.l1 k1 a0 l1 (l1.length : Int) 0) else (some 60)) = some r := H
        have A14 := Aside0.mk A140
        clear A140
        by_cases c15 : t104 = true
        · subst c15
          have H1 : (bitset_fit.l1 k1 a0 l1 (l1.length : Int) 0) = some r := by rw [if_pos rfl] at H; exact H
          clear H
          have H := H1
          clear H1
          have H' := Aside0.mk H
          clear H
          go_wp2_with (first | ((with_reducible refine gate_callee (f := 55) rfl ?_); refine goesL_ (some 20) rfl rfl Try.func55 (by kernel_rfl) rfl #[.int .i64 a0] rfl (by (try simp only [List.map_toArray, List.map_cons, List.map_nil]); first | done | rfl | (simp only [List.length_drop, List.length_take]; rfl)) ?_; (with_reducible refine (bitset_sized.calls a0 true _ A14.out).mono ?_); rintro e w' ⟨rfl, ⟨nd, rfl⟩⟩; refine ⟨_, rfl, ?_⟩))
          go_loopg [24] k1 (fun kq v24 w' => ∃ (x24_2 : Int), v24 = .int .i64 x24_2 ∧ Aside0 (bitset_fit.l1 kq a0 l1 (l1.length : Int) x24_2 = some r) ∧ Aside0 (kq ≤ k1) ∧ Aside0 (Below w.heap.size w w'))
          case atStart => exact ⟨(0), (by first | rfl | (simp; done) | (simp [*]; done)), H', ⟨Nat.le_refl _⟩, ⟨by repeat (first | (with_reducible first | exact HB.out | apply below_alloc | apply pw_below_drewN | apply below_drew1) | exact HB.out)⟩⟩
          case round =>
            clear H'
            try clear c1
            try clear p1
            try clear q1
            try clear hx1
            try clear c2
            try clear p2
            try clear c3
            try clear c3b0
            try clear c4
            try clear c4b0
            try clear c5
            try clear c5b0
            try clear c6
            try clear p6
            try clear c7
            try clear c10
            try clear p10
            try clear q10
            try clear hx10
            try clear c15
            try clear hcz12_0
            try clear hcz12_1
            try clear hcz9_0
            try clear hcz9_1
            try clear hfz12_0
            try clear hfz12_1
            try clear hfz9_0
            try clear hfz9_1
            try clear hx101_0
            try clear hx101_1
            try clear p101
            try clear p2
            try clear q101
            obtain ⟨x24_2, rfl, HA, HK2, HB⟩ := hrel
            cases gk with
            | zero => exact absurd HA.out (by simp [bitset_fit.l1])
            | succ k2 =>
              have H := HA.out
              clear HA
              simp only [bitset_fit.l1] at H
              by_cases c16 : x24_2 < (l1.length : Int)
              · rw [if_pos c16] at H
                have c16b0 : decide (x24_2 < (l1.length : Int)) = true := decide_eq_true c16
                clear c16
                by_cases c17 : 0 ≤ x24_2
                · rw [if_pos c17] at H
                  have c17b0 : decide (0 ≤ x24_2) = true := decide_eq_true c17
                  clear c17
                  by_cases c18 : x24_2 < (l1.length : Int)
                  · rw [if_pos c18] at H
                    have c18b0 : decide (x24_2 < (l1.length : Int)) = true := decide_eq_true c18
                    clear c18
                    by_cases c19 : ((rd_T26 l1 x24_2).f0) = a0
                    · rw [if_pos c19] at H
                      have c19b0 : (((rd_T26 l1 x24_2).f0) == a0) = true := beq_iff_eq.mpr c19
                      have c19b1 : (((rd_T26 l1 x24_2).f0) != a0) = false := bne_eq_false_iff_eq.mpr c19
                      clear c19
                      have H' := Aside0.mk H
                      clear H
                      have p105 : 0 ≤ (x24_2 : Int) := of_decide_eq_true (by first | (with_reducible assumption) | assumption)
                      have q105 : x24_2 < (l1.length : Int) := of_decide_eq_true (by first | (with_reducible assumption) | assumption)
                      obtain ⟨ad105, A105_1, c105_1, e105, hx105_0, hx105_1, hl105_1, hi105_1⟩ := at_T26 HR1.out x24_2 p105 q105
                      cases e105
                      replace hx105_0 := (HB.out.cell (World.block_lt_of_cell? w _ hx105_0)).trans hx105_0
                      replace hx105_1 := (HB.out.cell (World.block_lt_of_cell? w _ hx105_1)).trans hx105_1
                      have HR105_1 := Aside0.mk hi105_1
                      have HC105_1 := Aside0.mk hl105_1
                      clear hi105_1 hl105_1
                      replace p105 := eq_true p105
                      replace q105 := eq_true q105
                      go_wp2_with (first | ((with_reducible refine gate_dst (N := 8) rfl ?_); refine box_event ?hg (N := 8) ?hd (cs := #[.int .i64 0, .slice none 0 0]) (t := 26) ?hr ?_; (case hd => rfl); (case hg => rfl); (case hr => first | (go_simp; done) | (go_simp; rfl)); intro gb106 hg w20 hbox hb; have n0_ := Aside0.mk (below_step (by repeat (first | (with_reducible first | exact HB.out | apply below_alloc | apply pw_below_drewN | apply below_drew1) | exact HB.out)) hb); have n1_ := Aside0.mk (hbox); have n2_ := Aside0.mk ((by rw [hg]; exact (below_size (by repeat (first | (with_reducible first | exact HB.out | apply below_alloc | apply pw_below_drewN | apply below_drew1) | exact HB.out))) : w.heap.size ≤ gb106)); have n3_ := Aside0.mk ((by rw [hg]; exact (below_size (by repeat (first | (with_reducible first | exact HB.out | apply below_alloc | apply pw_below_drewN | apply below_drew1) | exact HB.out))) : w.heap.size ≤ gb106)); clear HB; have HB := n0_; have BK106 := n1_; have GW106 := n2_; have GE106 := n3_; clear n0_ n1_ n2_ n3_; clear hb hbox hg; have hcz21_0 : w20.cell? ⟨gb106, 0, none⟩ = some (.int .i64 0) := (blk_cell BK106.out 0).trans rfl; have hcz21_1 : w20.cell? ⟨gb106, 1, none⟩ = some (.slice none 0 0) := (blk_cell BK106.out 1).trans rfl; have hfz21_0 := blk_frozen BK106.out 0; have hfz21_1 := blk_frozen BK106.out 1))
                      go_roundg k2
                      case measure => have := HK1.out; have := HK2.out; omega
                      case rel => exact ⟨(wrap64 (x24_2 + 1)), (by first | rfl | (simp; done) | (simp [*]; done)), H', ⟨by have := HK1.out; have := HK2.out; omega⟩, ⟨by repeat (first | (with_reducible first | exact HB.out | apply below_alloc | apply pw_below_drewN | apply below_drew1 | refine below_set ?_ GE106.out) | exact HB.out)⟩⟩
                    · rw [if_neg c19] at H
                      have c19b0 : (((rd_T26 l1 x24_2).f0) == a0) = false := beq_eq_false_iff_ne.mpr c19
                      have c19b1 : (((rd_T26 l1 x24_2).f0) != a0) = true := bne_iff_ne.mpr c19
                      obtain rfl := Option.some.inj H
                      have p105 : 0 ≤ (x24_2 : Int) := of_decide_eq_true (by first | (with_reducible assumption) | assumption)
                      have q105 : x24_2 < (l1.length : Int) := of_decide_eq_true (by first | (with_reducible assumption) | assumption)
                      obtain ⟨ad105, A105_1, c105_1, e105, hx105_0, hx105_1, hl105_1, hi105_1⟩ := at_T26 HR1.out x24_2 p105 q105
                      cases e105
                      replace hx105_0 := (HB.out.cell (World.block_lt_of_cell? w _ hx105_0)).trans hx105_0
                      replace hx105_1 := (HB.out.cell (World.block_lt_of_cell? w _ hx105_1)).trans hx105_1
                      have HR105_1 := Aside0.mk hi105_1
                      have HC105_1 := Aside0.mk hl105_1
                      clear hi105_1 hl105_1
                      replace p105 := eq_true p105
                      replace q105 := eq_true q105
                      go_wp2_with (first | ((with_reducible refine gate_dst (N := 8) rfl ?_); refine box_event ?hg (N := 8) ?hd (cs := #[.int .i64 0, .slice none 0 0]) (t := 26) ?hr ?_; (case hd => rfl); (case hg => rfl); (case hr => first | (go_simp; done) | (go_simp; rfl)); intro gb106 hg w22 hbox hb; have n0_ := Aside0.mk (below_step (by repeat (first | (with_reducible first | exact HB.out | apply below_alloc | apply pw_below_drewN | apply below_drew1) | exact HB.out)) hb); have n1_ := Aside0.mk (hbox); have n2_ := Aside0.mk ((by rw [hg]; exact (below_size (by repeat (first | (with_reducible first | exact HB.out | apply below_alloc | apply pw_below_drewN | apply below_drew1) | exact HB.out))) : w.heap.size ≤ gb106)); have n3_ := Aside0.mk ((by rw [hg]; exact (below_size (by repeat (first | (with_reducible first | exact HB.out | apply below_alloc | apply pw_below_drewN | apply below_drew1) | exact HB.out))) : w.heap.size ≤ gb106)); clear HB; have HB := n0_; have BK106 := n1_; have GW106 := n2_; have GE106 := n3_; clear n0_ n1_ n2_ n3_; clear hb hbox hg; have hcz23_0 : w22.cell? ⟨gb106, 0, none⟩ = some (.int .i64 0) := (blk_cell BK106.out 0).trans rfl; have hcz23_1 : w22.cell? ⟨gb106, 1, none⟩ = some (.slice none 0 0) := (blk_cell BK106.out 1).trans rfl; have hfz23_0 := blk_frozen BK106.out 0; have hfz23_1 := blk_frozen BK106.out 1))
                      go_ret
                      exact ⟨by first | rfl | (simp [errW_none, errW_some] <;> rfl) | (simp [*, errW_none, errW_some] <;> rfl), by repeat (first | (with_reducible first | exact HB.out | apply below_alloc | apply pw_below_drewN | apply below_drew1 | refine below_set ?_ GE106.out) | exact HB.out)⟩
                  · rw [if_neg c18] at H
                    exact absurd H (by simp)
                · rw [if_neg c17] at H
                  exact absurd H (by simp)
              · rw [if_neg c16] at H
                have c16b0 : decide (x24_2 < (l1.length : Int)) = false := decide_eq_false c16
                clear c16
                obtain rfl := Option.some.inj H
                go_wp2
                go_ret
                exact ⟨by first | rfl | (simp [errW_none, errW_some] <;> rfl) | (simp [*, errW_none, errW_some] <;> rfl), by repeat (first | (with_reducible first | exact HB.out | apply below_alloc | apply pw_below_drewN | apply below_drew1) | exact HB.out)⟩
        · replace c15 := Bool.eq_false_iff.mpr c15
          subst c15
          have H1 : (some 60) = some r := by rw [if_neg (show ¬ (false = true) by decide)] at H; exact H
          clear H
          have H := H1
          clear H1
          obtain rfl := Option.some.inj H
          go_wp2_with (first | ((with_reducible refine gate_callee (f := 55) rfl ?_); refine goesL_ (some 20) rfl rfl Try.func55 (by kernel_rfl) rfl #[.int .i64 a0] rfl (by (try simp only [List.map_toArray, List.map_cons, List.map_nil]); first | done | rfl | (simp only [List.length_drop, List.length_take]; rfl)) ?_; (with_reducible refine (bitset_sized.calls a0 false _ A14.out).mono ?_); rintro e w' ⟨rfl, ⟨nd, rfl⟩⟩; refine ⟨_, rfl, ?_⟩))
          go_ret
          exact ⟨by first | rfl | (simp [errW_none, errW_some] <;> rfl) | (simp [*, errW_none, errW_some] <;> rfl), by repeat (first | (with_reducible first | exact HB.out | apply below_alloc | apply pw_below_drewN | apply below_drew1) | exact HB.out)⟩
end Go.Proofs.Ytjmkhdhffmlhiaa.PAll
end
section
namespace Go.Proofs.Ytjmkhdhffmlhiaa.PAll
open Go.RowKit Go.Proofs.YtjmkhdhffmlhiaaW.PrintWords Go.Proofs.YtjmkhdhffmlhiaaW.PrintLast Go.Proofs.YtjmkhdhffmlhiaaW.PrintMore
attribute [local go_sem] max2_int min2_int max_two min_two max_three min_three max_four min_four w64_u8 w64_mod256   -- for this text's walks alone
set_option linter.unusedVariables false
set_option linter.unusedSimpArgs false
end Go.Proofs.Ytjmkhdhffmlhiaa.PAll
end
section
namespace Go.Proofs.Ytjmkhdhffmlhiaa.PAll
open Go.RowKit Go.Proofs.YtjmkhdhffmlhiaaW.PrintWords Go.Proofs.YtjmkhdhffmlhiaaW.PrintMore
def MayS (x : S26) : Prop := MayP x.f0 x.f1
def Goods (l : List S26) : Prop := ∀ x ∈ l, Wds x.f1 ∧ x.f1.length ≤ 9223372036854775807
theorem Goods.of {l : List S26} (h : ∀ x ∈ l, good26 x) : Goods l := fun x hx => ⟨(h x hx).2.1, by have := (h x hx).2.2; omega⟩
def FitSays (n : Int) (l : List S26) (r : Int) : Prop :=
  (r = 61 ∧ ∃ x ∈ l, ¬ MayS x) ∨ (r = 60 ∧ (∀ x ∈ l, MayS x) ∧ ((n < 0 ∨ 4096 < n) ∨ ∃ x ∈ l, x.f0 ≠ n)) ∨ (r = 0 ∧ (∀ x ∈ l, MayS x) ∧ (∀ x ∈ l, x.f0 = n) ∧ 0 ≤ n ∧ n ≤ 4096)
theorem FitSays.eq {n : Int} {l : List S26} {r q : Int} (h : FitSays n l r) (k : FitSays n l q) : r = q := by
  rcases h with ⟨rfl, x, h1, h2⟩ | ⟨rfl, h1, h2⟩ | ⟨rfl, h1, h2, h3, h4⟩ <;> rcases k with ⟨rfl, y, k1, k2⟩ | ⟨rfl, k1, k2⟩ | ⟨rfl, k1, k2, k3, k4⟩
  · rfl
  · exact absurd (k1 x h1) h2
  · exact absurd (k1 x h1) h2
  · exact absurd (h1 y k1) k2
  · rfl
  · rcases h2 with h2 | ⟨x, h2, h3⟩
    · omega
    · exact absurd (k2 x h2) h3
  · exact absurd (h1 y k1) k2
  · rcases k2 with k2 | ⟨x, k2, k3⟩
    · omega
    · exact absurd (h2 x k2) k3
  · rfl
theorem rd26 {l : List S26} {i : Nat} (h : i < l.length) : rd_T26 l (i : Int) = l[i] := by simp [rd_T26, List.getD_eq_getElem?_getD, List.getElem?_eq_getElem h]
theorem fit_l1 (n : Int) (l : List S26) (hl : l.length ≤ 9223372036854775807) : ∀ d i : Nat, i + d = l.length → ∃ r, Ev (fun k => bitset_fit.l1 k n l (l.length : Int) (i : Int)) r ∧ ((r = 0 ∧ ∀ x ∈ l.drop i, x.f0 = n) ∨ (r = 60 ∧ ∃ x ∈ l.drop i, x.f0 ≠ n)) := by
  intro d
  induction d with
  | zero =>
    intro i hi
    refine ⟨0, ⟨1, fun k hk => ?_⟩, .inl ⟨rfl, ?_⟩⟩
    · obtain ⟨k, rfl⟩ : ∃ m, k = m + 1 := ⟨k - 1, by omega⟩
      simp only [bitset_fit.l1]
      rw [if_neg (by omega)]
    · rw [List.drop_eq_nil_of_le (by omega)]; intro x hx; cases hx
  | succ d ih =>
    intro i hi
    have hlt : i < l.length := by omega
    rw [List.drop_eq_getElem_cons hlt]
    by_cases hx : l[i].f0 = n
    · obtain ⟨r, h1, h2⟩ := ih (i + 1) (by omega)
      refine ⟨r, Ev.step (fun k => ?_) h1, ?_⟩
      · conv => lhs; rw [bitset_fit.l1]
        rw [if_pos (by omega), if_pos (by omega), if_pos (by omega), rd26 hlt, if_pos hx]
        rw [show wrap64 ((i : Int) + 1) = ((i + 1 : Nat) : Int) by unfold wrap64; omega]
      · rcases h2 with ⟨rfl, h2⟩ | ⟨rfl, x, h2, h3⟩
        · refine .inl ⟨rfl, fun x hx' => ?_⟩
          rcases List.mem_cons.1 hx' with rfl | h4
          · exact hx
          · exact h2 x h4
        · exact .inr ⟨rfl, x, List.mem_cons_of_mem _ h2, h3⟩
    · refine ⟨60, ⟨1, fun k hk => ?_⟩, .inr ⟨rfl, l[i], List.mem_cons_self, hx⟩⟩
      obtain ⟨k, rfl⟩ : ∃ m, k = m + 1 := ⟨k - 1, by omega⟩
      simp only [bitset_fit.l1]
      rw [if_pos (by omega), if_pos (by omega), if_pos (by omega), rd26 hlt, if_neg hx]
theorem fit_l0 (n : Int) (l : List S26) (hl : l.length ≤ 9223372036854775807) (hg : Goods l) : ∀ d i : Nat, i + d = l.length →
    (Ev (fun k => bitset_fit.l0 k n l l (l.length : Int) (i : Int)) 61 ∧ ∃ x ∈ l.drop i, ¬ MayS x) ∨ ((∀ x ∈ l.drop i, MayS x) ∧ ∀ r, Ev (fun k => (bitset_sized.f n).bind fun t104 => (if t104 = true then (bitset_fit.l1 k n l (l.length : Int) 0) else (some 60))) r → Ev (fun k => bitset_fit.l0 k n l l (l.length : Int) (i : Int)) r) := by
  intro d
  induction d with
  | zero =>
    intro i hi
    refine .inr ⟨?_, fun r h => Ev.step (fun k => ?_) h⟩
    · rw [List.drop_eq_nil_of_le (by omega)]; intro x hx; cases hx
    · conv => lhs; rw [bitset_fit.l0]
      rw [if_neg (by omega)]
  | succ d ih =>
    intro i hi
    have hlt : i < l.length := by omega
    rw [List.drop_eq_getElem_cons hlt]
    have hgi := hg l[i] (List.getElem_mem hlt)
    have hm := May_eq l[i].f0 l[i].f1 hgi.1 hgi.2
    by_cases hx : MayS l[i]
    · have hstep : ∀ k, bitset_fit.l0 (k + 1) n l l (l.length : Int) (i : Int) = bitset_fit.l0 k n l l (l.length : Int) ((i + 1 : Nat) : Int) := by
        intro k
        conv => lhs; rw [bitset_fit.l0]
        rw [if_pos (by omega), if_pos (by omega), if_pos (by omega), rd26 hlt, hm, may_true.2 hx, Option.bind_some, if_pos rfl]
        rw [show wrap64 ((i : Int) + 1) = ((i + 1 : Nat) : Int) by unfold wrap64; omega]
      rcases ih (i + 1) (by omega) with ⟨h1, x, h2, h3⟩ | ⟨h1, h2⟩
      · exact .inl ⟨Ev.step hstep h1, x, List.mem_cons_of_mem _ h2, h3⟩
      · refine .inr ⟨fun x hx' => ?_, fun r h => Ev.step hstep (h2 r h)⟩
        rcases List.mem_cons.1 hx' with rfl | h4
        · exact hx
        · exact h1 x h4
    · refine .inl ⟨⟨1, fun k hk => ?_⟩, l[i], List.mem_cons_self, hx⟩
      obtain ⟨k, rfl⟩ : ∃ m, k = m + 1 := ⟨k - 1, by omega⟩
      simp only [bitset_fit.l0]
      rw [if_pos (by omega), if_pos (by omega), if_pos (by omega), rd26 hlt, hm, may_false.2 hx, Option.bind_some, if_neg (by simp)]
theorem fit_eq (n : Int) (l : List S26) (hl : l.length ≤ 9223372036854775807) (hg : Goods l) : ∃ r, FitSays n l r ∧ Ev (fun k => bitset_fit.f k n l) r := by
  have h0 := fit_l0 n l hl hg l.length 0 (by omega)
  rw [List.drop_zero] at h0
  rcases h0 with ⟨h1, h2⟩ | ⟨h1, h2⟩
  · exact ⟨61, .inl ⟨rfl, h2⟩, h1⟩
  · by_cases hs : 0 ≤ n ∧ n ≤ 4096
    · obtain ⟨m, rfl⟩ := Int.eq_ofNat_of_zero_le hs.1
      obtain ⟨r, h3, h4⟩ := fit_l1 (m : Int) l hl l.length 0 (by omega)
      rw [List.drop_zero] at h4
      refine ⟨r, ?_, h2 r (Ev.congr (fun k => ?_) h3)⟩
      · rcases h4 with ⟨rfl, h4⟩ | ⟨rfl, h4⟩
        · exact .inr (.inr ⟨rfl, h1, h4, hs⟩)
        · exact .inr (.inl ⟨rfl, h1, .inr h4⟩)
      · rw [sized_yes (by omega), Option.bind_some, if_pos rfl]; rfl
    · refine ⟨60, .inr (.inl ⟨rfl, h1, .inl (by omega)⟩), h2 _ (Ev.const fun k => ?_)⟩
      rw [sized_no (by omega), Option.bind_some, if_neg (by simp)]
end Go.Proofs.Ytjmkhdhffmlhiaa.PAll
end
section
namespace Go.Proofs.Ytjmkhdhffmlhiaa.PAll
open Go.RowKit Go.Proofs.YtjmkhdhffmlhiaaW.PrintWords Go.Proofs.YtjmkhdhffmlhiaaW.PrintLast Go.Proofs.YtjmkhdhffmlhiaaW.PrintMore
attribute [local go_sem] max2_int min2_int max_two min_two max_three min_three max_four min_four w64_u8 w64_mod256   -- for this text's walks alone
set_option linter.unusedVariables false
set_option linter.unusedSimpArgs false
end Go.Proofs.Ytjmkhdhffmlhiaa.PAll
end
section
namespace Go.Proofs.Ytjmkhdhffmlhiaa.PAll
open Go.RowKit Go.Proofs.YtjmkhdhffmlhiaaW.PrintWords Go.Proofs.YtjmkhdhffmlhiaaW.PrintLast Go.Proofs.YtjmkhdhffmlhiaaW.PrintMore
attribute [local go_sem] max2_int min2_int max_two min_two max_three min_three max_four min_four w64_u8 w64_mod256   -- for this text's walks alone
set_option linter.unusedVariables false
set_option linter.unusedSimpArgs false
end Go.Proofs.Ytjmkhdhffmlhiaa.PAll
end
section
namespace Go.Proofs.Ytjmkhdhffmlhiaa.PAll
open Go.RowKit Go.Proofs.YtjmkhdhffmlhiaaW.PrintWords Go.Proofs.YtjmkhdhffmlhiaaW.PrintLast Go.Proofs.YtjmkhdhffmlhiaaW.PrintMore
attribute [local go_sem] max2_int min2_int max_two min_two max_three min_three max_four min_four w64_u8 w64_mod256   -- for this text's walks alone
set_option linter.unusedVariables false
set_option linter.unusedSimpArgs false
end Go.Proofs.Ytjmkhdhffmlhiaa.PAll
end
section
namespace Go.Proofs.Ytjmkhdhffmlhiaa.PAll
open Go.RowKit Go.Proofs.YtjmkhdhffmlhiaaW.PrintWords Go.Proofs.YtjmkhdhffmlhiaaW.PrintLast Go.Proofs.YtjmkhdhffmlhiaaW.PrintMore
attribute [local go_sem] max2_int min2_int max_two min_two max_three min_three max_four min_four w64_u8 w64_mod256   -- for this text's walks alone
set_option linter.unusedVariables false
set_option linter.unusedSimpArgs false
end Go.Proofs.Ytjmkhdhffmlhiaa.PAll
end
section
namespace Go.Proofs.Ytjmkhdhffmlhiaa.PAll
open Go.RowKit Go.Proofs.YtjmkhdhffmlhiaaW.PrintWords Go.Proofs.YtjmkhdhffmlhiaaW.PrintLast Go.Proofs.YtjmkhdhffmlhiaaW.PrintMore
def foldw (g : Int → Int → Int) (b ws : List Int) : Option (List Int) :=
  if ws.length ≤ b.length then some (List.zipWith g b ws ++ b.drop ws.length) else none
def folds (g : Int → Int → Int) : List Int → List S26 → Option (List Int)
  | b, [] => some b
  | b, s :: l => (foldw g b s.f1).bind fun c => folds g c l
def stepw (g : Int → Int → Int) : Nat → List Int → List Int → Option (List Int)
  | _, b, [] => some b
  | i, b, x :: l => if i < b.length then stepw g (i + 1) (b.set i (g (rd b i) x)) l else none
theorem stepw_from (g : Int → Int → Int) (l : List Int) : ∀ (i : Nat) (b : List Int), i + l.length ≤ b.length → stepw g i b l = some (b.take i ++ List.zipWith g (b.drop i) l ++ b.drop (i + l.length)) := by
  induction l with
  | nil => intro i b h; simp [stepw]
  | cons x l ih =>
    intro i b h
    simp only [List.length_cons] at h
    have hi : i < b.length := by omega
    rw [stepw, if_pos hi, ih _ _ (by simp; omega)]
    have h1 : rd b (i : Int) = b[i] := by simp [rd, List.getD_eq_getElem?_getD, List.getElem?_eq_getElem hi]
    rw [h1, List.drop_eq_getElem_cons hi]
    simp only [List.zipWith_cons_cons]
    rw [List.drop_set_of_lt (by omega), List.drop_set_of_lt (by omega), List.take_add_one, List.take_set_of_le (by omega)]
    simp [hi, Nat.add_assoc, Nat.add_comm 1]
theorem stepw_of_foldw {g : Int → Int → Int} {b ws c : List Int} (h : foldw g b ws = some c) : stepw g 0 b ws = some c := by
  unfold foldw at h
  split at h
  · rename_i hl
    rw [stepw_from g ws 0 b (by omega)]
    simpa using h
  · cases h
theorem free_of_row {w : World} {g : Nat} {t : TypeId} {cs : Array Value} (h : w.heap[g]? = some (.cells cs t (0, 0))) (j : Nat) : w.frozen? ⟨g, j, none⟩ = false := by simp [World.frozen?, h]
theorem kept_not {S : Nat → Prop} {w : World} {A : Option Addr} {n : Nat} {xs : List S26} (hr : ∀ W_, Kept w W_ S → Kd.C k26 W_ A n xs) (i : Int) (h0 : 0 ≤ i) (h1 : i < n) {ad : Addr} (hA : A = some ad) : ad.block < w.heap.size ∧ ¬ S ad.block := by
  obtain ⟨ad', A', c', e, hc, _⟩ := at_T26 (hr w (Kept.refl _ _)) i h0 h1
  have : ad' = ad := by rw [hA] at e; exact (Option.some.inj e).symm
  subst this
  have hb : (ad'.add (i.toNat * 2)).block = ad'.block := by unfold Addr.add; split <;> rfl
  have hlt : ad'.block < w.heap.size := by rw [← hb]; exact World.block_lt_of_cell? w _ hc
  refine ⟨hlt, fun hs => ?_⟩
  have hk : Kept w { w with heap := w.heap.setIfInBounds ad'.block (.map #[] 0) } S := by
    refine ⟨by simp, fun k hk hn => ?_⟩
    have : ad'.block ≠ k := fun he => hn (he ▸ hs)
    simp [this]
  obtain ⟨ad2, A2, c2, e2, hc2, _⟩ := at_T26 (hr _ hk) i h0 h1
  have : ad2 = ad' := by rw [hA] at e2; exact (Option.some.inj e2).symm
  subst this
  simp [World.cell?, hb, hlt] at hc2
theorem elem_kept {S : Nat → Prop} {w : World} {A : Option Addr} {n : Nat} {xs : List S26} (hr : ∀ W_, Kept w W_ S → Kd.C k26 W_ A n xs) (i : Int) (h0 : 0 ≤ i) (h1 : i < n) :
    ∃ ad A' c', A = some ad ∧ (rd_T26 xs i).f1.length ≤ c' ∧ ∀ W_, Kept w W_ S →
      W_.cell? (ad.add (i.toNat * 2)) = some (.int .i64 (rd_T26 xs i).f0) ∧ W_.cell? ⟨(ad.add (i.toNat * 2)).block, (ad.add (i.toNat * 2)).off + 1, none⟩ = some (.slice A' (rd_T26 xs i).f1.length c') ∧
      Kd.C (Kd.int .u64) W_ A' (rd_T26 xs i).f1.length (rd_T26 xs i).f1 := by
  obtain ⟨ad, A', c', e, hc, hd, hl, hC⟩ := at_T26 (hr w (Kept.refl _ _)) i h0 h1
  obtain ⟨hlt, hn⟩ := kept_not hr i h0 h1 e
  refine ⟨ad, A', c', e, hl, fun W_ hk => ?_⟩
  have hb : (ad.add (i.toNat * 2)).block = ad.block := by unfold Addr.add; split <;> rfl
  have hd2 := Go.Proofs.YtjmkhdhffmlhiaaW.PrintWords.cell_kept hd hk (by rw [hb]; exact hn)
  obtain ⟨ad2, A2, c2, e2, hc2, hd3, _, hC2⟩ := at_T26 (hr W_ hk) i h0 h1
  have : ad2 = ad := by rw [e] at e2; exact (Option.some.inj e2).symm
  subst this
  rw [hd2] at hd3
  have hA : A' = A2 := by injection hd3 with h; injection h
  subst hA
  exact ⟨hc2, hd2, hC2⟩
theorem calls_or (x y : Int) (W : World) : Calls Try.prog 69 #[.int .u64 x, .int .u64 y] W fun e W' => e = .returned (.int .u64 (Go.bits .or .u64 x y)) ∧ W' = W := by
  go_enter Try.func69, Try.ntmps69
  go_wp2
  go_ret
  exact ⟨rfl, rfl⟩
def bitset_fold_or.f (a0_0 : Int) (l0_1 : List Int) (l1 : List S26) (_a2 : Unit) : Option (Int × List Int) := (folds (Go.bits .or .u64) l0_1 l1).map fun r => (a0_0, r)
set_option maxHeartbeats 4000000 in
set_option maxRecDepth 100000 in
theorem bitset_fold_or.puts (a0_0 : Int) (P0_1_ : Nat → Prop) (u9000_ : Value) (l0_1 : List Int) (A1 : Option Addr) (c1 : Nat) (l1 : List (S26)) (a2 : Unit) (r1 : Int) (r2 : List Int) (w0 w : World) (hB : Below w0.heap.size w0 w) (ho0_1 : Kd.R (Kd.int .u64) 82 w w0.heap.size P0_1_ u9000_ l0_1) (hr1 : ∀ W_, Kept w W_ (fun k_ => P0_1_ k_) → Kd.C k26 W_ A1 l1.length l1) (hc1 : l1.length ≤ c1) (h : bitset_fold_or.f a0_0 l0_1 l1 a2 = some (r1, r2)) :
    Calls Try.prog 68 #[.agg #[.int .i64 a0_0, u9000_], .slice A1 l1.length c1, .func (.func 69) #[] #[]] w fun e w' => e = .returned (.agg #[.int .i64 r1, u9000_]) ∧ Kd.R (Kd.int .u64) 82 w' w0.heap.size (fun k_ => (P0_1_ k_ ∨ w.heap.size ≤ k_)) u9000_ r2 ∧ Below w0.heap.size w0 w' ∧ Kept w w' (fun k_ => P0_1_ k_) := by
  obtain ⟨H, rfl⟩ : folds (Go.bits .or .u64) l0_1 l1 = some r2 ∧ r1 = a0_0 := by
    unfold bitset_fold_or.f at h
    obtain ⟨q, hq, e⟩ := Option.map_eq_some_iff.1 h
    simp only [Prod.mk.injEq] at e
    exact ⟨e.2 ▸ hq, e.1.symm⟩
  clear h
  have HH := Aside0.mk H
  have HR1 := Aside0.mk hr1
  have HC := Aside0.mk hc1
  have hm1 := (hr1 w (Kept.refl _ _)).2.1
  clear H hr1 hc1
  have HB := Aside0.mk hB
  have HO := Aside0.mk ho0_1
  have hu26 := Try.underlying26
  clear hB ho0_1
  obtain ⟨Au, cu, hu⟩ := Kd.R_slice HO.out
  subst hu
  go_enter Try.func68, Try.ntmps68
  go_wp2_with fail
  go_loopg [13] (l1.length) (fun gk v13 wr => ∃ (k : Nat) (ws : List Int), v13 = .int .i64 k ∧ Aside0 (k ≤ l1.length) ∧ Aside0 (gk + k = l1.length) ∧ Aside0 (folds (Go.bits .or .u64) ws (l1.drop k) = some r2) ∧ Aside0 (Kd.R (Kd.int .u64) 82 wr w0.heap.size (fun k_ => (P0_1_ k_ ∨ w.heap.size ≤ k_)) (.slice Au l0_1.length cu) ws) ∧ Aside0 (Below w0.heap.size w0 wr) ∧ Aside0 (Kept w wr (fun k_ => P0_1_ k_)) ∧ Aside0 (ws.length = l0_1.length) ∧ Aside0 (wr.heap[w.heap.size]? = some (.cells #[.int .i64 r1, .slice Au l0_1.length cu] 26 (0, 0))) ∧ Aside0 (wr.heap[w.heap.size + 1]? = some (.cells #[.int .i64 0, .slice none 0 0] 26 (0, 0))))
  case atStart =>
    refine ⟨0, l0_1, rfl, ⟨by omega⟩, ⟨by simp⟩, ⟨by simpa using HH.out⟩, ⟨?_⟩, ⟨?_⟩, ⟨?_⟩, ⟨rfl⟩, ⟨?_⟩, ⟨?_⟩⟩
    · exact Kd.R_mono (Kd.R_alloc (Kd.R_alloc HO.out _) _) (fun _ h => .inl h)
    · exact (HB.out.alloc HB.out.size _).alloc (by simp; exact Nat.le_succ_of_le HB.out.size) _
    · exact (((Kept.refl w _).alloc _).alloc _)
    · exact blk_alloc (blk_new w _) _
    · exact (by have := blk_new (w.alloc (.cells #[.int .i64 r1, .slice Au l0_1.length cu] 26)) (.cells #[.int .i64 0, .slice none 0 0] 26); simpa using this)
  case round =>
    obtain ⟨k, ws, rfl, hk, hg, hF, hO, hB, hK, hL, b3, b6⟩ := hrel
    by_cases hlt : k < l1.length
    · obtain ⟨gk', rfl⟩ : ∃ m, gk = m + 1 := ⟨gk - 1, by have := hg.out; omega⟩
      obtain ⟨ad, A', c', eA, hlc, hel⟩ := elem_kept HR1.out (k : Int) (by omega) (by omega)
      subst eA
      obtain ⟨s, hs⟩ : ∃ s, rd_T26 l1 (k : Int) = s := ⟨_, rfl⟩
      rw [hs] at hel hlc
      simp only [Int.toNat_natCast] at hel
      obtain ⟨q0, q1, hC⟩ := hel wr hK.out
      have HEL := Aside0.mk hel
      have hm2 := hC.2.1
      have hd : decide (k < l1.length) = true := decide_eq_true hlt
      clear hel hC
      obtain ⟨s0, xs⟩ := s
      simp only at q0 q1 hlc hm2
      have HF : ∃ c, foldw (Go.bits .or .u64) ws xs = some c ∧ folds (Go.bits .or .u64) c (l1.drop (k + 1)) = some r2 := by
        have := hF.out
        rw [List.drop_eq_getElem_cons hlt] at this
        have hk2 : l1[k] = ⟨s0, xs⟩ := by rw [← hs]; simp [rd_T26, List.getD_eq_getElem?_getD, List.getElem?_eq_getElem hlt]
        rw [hk2] at this
        simpa [folds, Option.bind_eq_some_iff] using this
      obtain ⟨c, hfw, hF2⟩ := HF
      have HFW := Aside0.mk hfw
      have HF2 := Aside0.mk hF2
      clear hfw hF2 hs
      have HX := Aside0.mk (stepw_of_foldw HFW.out)
      go_wp2_with fail
      obtain ⟨wo, rfl⟩ : ∃ wo : World, wo = wr := ⟨_, rfl⟩
      go_loopg [20] (xs.length) (fun gj v20 w2 => ∃ (i : Nat) (vs : List Int), v20 = .int .i64 i ∧ Aside0 (gj + i = xs.length) ∧ Aside0 (stepw (Go.bits .or .u64) i vs (xs.drop i) = some c) ∧ Aside0 (Kd.R (Kd.int .u64) 82 w2 w0.heap.size (fun k_ => (P0_1_ k_ ∨ w.heap.size ≤ k_)) (.slice Au l0_1.length cu) vs) ∧ Aside0 (Below w0.heap.size w0 w2) ∧ Aside0 (Kept w w2 (fun k_ => P0_1_ k_)) ∧ Aside0 (vs.length = l0_1.length) ∧ Aside0 (w2.heap[w.heap.size]? = some (.cells #[.int .i64 r1, .slice Au l0_1.length cu] 26 (0, 0))) ∧ Aside0 (w2.heap[w.heap.size + 1]? = some (.cells #[.int .i64 0, .slice none 0 0] 26 (0, 0))))
      case atStart => exact ⟨0, ws, rfl, ⟨by simp⟩, ⟨by simpa using HX.out⟩, ⟨Kd.R_alloc hO.out _⟩, ⟨hB.out.alloc hB.out.size _⟩, ⟨hK.out.alloc _⟩, hL, ⟨blk_alloc b3.out _⟩, ⟨blk_alloc b6.out _⟩⟩
      case round =>
        obtain ⟨i, vs, rfl, hg2, hX2, hO2, hB2, hK2, hL2, b32, b62⟩ := hrel
        by_cases hi : i < xs.length
        · obtain ⟨gj_, rfl⟩ : ∃ m, gk = m + 1 := ⟨gk - 1, by have := hg2.out; omega⟩
          have hX3 := hX2.out
          rw [List.drop_eq_getElem_cons hi, stepw] at hX3
          by_cases hv : i < vs.length
          · rw [if_pos hv] at hX3
            have HX3 := Aside0.mk hX3
            clear hX3
            obtain ⟨g, cap, eg, hgb, hgl, cells, hcells⟩ := Kd.R_form hO2.out (by omega)
            injection eg with eg1 eg2 eg3
            subst eg1
            have hL3 := hL2.out
            obtain ⟨_, _, hC⟩ := HEL.out wr hK2.out
            obtain ⟨ad2, eA2, hx⟩ := Kd.at_int hC (i : Int) (by omega) (by omega)
            subst eA2
            rw [Int.toNat_natCast] at hx
            have hO3 := hO2.out
            rw [← hL3] at hO3
            obtain ⟨hc, hf⟩ := Kd.R_cell (0 : Int) hO3 (i : Int) (by omega) (by omega)
            rw [Int.toNat_natCast] at hc hf
            have q0' := cell_of_row wr w.heap.size 1 _ _ _ b32.out
            simp only [List.getElem?_toArray, List.getElem?_cons_zero, List.getElem?_cons_succ] at q0'
            have hd2 : decide (i < xs.length) = true := decide_eq_true hi
            obtain ⟨xi, hxi⟩ : ∃ xi, rd xs (i : Int) = xi := ⟨_, rfl⟩
            obtain ⟨vi, hvi⟩ : ∃ vi, rdOf (0 : Int) vs (i : Int) = vi := ⟨_, rfl⟩
            rw [hxi] at hx
            rw [hvi] at hc
            have HXI := Aside0.mk hxi
            have HVI := Aside0.mk hvi
            have hv2 : i < l0_1.length := by omega
            have HCELL := Aside0.mk hcells
            clear hxi hvi hO3 hC eg2 eg3 q0 q1 hcells hL3
            go_wp2_with fail
            go_still_tail 12, (by kernel_rfl)
            still_call (calls_or vi xi _)
            repeat still_step
            refine wpStill_nil ?_
            go_wp2
            have hne3 : (⟨g, i, none⟩ : Addr).block ≠ w.heap.size := fun e => by
              have h1 := b32.out
              have h2 : g = w.heap.size := e
              rw [← h2, HCELL.out] at h1
              cases h1
            have hne6 : (⟨g, i, none⟩ : Addr).block ≠ w.heap.size + 1 := fun e => by
              have h1 := b62.out
              have h2 : g = w.heap.size + 1 := e
              rw [← h2, HCELL.out] at h1
              cases h1
            have hput := (Kd.R_putn hO2.out (i : Int) (Go.bits .or .u64 vi xi))
            rw [Int.toNat_natCast] at hput
            go_roundg gj_
            case rel =>
              refine ⟨i + 1, vs.set i (Go.bits .or .u64 vi xi), by go_num, ⟨by have := hg2.out; omega⟩, ⟨?_⟩, ⟨Kd.R_drew hput⟩, ⟨?_⟩, ⟨?_⟩, ⟨by simpa using hL2.out⟩, ⟨blk_drew (blk_far b32.out hne3.symm _)⟩, ⟨blk_drew (blk_far b62.out hne6.symm _)⟩⟩
              · have h1 := HX3.out
                have h2 := HXI.out
                have h3 := HVI.out
                have h4 : rd vs (i : Int) = vi := h3
                have h5 : xs[i] = xi := by rw [← h2]; simp [rd, List.getD_eq_getElem?_getD, List.getElem?_eq_getElem hi]
                rw [h4, h5] at h1
                exact h1
              · exact below_drew (hB2.out.setCell hgb _)
              · exact (hK2.out.setCell ((hO2.out.1 g rfl).imp id id) _).drew
            case measure => omega
          · rw [if_neg hv] at hX3
            cases hX3
        · have e := Lib.hid (show i = xs.length by have := hg2.out; omega)
          have hd2 : decide (i < xs.length) = false := decide_eq_false hi
          have hc2 : vs = c := by have := hX2.out; rw [e.out] at this; simpa [stepw] using this
          subst hc2
          clear q0 q1
          go_wp2
          go_roundg gk'
          case rel => exact ⟨k + 1, vs, by go_num, ⟨by omega⟩, ⟨by have := hg.out; omega⟩, HF2, hO2, hB2, hK2, hL2, b32, b62⟩
          case measure => omega
    · have e := Lib.hid (show k = l1.length by have := hk.out; omega)
      have hd : decide (k < l1.length) = false := decide_eq_false hlt
      have q0 := cell_of_row wr w.heap.size 0 _ _ _ b3.out
      have q1 := cell_of_row wr w.heap.size 1 _ _ _ b3.out
      have f0 := free_of_row b6.out 0
      have f1 := free_of_row b6.out 1
      have g0 := cell_of_row wr (w.heap.size + 1) 0 _ _ _ b6.out
      have g1 := cell_of_row wr (w.heap.size + 1) 1 _ _ _ b6.out
      simp only [List.getElem?_toArray, List.getElem?_cons_zero, List.getElem?_cons_succ] at q0 q1 g0 g1
      clear hlt
      go_wp2
      refine bodyPost_ret (results_cell_row rfl _ _ (w.heap.size + 1) 26 #[.int .i64 r1, .slice Au l0_1.length cu] (0, 0) _ rfl ?_ Try.underlying26 rfl (by kernel_rfl)) rfl ?_
      · refine blk_put (cs := #[.int .i64 r1, .slice none 0 0]) ?_ 1 _ rfl
        refine blk_put (cs := #[.int .i64 0, .slice none 0 0]) ?_ 0 _ rfl
        exact b6.out
      · have hw : ws = r2 := by have := hF.out; rw [e.out] at this; simpa [folds] using this
        subst hw
        refine ⟨rfl, ?_, ?_, ?_⟩
        · exact Kd.R_mono (Kd.R_far (p := ⟨w.heap.size + 1, 1, none⟩) (Kd.R_far (p := ⟨w.heap.size + 1, 0, none⟩) (Kd.R_types hO.out b6.out (by decide)) (fun _ hk => hk.2) _) (fun _ hk => hk.2) _) (fun _ hk => hk.1)
        · exact (hB.out.setCell (by simp; exact Nat.le_succ_of_le HB.out.size) _).setCell (by simp; exact Nat.le_succ_of_le HB.out.size) _
        · exact (hK.out.setCell (.inr (by simp)) _).setCell (.inr (by simp)) _
theorem bitset_fold_or.calls (a0_0 : Int) (P0_1_ : Nat → Prop) (u9000_ : Value) (l0_1 : List Int) (A1 : Option Addr) (c1 : Nat) (l1 : List (S26)) (a2 : Unit) (r1 : Int) (r2 : List Int) (w0 w : World) (hB : Below w0.heap.size w0 w) (ho0_1 : Kd.R (Kd.int .u64) 82 w w0.heap.size P0_1_ u9000_ l0_1) (hr1 : ∀ W_, Kept w W_ (fun k_ => P0_1_ k_) → Kd.C k26 W_ A1 l1.length l1) (hc1 : l1.length ≤ c1) (h : bitset_fold_or.f a0_0 l0_1 l1 a2 = some (r1, r2)) :
    Calls Try.prog 68 #[.agg #[.int .i64 a0_0, u9000_], .slice A1 l1.length c1, .func (.func 69) #[] #[]] w fun e w' => ∃ v1_ : Value, e = .returned (.agg #[.int .i64 r1, v1_]) ∧ Kd.R (Kd.int .u64) 82 w' w0.heap.size (fun k_ => (P0_1_ k_ ∨ w.heap.size ≤ k_)) v1_ r2 ∧ Below w0.heap.size w0 w' ∧ Kept w w' (fun k_ => P0_1_ k_) := (bitset_fold_or.puts a0_0 P0_1_ u9000_ l0_1 A1 c1 l1 a2 r1 r2 w0 w hB ho0_1 hr1 hc1 h).mono fun e w' hh => ⟨_, hh⟩
theorem calls_and (x y : Int) (W : World) : Calls Try.prog 71 #[.int .u64 x, .int .u64 y] W fun e W' => e = .returned (.int .u64 (Go.bits .and .u64 x y)) ∧ W' = W := by
  go_enter Try.func71, Try.ntmps71
  go_wp2
  go_ret
  exact ⟨rfl, rfl⟩
def bitset_fold_and.f (a0_0 : Int) (l0_1 : List Int) (l1 : List S26) (_a2 : Unit) : Option (Int × List Int) := (folds (Go.bits .and .u64) l0_1 l1).map fun r => (a0_0, r)
set_option maxHeartbeats 4000000 in
set_option maxRecDepth 100000 in
theorem bitset_fold_and.puts (a0_0 : Int) (P0_1_ : Nat → Prop) (u9000_ : Value) (l0_1 : List Int) (A1 : Option Addr) (c1 : Nat) (l1 : List (S26)) (a2 : Unit) (r1 : Int) (r2 : List Int) (w0 w : World) (hB : Below w0.heap.size w0 w) (ho0_1 : Kd.R (Kd.int .u64) 82 w w0.heap.size P0_1_ u9000_ l0_1) (hr1 : ∀ W_, Kept w W_ (fun k_ => P0_1_ k_) → Kd.C k26 W_ A1 l1.length l1) (hc1 : l1.length ≤ c1) (h : bitset_fold_and.f a0_0 l0_1 l1 a2 = some (r1, r2)) :
    Calls Try.prog 68 #[.agg #[.int .i64 a0_0, u9000_], .slice A1 l1.length c1, .func (.func 71) #[] #[]] w fun e w' => e = .returned (.agg #[.int .i64 r1, u9000_]) ∧ Kd.R (Kd.int .u64) 82 w' w0.heap.size (fun k_ => (P0_1_ k_ ∨ w.heap.size ≤ k_)) u9000_ r2 ∧ Below w0.heap.size w0 w' ∧ Kept w w' (fun k_ => P0_1_ k_) := by
  obtain ⟨H, rfl⟩ : folds (Go.bits .and .u64) l0_1 l1 = some r2 ∧ r1 = a0_0 := by
    unfold bitset_fold_and.f at h
    obtain ⟨q, hq, e⟩ := Option.map_eq_some_iff.1 h
    simp only [Prod.mk.injEq] at e
    exact ⟨e.2 ▸ hq, e.1.symm⟩
  clear h
  have HH := Aside0.mk H
  have HR1 := Aside0.mk hr1
  have HC := Aside0.mk hc1
  have hm1 := (hr1 w (Kept.refl _ _)).2.1
  clear H hr1 hc1
  have HB := Aside0.mk hB
  have HO := Aside0.mk ho0_1
  have hu26 := Try.underlying26
  clear hB ho0_1
  obtain ⟨Au, cu, hu⟩ := Kd.R_slice HO.out
  subst hu
  go_enter Try.func68, Try.ntmps68
  go_wp2_with fail
  go_loopg [13] (l1.length) (fun gk v13 wr => ∃ (k : Nat) (ws : List Int), v13 = .int .i64 k ∧ Aside0 (k ≤ l1.length) ∧ Aside0 (gk + k = l1.length) ∧ Aside0 (folds (Go.bits .and .u64) ws (l1.drop k) = some r2) ∧ Aside0 (Kd.R (Kd.int .u64) 82 wr w0.heap.size (fun k_ => (P0_1_ k_ ∨ w.heap.size ≤ k_)) (.slice Au l0_1.length cu) ws) ∧ Aside0 (Below w0.heap.size w0 wr) ∧ Aside0 (Kept w wr (fun k_ => P0_1_ k_)) ∧ Aside0 (ws.length = l0_1.length) ∧ Aside0 (wr.heap[w.heap.size]? = some (.cells #[.int .i64 r1, .slice Au l0_1.length cu] 26 (0, 0))) ∧ Aside0 (wr.heap[w.heap.size + 1]? = some (.cells #[.int .i64 0, .slice none 0 0] 26 (0, 0))))
  case atStart =>
    refine ⟨0, l0_1, rfl, ⟨by omega⟩, ⟨by simp⟩, ⟨by simpa using HH.out⟩, ⟨?_⟩, ⟨?_⟩, ⟨?_⟩, ⟨rfl⟩, ⟨?_⟩, ⟨?_⟩⟩
    · exact Kd.R_mono (Kd.R_alloc (Kd.R_alloc HO.out _) _) (fun _ h => .inl h)
    · exact (HB.out.alloc HB.out.size _).alloc (by simp; exact Nat.le_succ_of_le HB.out.size) _
    · exact (((Kept.refl w _).alloc _).alloc _)
    · exact blk_alloc (blk_new w _) _
    · exact (by have := blk_new (w.alloc (.cells #[.int .i64 r1, .slice Au l0_1.length cu] 26)) (.cells #[.int .i64 0, .slice none 0 0] 26); simpa using this)
  case round =>
    obtain ⟨k, ws, rfl, hk, hg, hF, hO, hB, hK, hL, b3, b6⟩ := hrel
    by_cases hlt : k < l1.length
    · obtain ⟨gk', rfl⟩ : ∃ m, gk = m + 1 := ⟨gk - 1, by have := hg.out; omega⟩
      obtain ⟨ad, A', c', eA, hlc, hel⟩ := elem_kept HR1.out (k : Int) (by omega) (by omega)
      subst eA
      obtain ⟨s, hs⟩ : ∃ s, rd_T26 l1 (k : Int) = s := ⟨_, rfl⟩
      rw [hs] at hel hlc
      simp only [Int.toNat_natCast] at hel
      obtain ⟨q0, q1, hC⟩ := hel wr hK.out
      have HEL := Aside0.mk hel
      have hm2 := hC.2.1
      have hd : decide (k < l1.length) = true := decide_eq_true hlt
      clear hel hC
      obtain ⟨s0, xs⟩ := s
      simp only at q0 q1 hlc hm2
      have HF : ∃ c, foldw (Go.bits .and .u64) ws xs = some c ∧ folds (Go.bits .and .u64) c (l1.drop (k + 1)) = some r2 := by
        have := hF.out
        rw [List.drop_eq_getElem_cons hlt] at this
        have hk2 : l1[k] = ⟨s0, xs⟩ := by rw [← hs]; simp [rd_T26, List.getD_eq_getElem?_getD, List.getElem?_eq_getElem hlt]
        rw [hk2] at this
        simpa [folds, Option.bind_eq_some_iff] using this
      obtain ⟨c, hfw, hF2⟩ := HF
      have HFW := Aside0.mk hfw
      have HF2 := Aside0.mk hF2
      clear hfw hF2 hs
      have HX := Aside0.mk (stepw_of_foldw HFW.out)
      go_wp2_with fail
      obtain ⟨wo, rfl⟩ : ∃ wo : World, wo = wr := ⟨_, rfl⟩
      go_loopg [20] (xs.length) (fun gj v20 w2 => ∃ (i : Nat) (vs : List Int), v20 = .int .i64 i ∧ Aside0 (gj + i = xs.length) ∧ Aside0 (stepw (Go.bits .and .u64) i vs (xs.drop i) = some c) ∧ Aside0 (Kd.R (Kd.int .u64) 82 w2 w0.heap.size (fun k_ => (P0_1_ k_ ∨ w.heap.size ≤ k_)) (.slice Au l0_1.length cu) vs) ∧ Aside0 (Below w0.heap.size w0 w2) ∧ Aside0 (Kept w w2 (fun k_ => P0_1_ k_)) ∧ Aside0 (vs.length = l0_1.length) ∧ Aside0 (w2.heap[w.heap.size]? = some (.cells #[.int .i64 r1, .slice Au l0_1.length cu] 26 (0, 0))) ∧ Aside0 (w2.heap[w.heap.size + 1]? = some (.cells #[.int .i64 0, .slice none 0 0] 26 (0, 0))))
      case atStart => exact ⟨0, ws, rfl, ⟨by simp⟩, ⟨by simpa using HX.out⟩, ⟨Kd.R_alloc hO.out _⟩, ⟨hB.out.alloc hB.out.size _⟩, ⟨hK.out.alloc _⟩, hL, ⟨blk_alloc b3.out _⟩, ⟨blk_alloc b6.out _⟩⟩
      case round =>
        obtain ⟨i, vs, rfl, hg2, hX2, hO2, hB2, hK2, hL2, b32, b62⟩ := hrel
        by_cases hi : i < xs.length
        · obtain ⟨gj_, rfl⟩ : ∃ m, gk = m + 1 := ⟨gk - 1, by have := hg2.out; omega⟩
          have hX3 := hX2.out
          rw [List.drop_eq_getElem_cons hi, stepw] at hX3
          by_cases hv : i < vs.length
          · rw [if_pos hv] at hX3
            have HX3 := Aside0.mk hX3
            clear hX3
            obtain ⟨g, cap, eg, hgb, hgl, cells, hcells⟩ := Kd.R_form hO2.out (by omega)
            injection eg with eg1 eg2 eg3
            subst eg1
            have hL3 := hL2.out
            obtain ⟨_, _, hC⟩ := HEL.out wr hK2.out
            obtain ⟨ad2, eA2, hx⟩ := Kd.at_int hC (i : Int) (by omega) (by omega)
            subst eA2
            rw [Int.toNat_natCast] at hx
            have hO3 := hO2.out
            rw [← hL3] at hO3
            obtain ⟨hc, hf⟩ := Kd.R_cell (0 : Int) hO3 (i : Int) (by omega) (by omega)
            rw [Int.toNat_natCast] at hc hf
            have q0' := cell_of_row wr w.heap.size 1 _ _ _ b32.out
            simp only [List.getElem?_toArray, List.getElem?_cons_zero, List.getElem?_cons_succ] at q0'
            have hd2 : decide (i < xs.length) = true := decide_eq_true hi
            obtain ⟨xi, hxi⟩ : ∃ xi, rd xs (i : Int) = xi := ⟨_, rfl⟩
            obtain ⟨vi, hvi⟩ : ∃ vi, rdOf (0 : Int) vs (i : Int) = vi := ⟨_, rfl⟩
            rw [hxi] at hx
            rw [hvi] at hc
            have HXI := Aside0.mk hxi
            have HVI := Aside0.mk hvi
            have hv2 : i < l0_1.length := by omega
            have HCELL := Aside0.mk hcells
            clear hxi hvi hO3 hC eg2 eg3 q0 q1 hcells hL3
            go_wp2_with fail
            go_still_tail 12, (by kernel_rfl)
            still_call (calls_and vi xi _)
            repeat still_step
            refine wpStill_nil ?_
            go_wp2
            have hne3 : (⟨g, i, none⟩ : Addr).block ≠ w.heap.size := fun e => by
              have h1 := b32.out
              have h2 : g = w.heap.size := e
              rw [← h2, HCELL.out] at h1
              cases h1
            have hne6 : (⟨g, i, none⟩ : Addr).block ≠ w.heap.size + 1 := fun e => by
              have h1 := b62.out
              have h2 : g = w.heap.size + 1 := e
              rw [← h2, HCELL.out] at h1
              cases h1
            have hput := (Kd.R_putn hO2.out (i : Int) (Go.bits .and .u64 vi xi))
            rw [Int.toNat_natCast] at hput
            go_roundg gj_
            case rel =>
              refine ⟨i + 1, vs.set i (Go.bits .and .u64 vi xi), by go_num, ⟨by have := hg2.out; omega⟩, ⟨?_⟩, ⟨Kd.R_drew hput⟩, ⟨?_⟩, ⟨?_⟩, ⟨by simpa using hL2.out⟩, ⟨blk_drew (blk_far b32.out hne3.symm _)⟩, ⟨blk_drew (blk_far b62.out hne6.symm _)⟩⟩
              · have h1 := HX3.out
                have h2 := HXI.out
                have h3 := HVI.out
                have h4 : rd vs (i : Int) = vi := h3
                have h5 : xs[i] = xi := by rw [← h2]; simp [rd, List.getD_eq_getElem?_getD, List.getElem?_eq_getElem hi]
                rw [h4, h5] at h1
                exact h1
              · exact below_drew (hB2.out.setCell hgb _)
              · exact (hK2.out.setCell ((hO2.out.1 g rfl).imp id id) _).drew
            case measure => omega
          · rw [if_neg hv] at hX3
            cases hX3
        · have e := Lib.hid (show i = xs.length by have := hg2.out; omega)
          have hd2 : decide (i < xs.length) = false := decide_eq_false hi
          have hc2 : vs = c := by have := hX2.out; rw [e.out] at this; simpa [stepw] using this
          subst hc2
          clear q0 q1
          go_wp2
          go_roundg gk'
          case rel => exact ⟨k + 1, vs, by go_num, ⟨by omega⟩, ⟨by have := hg.out; omega⟩, HF2, hO2, hB2, hK2, hL2, b32, b62⟩
          case measure => omega
    · have e := Lib.hid (show k = l1.length by have := hk.out; omega)
      have hd : decide (k < l1.length) = false := decide_eq_false hlt
      have q0 := cell_of_row wr w.heap.size 0 _ _ _ b3.out
      have q1 := cell_of_row wr w.heap.size 1 _ _ _ b3.out
      have f0 := free_of_row b6.out 0
      have f1 := free_of_row b6.out 1
      have g0 := cell_of_row wr (w.heap.size + 1) 0 _ _ _ b6.out
      have g1 := cell_of_row wr (w.heap.size + 1) 1 _ _ _ b6.out
      simp only [List.getElem?_toArray, List.getElem?_cons_zero, List.getElem?_cons_succ] at q0 q1 g0 g1
      clear hlt
      go_wp2
      refine bodyPost_ret (results_cell_row rfl _ _ (w.heap.size + 1) 26 #[.int .i64 r1, .slice Au l0_1.length cu] (0, 0) _ rfl ?_ Try.underlying26 rfl (by kernel_rfl)) rfl ?_
      · refine blk_put (cs := #[.int .i64 r1, .slice none 0 0]) ?_ 1 _ rfl
        refine blk_put (cs := #[.int .i64 0, .slice none 0 0]) ?_ 0 _ rfl
        exact b6.out
      · have hw : ws = r2 := by have := hF.out; rw [e.out] at this; simpa [folds] using this
        subst hw
        refine ⟨rfl, ?_, ?_, ?_⟩
        · exact Kd.R_mono (Kd.R_far (p := ⟨w.heap.size + 1, 1, none⟩) (Kd.R_far (p := ⟨w.heap.size + 1, 0, none⟩) (Kd.R_types hO.out b6.out (by decide)) (fun _ hk => hk.2) _) (fun _ hk => hk.2) _) (fun _ hk => hk.1)
        · exact (hB.out.setCell (by simp; exact Nat.le_succ_of_le HB.out.size) _).setCell (by simp; exact Nat.le_succ_of_le HB.out.size) _
        · exact (hK.out.setCell (.inr (by simp)) _).setCell (.inr (by simp)) _
theorem bitset_fold_and.calls (a0_0 : Int) (P0_1_ : Nat → Prop) (u9000_ : Value) (l0_1 : List Int) (A1 : Option Addr) (c1 : Nat) (l1 : List (S26)) (a2 : Unit) (r1 : Int) (r2 : List Int) (w0 w : World) (hB : Below w0.heap.size w0 w) (ho0_1 : Kd.R (Kd.int .u64) 82 w w0.heap.size P0_1_ u9000_ l0_1) (hr1 : ∀ W_, Kept w W_ (fun k_ => P0_1_ k_) → Kd.C k26 W_ A1 l1.length l1) (hc1 : l1.length ≤ c1) (h : bitset_fold_and.f a0_0 l0_1 l1 a2 = some (r1, r2)) :
    Calls Try.prog 68 #[.agg #[.int .i64 a0_0, u9000_], .slice A1 l1.length c1, .func (.func 71) #[] #[]] w fun e w' => ∃ v1_ : Value, e = .returned (.agg #[.int .i64 r1, v1_]) ∧ Kd.R (Kd.int .u64) 82 w' w0.heap.size (fun k_ => (P0_1_ k_ ∨ w.heap.size ≤ k_)) v1_ r2 ∧ Below w0.heap.size w0 w' ∧ Kept w w' (fun k_ => P0_1_ k_) := (bitset_fold_and.puts a0_0 P0_1_ u9000_ l0_1 A1 c1 l1 a2 r1 r2 w0 w hB ho0_1 hr1 hc1 h).mono fun e w' hh => ⟨_, hh⟩
theorem calls_andNot (x y : Int) (W : World) : Calls Try.prog 77 #[.int .u64 x, .int .u64 y] W fun e W' => e = .returned (.int .u64 (Go.bits .andNot .u64 x y)) ∧ W' = W := by
  go_enter Try.func77, Try.ntmps77
  go_wp2
  go_ret
  exact ⟨rfl, rfl⟩
def bitset_fold_andNot.f (a0_0 : Int) (l0_1 : List Int) (l1 : List S26) (_a2 : Unit) : Option (Int × List Int) := (folds (Go.bits .andNot .u64) l0_1 l1).map fun r => (a0_0, r)
set_option maxHeartbeats 4000000 in
set_option maxRecDepth 100000 in
theorem bitset_fold_andNot.puts (a0_0 : Int) (P0_1_ : Nat → Prop) (u9000_ : Value) (l0_1 : List Int) (A1 : Option Addr) (c1 : Nat) (l1 : List (S26)) (a2 : Unit) (r1 : Int) (r2 : List Int) (w0 w : World) (hB : Below w0.heap.size w0 w) (ho0_1 : Kd.R (Kd.int .u64) 82 w w0.heap.size P0_1_ u9000_ l0_1) (hr1 : ∀ W_, Kept w W_ (fun k_ => P0_1_ k_) → Kd.C k26 W_ A1 l1.length l1) (hc1 : l1.length ≤ c1) (h : bitset_fold_andNot.f a0_0 l0_1 l1 a2 = some (r1, r2)) :
    Calls Try.prog 68 #[.agg #[.int .i64 a0_0, u9000_], .slice A1 l1.length c1, .func (.func 77) #[] #[]] w fun e w' => e = .returned (.agg #[.int .i64 r1, u9000_]) ∧ Kd.R (Kd.int .u64) 82 w' w0.heap.size (fun k_ => (P0_1_ k_ ∨ w.heap.size ≤ k_)) u9000_ r2 ∧ Below w0.heap.size w0 w' ∧ Kept w w' (fun k_ => P0_1_ k_) := by
  obtain ⟨H, rfl⟩ : folds (Go.bits .andNot .u64) l0_1 l1 = some r2 ∧ r1 = a0_0 := by
    unfold bitset_fold_andNot.f at h
    obtain ⟨q, hq, e⟩ := Option.map_eq_some_iff.1 h
    simp only [Prod.mk.injEq] at e
    exact ⟨e.2 ▸ hq, e.1.symm⟩
  clear h
  have HH := Aside0.mk H
  have HR1 := Aside0.mk hr1
  have HC := Aside0.mk hc1
  have hm1 := (hr1 w (Kept.refl _ _)).2.1
  clear H hr1 hc1
  have HB := Aside0.mk hB
  have HO := Aside0.mk ho0_1
  have hu26 := Try.underlying26
  clear hB ho0_1
  obtain ⟨Au, cu, hu⟩ := Kd.R_slice HO.out
  subst hu
  go_enter Try.func68, Try.ntmps68
  go_wp2_with fail
  go_loopg [13] (l1.length) (fun gk v13 wr => ∃ (k : Nat) (ws : List Int), v13 = .int .i64 k ∧ Aside0 (k ≤ l1.length) ∧ Aside0 (gk + k = l1.length) ∧ Aside0 (folds (Go.bits .andNot .u64) ws (l1.drop k) = some r2) ∧ Aside0 (Kd.R (Kd.int .u64) 82 wr w0.heap.size (fun k_ => (P0_1_ k_ ∨ w.heap.size ≤ k_)) (.slice Au l0_1.length cu) ws) ∧ Aside0 (Below w0.heap.size w0 wr) ∧ Aside0 (Kept w wr (fun k_ => P0_1_ k_)) ∧ Aside0 (ws.length = l0_1.length) ∧ Aside0 (wr.heap[w.heap.size]? = some (.cells #[.int .i64 r1, .slice Au l0_1.length cu] 26 (0, 0))) ∧ Aside0 (wr.heap[w.heap.size + 1]? = some (.cells #[.int .i64 0, .slice none 0 0] 26 (0, 0))))
  case atStart =>
    refine ⟨0, l0_1, rfl, ⟨by omega⟩, ⟨by simp⟩, ⟨by simpa using HH.out⟩, ⟨?_⟩, ⟨?_⟩, ⟨?_⟩, ⟨rfl⟩, ⟨?_⟩, ⟨?_⟩⟩
    · exact Kd.R_mono (Kd.R_alloc (Kd.R_alloc HO.out _) _) (fun _ h => .inl h)
    · exact (HB.out.alloc HB.out.size _).alloc (by simp; exact Nat.le_succ_of_le HB.out.size) _
    · exact (((Kept.refl w _).alloc _).alloc _)
    · exact blk_alloc (blk_new w _) _
    · exact (by have := blk_new (w.alloc (.cells #[.int .i64 r1, .slice Au l0_1.length cu] 26)) (.cells #[.int .i64 0, .slice none 0 0] 26); simpa using this)
  case round =>
    obtain ⟨k, ws, rfl, hk, hg, hF, hO, hB, hK, hL, b3, b6⟩ := hrel
    by_cases hlt : k < l1.length
    · obtain ⟨gk', rfl⟩ : ∃ m, gk = m + 1 := ⟨gk - 1, by have := hg.out; omega⟩
      obtain ⟨ad, A', c', eA, hlc, hel⟩ := elem_kept HR1.out (k : Int) (by omega) (by omega)
      subst eA
      obtain ⟨s, hs⟩ : ∃ s, rd_T26 l1 (k : Int) = s := ⟨_, rfl⟩
      rw [hs] at hel hlc
      simp only [Int.toNat_natCast] at hel
      obtain ⟨q0, q1, hC⟩ := hel wr hK.out
      have HEL := Aside0.mk hel
      have hm2 := hC.2.1
      have hd : decide (k < l1.length) = true := decide_eq_true hlt
      clear hel hC
      obtain ⟨s0, xs⟩ := s
      simp only at q0 q1 hlc hm2
      have HF : ∃ c, foldw (Go.bits .andNot .u64) ws xs = some c ∧ folds (Go.bits .andNot .u64) c (l1.drop (k + 1)) = some r2 := by
        have := hF.out
        rw [List.drop_eq_getElem_cons hlt] at this
        have hk2 : l1[k] = ⟨s0, xs⟩ := by rw [← hs]; simp [rd_T26, List.getD_eq_getElem?_getD, List.getElem?_eq_getElem hlt]
        rw [hk2] at this
        simpa [folds, Option.bind_eq_some_iff] using this
      obtain ⟨c, hfw, hF2⟩ := HF
      have HFW := Aside0.mk hfw
      have HF2 := Aside0.mk hF2
      clear hfw hF2 hs
      have HX := Aside0.mk (stepw_of_foldw HFW.out)
      go_wp2_with fail
      obtain ⟨wo, rfl⟩ : ∃ wo : World, wo = wr := ⟨_, rfl⟩
      go_loopg [20] (xs.length) (fun gj v20 w2 => ∃ (i : Nat) (vs : List Int), v20 = .int .i64 i ∧ Aside0 (gj + i = xs.length) ∧ Aside0 (stepw (Go.bits .andNot .u64) i vs (xs.drop i) = some c) ∧ Aside0 (Kd.R (Kd.int .u64) 82 w2 w0.heap.size (fun k_ => (P0_1_ k_ ∨ w.heap.size ≤ k_)) (.slice Au l0_1.length cu) vs) ∧ Aside0 (Below w0.heap.size w0 w2) ∧ Aside0 (Kept w w2 (fun k_ => P0_1_ k_)) ∧ Aside0 (vs.length = l0_1.length) ∧ Aside0 (w2.heap[w.heap.size]? = some (.cells #[.int .i64 r1, .slice Au l0_1.length cu] 26 (0, 0))) ∧ Aside0 (w2.heap[w.heap.size + 1]? = some (.cells #[.int .i64 0, .slice none 0 0] 26 (0, 0))))
      case atStart => exact ⟨0, ws, rfl, ⟨by simp⟩, ⟨by simpa using HX.out⟩, ⟨Kd.R_alloc hO.out _⟩, ⟨hB.out.alloc hB.out.size _⟩, ⟨hK.out.alloc _⟩, hL, ⟨blk_alloc b3.out _⟩, ⟨blk_alloc b6.out _⟩⟩
      case round =>
        obtain ⟨i, vs, rfl, hg2, hX2, hO2, hB2, hK2, hL2, b32, b62⟩ := hrel
        by_cases hi : i < xs.length
        · obtain ⟨gj_, rfl⟩ : ∃ m, gk = m + 1 := ⟨gk - 1, by have := hg2.out; omega⟩
          have hX3 := hX2.out
          rw [List.drop_eq_getElem_cons hi, stepw] at hX3
          by_cases hv : i < vs.length
          · rw [if_pos hv] at hX3
            have HX3 := Aside0.mk hX3
            clear hX3
            obtain ⟨g, cap, eg, hgb, hgl, cells, hcells⟩ := Kd.R_form hO2.out (by omega)
            injection eg with eg1 eg2 eg3
            subst eg1
            have hL3 := hL2.out
            obtain ⟨_, _, hC⟩ := HEL.out wr hK2.out
            obtain ⟨ad2, eA2, hx⟩ := Kd.at_int hC (i : Int) (by omega) (by omega)
            subst eA2
            rw [Int.toNat_natCast] at hx
            have hO3 := hO2.out
            rw [← hL3] at hO3
            obtain ⟨hc, hf⟩ := Kd.R_cell (0 : Int) hO3 (i : Int) (by omega) (by omega)
            rw [Int.toNat_natCast] at hc hf
            have q0' := cell_of_row wr w.heap.size 1 _ _ _ b32.out
            simp only [List.getElem?_toArray, List.getElem?_cons_zero, List.getElem?_cons_succ] at q0'
            have hd2 : decide (i < xs.length) = true := decide_eq_true hi
            obtain ⟨xi, hxi⟩ : ∃ xi, rd xs (i : Int) = xi := ⟨_, rfl⟩
            obtain ⟨vi, hvi⟩ : ∃ vi, rdOf (0 : Int) vs (i : Int) = vi := ⟨_, rfl⟩
            rw [hxi] at hx
            rw [hvi] at hc
            have HXI := Aside0.mk hxi
            have HVI := Aside0.mk hvi
            have hv2 : i < l0_1.length := by omega
            have HCELL := Aside0.mk hcells
            clear hxi hvi hO3 hC eg2 eg3 q0 q1 hcells hL3
            go_wp2_with fail
            go_still_tail 12, (by kernel_rfl)
            still_call (calls_andNot vi xi _)
            repeat still_step
            refine wpStill_nil ?_
            go_wp2
            have hne3 : (⟨g, i, none⟩ : Addr).block ≠ w.heap.size := fun e => by
              have h1 := b32.out
              have h2 : g = w.heap.size := e
              rw [← h2, HCELL.out] at h1
              cases h1
            have hne6 : (⟨g, i, none⟩ : Addr).block ≠ w.heap.size + 1 := fun e => by
              have h1 := b62.out
              have h2 : g = w.heap.size + 1 := e
              rw [← h2, HCELL.out] at h1
              cases h1
            have hput := (Kd.R_putn hO2.out (i : Int) (Go.bits .andNot .u64 vi xi))
            rw [Int.toNat_natCast] at hput
            go_roundg gj_
            case rel =>
              refine ⟨i + 1, vs.set i (Go.bits .andNot .u64 vi xi), by go_num, ⟨by have := hg2.out; omega⟩, ⟨?_⟩, ⟨Kd.R_drew hput⟩, ⟨?_⟩, ⟨?_⟩, ⟨by simpa using hL2.out⟩, ⟨blk_drew (blk_far b32.out hne3.symm _)⟩, ⟨blk_drew (blk_far b62.out hne6.symm _)⟩⟩
              · have h1 := HX3.out
                have h2 := HXI.out
                have h3 := HVI.out
                have h4 : rd vs (i : Int) = vi := h3
                have h5 : xs[i] = xi := by rw [← h2]; simp [rd, List.getD_eq_getElem?_getD, List.getElem?_eq_getElem hi]
                rw [h4, h5] at h1
                exact h1
              · exact below_drew (hB2.out.setCell hgb _)
              · exact (hK2.out.setCell ((hO2.out.1 g rfl).imp id id) _).drew
            case measure => omega
          · rw [if_neg hv] at hX3
            cases hX3
        · have e := Lib.hid (show i = xs.length by have := hg2.out; omega)
          have hd2 : decide (i < xs.length) = false := decide_eq_false hi
          have hc2 : vs = c := by have := hX2.out; rw [e.out] at this; simpa [stepw] using this
          subst hc2
          clear q0 q1
          go_wp2
          go_roundg gk'
          case rel => exact ⟨k + 1, vs, by go_num, ⟨by omega⟩, ⟨by have := hg.out; omega⟩, HF2, hO2, hB2, hK2, hL2, b32, b62⟩
          case measure => omega
    · have e := Lib.hid (show k = l1.length by have := hk.out; omega)
      have hd : decide (k < l1.length) = false := decide_eq_false hlt
      have q0 := cell_of_row wr w.heap.size 0 _ _ _ b3.out
      have q1 := cell_of_row wr w.heap.size 1 _ _ _ b3.out
      have f0 := free_of_row b6.out 0
      have f1 := free_of_row b6.out 1
      have g0 := cell_of_row wr (w.heap.size + 1) 0 _ _ _ b6.out
      have g1 := cell_of_row wr (w.heap.size + 1) 1 _ _ _ b6.out
      simp only [List.getElem?_toArray, List.getElem?_cons_zero, List.getElem?_cons_succ] at q0 q1 g0 g1
      clear hlt
      go_wp2
      refine bodyPost_ret (results_cell_row rfl _ _ (w.heap.size + 1) 26 #[.int .i64 r1, .slice Au l0_1.length cu] (0, 0) _ rfl ?_ Try.underlying26 rfl (by kernel_rfl)) rfl ?_
      · refine blk_put (cs := #[.int .i64 r1, .slice none 0 0]) ?_ 1 _ rfl
        refine blk_put (cs := #[.int .i64 0, .slice none 0 0]) ?_ 0 _ rfl
        exact b6.out
      · have hw : ws = r2 := by have := hF.out; rw [e.out] at this; simpa [folds] using this
        subst hw
        refine ⟨rfl, ?_, ?_, ?_⟩
        · exact Kd.R_mono (Kd.R_far (p := ⟨w.heap.size + 1, 1, none⟩) (Kd.R_far (p := ⟨w.heap.size + 1, 0, none⟩) (Kd.R_types hO.out b6.out (by decide)) (fun _ hk => hk.2) _) (fun _ hk => hk.2) _) (fun _ hk => hk.1)
        · exact (hB.out.setCell (by simp; exact Nat.le_succ_of_le HB.out.size) _).setCell (by simp; exact Nat.le_succ_of_le HB.out.size) _
        · exact (hK.out.setCell (.inr (by simp)) _).setCell (.inr (by simp)) _
theorem bitset_fold_andNot.calls (a0_0 : Int) (P0_1_ : Nat → Prop) (u9000_ : Value) (l0_1 : List Int) (A1 : Option Addr) (c1 : Nat) (l1 : List (S26)) (a2 : Unit) (r1 : Int) (r2 : List Int) (w0 w : World) (hB : Below w0.heap.size w0 w) (ho0_1 : Kd.R (Kd.int .u64) 82 w w0.heap.size P0_1_ u9000_ l0_1) (hr1 : ∀ W_, Kept w W_ (fun k_ => P0_1_ k_) → Kd.C k26 W_ A1 l1.length l1) (hc1 : l1.length ≤ c1) (h : bitset_fold_andNot.f a0_0 l0_1 l1 a2 = some (r1, r2)) :
    Calls Try.prog 68 #[.agg #[.int .i64 a0_0, u9000_], .slice A1 l1.length c1, .func (.func 77) #[] #[]] w fun e w' => ∃ v1_ : Value, e = .returned (.agg #[.int .i64 r1, v1_]) ∧ Kd.R (Kd.int .u64) 82 w' w0.heap.size (fun k_ => (P0_1_ k_ ∨ w.heap.size ≤ k_)) v1_ r2 ∧ Below w0.heap.size w0 w' ∧ Kept w w' (fun k_ => P0_1_ k_) := (bitset_fold_andNot.puts a0_0 P0_1_ u9000_ l0_1 A1 c1 l1 a2 r1 r2 w0 w hB ho0_1 hr1 hc1 h).mono fun e w' hh => ⟨_, hh⟩
theorem calls_xor (x y : Int) (W : World) : Calls Try.prog 76 #[.int .u64 x, .int .u64 y] W fun e W' => e = .returned (.int .u64 (Go.bits .xor .u64 x y)) ∧ W' = W := by
  go_enter Try.func76, Try.ntmps76
  go_wp2
  go_ret
  exact ⟨rfl, rfl⟩
def bitset_fold_xor.f (a0_0 : Int) (l0_1 : List Int) (l1 : List S26) (_a2 : Unit) : Option (Int × List Int) := (folds (Go.bits .xor .u64) l0_1 l1).map fun r => (a0_0, r)
set_option maxHeartbeats 4000000 in
set_option maxRecDepth 100000 in
theorem bitset_fold_xor.puts (a0_0 : Int) (P0_1_ : Nat → Prop) (u9000_ : Value) (l0_1 : List Int) (A1 : Option Addr) (c1 : Nat) (l1 : List (S26)) (a2 : Unit) (r1 : Int) (r2 : List Int) (w0 w : World) (hB : Below w0.heap.size w0 w) (ho0_1 : Kd.R (Kd.int .u64) 82 w w0.heap.size P0_1_ u9000_ l0_1) (hr1 : ∀ W_, Kept w W_ (fun k_ => P0_1_ k_) → Kd.C k26 W_ A1 l1.length l1) (hc1 : l1.length ≤ c1) (h : bitset_fold_xor.f a0_0 l0_1 l1 a2 = some (r1, r2)) :
    Calls Try.prog 68 #[.agg #[.int .i64 a0_0, u9000_], .slice A1 l1.length c1, .func (.func 76) #[] #[]] w fun e w' => e = .returned (.agg #[.int .i64 r1, u9000_]) ∧ Kd.R (Kd.int .u64) 82 w' w0.heap.size (fun k_ => (P0_1_ k_ ∨ w.heap.size ≤ k_)) u9000_ r2 ∧ Below w0.heap.size w0 w' ∧ Kept w w' (fun k_ => P0_1_ k_) := by
  obtain ⟨H, rfl⟩ : folds (Go.bits .xor .u64) l0_1 l1 = some r2 ∧ r1 = a0_0 := by
    unfold bitset_fold_xor.f at h
    obtain ⟨q, hq, e⟩ := Option.map_eq_some_iff.1 h
    simp only [Prod.mk.injEq] at e
    exact ⟨e.2 ▸ hq, e.1.symm⟩
  clear h
  have HH := Aside0.mk H
  have HR1 := Aside0.mk hr1
  have HC := Aside0.mk hc1
  have hm1 := (hr1 w (Kept.refl _ _)).2.1
  clear H hr1 hc1
  have HB := Aside0.mk hB
  have HO := Aside0.mk ho0_1
  have hu26 := Try.underlying26
  clear hB ho0_1
  obtain ⟨Au, cu, hu⟩ := Kd.R_slice HO.out
  subst hu
  go_enter Try.func68, Try.ntmps68
  go_wp2_with fail
  go_loopg [13] (l1.length) (fun gk v13 wr => ∃ (k : Nat) (ws : List Int), v13 = .int .i64 k ∧ Aside0 (k ≤ l1.length) ∧ Aside0 (gk + k = l1.length) ∧ Aside0 (folds (Go.bits .xor .u64) ws (l1.drop k) = some r2) ∧ Aside0 (Kd.R (Kd.int .u64) 82 wr w0.heap.size (fun k_ => (P0_1_ k_ ∨ w.heap.size ≤ k_)) (.slice Au l0_1.length cu) ws) ∧ Aside0 (Below w0.heap.size w0 wr) ∧ Aside0 (Kept w wr (fun k_ => P0_1_ k_)) ∧ Aside0 (ws.length = l0_1.length) ∧ Aside0 (wr.heap[w.heap.size]? = some (.cells #[.int .i64 r1, .slice Au l0_1.length cu] 26 (0, 0))) ∧ Aside0 (wr.heap[w.heap.size + 1]? = some (.cells #[.int .i64 0, .slice none 0 0] 26 (0, 0))))
  case atStart =>
    refine ⟨0, l0_1, rfl, ⟨by omega⟩, ⟨by simp⟩, ⟨by simpa using HH.out⟩, ⟨?_⟩, ⟨?_⟩, ⟨?_⟩, ⟨rfl⟩, ⟨?_⟩, ⟨?_⟩⟩
    · exact Kd.R_mono (Kd.R_alloc (Kd.R_alloc HO.out _) _) (fun _ h => .inl h)
    · exact (HB.out.alloc HB.out.size _).alloc (by simp; exact Nat.le_succ_of_le HB.out.size) _
    · exact (((Kept.refl w _).alloc _).alloc _)
    · exact blk_alloc (blk_new w _) _
    · exact (by have := blk_new (w.alloc (.cells #[.int .i64 r1, .slice Au l0_1.length cu] 26)) (.cells #[.int .i64 0, .slice none 0 0] 26); simpa using this)
  case round =>
    obtain ⟨k, ws, rfl, hk, hg, hF, hO, hB, hK, hL, b3, b6⟩ := hrel
    by_cases hlt : k < l1.length
    · obtain ⟨gk', rfl⟩ : ∃ m, gk = m + 1 := ⟨gk - 1, by have := hg.out; omega⟩
      obtain ⟨ad, A', c', eA, hlc, hel⟩ := elem_kept HR1.out (k : Int) (by omega) (by omega)
      subst eA
      obtain ⟨s, hs⟩ : ∃ s, rd_T26 l1 (k : Int) = s := ⟨_, rfl⟩
      rw [hs] at hel hlc
      simp only [Int.toNat_natCast] at hel
      obtain ⟨q0, q1, hC⟩ := hel wr hK.out
      have HEL := Aside0.mk hel
      have hm2 := hC.2.1
      have hd : decide (k < l1.length) = true := decide_eq_true hlt
      clear hel hC
      obtain ⟨s0, xs⟩ := s
      simp only at q0 q1 hlc hm2
      have HF : ∃ c, foldw (Go.bits .xor .u64) ws xs = some c ∧ folds (Go.bits .xor .u64) c (l1.drop (k + 1)) = some r2 := by
        have := hF.out
        rw [List.drop_eq_getElem_cons hlt] at this
        have hk2 : l1[k] = ⟨s0, xs⟩ := by rw [← hs]; simp [rd_T26, List.getD_eq_getElem?_getD, List.getElem?_eq_getElem hlt]
        rw [hk2] at this
        simpa [folds, Option.bind_eq_some_iff] using this
      obtain ⟨c, hfw, hF2⟩ := HF
      have HFW := Aside0.mk hfw
      have HF2 := Aside0.mk hF2
      clear hfw hF2 hs
      have HX := Aside0.mk (stepw_of_foldw HFW.out)
      go_wp2_with fail
      obtain ⟨wo, rfl⟩ : ∃ wo : World, wo = wr := ⟨_, rfl⟩
      go_loopg [20] (xs.length) (fun gj v20 w2 => ∃ (i : Nat) (vs : List Int), v20 = .int .i64 i ∧ Aside0 (gj + i = xs.length) ∧ Aside0 (stepw (Go.bits .xor .u64) i vs (xs.drop i) = some c) ∧ Aside0 (Kd.R (Kd.int .u64) 82 w2 w0.heap.size (fun k_ => (P0_1_ k_ ∨ w.heap.size ≤ k_)) (.slice Au l0_1.length cu) vs) ∧ Aside0 (Below w0.heap.size w0 w2) ∧ Aside0 (Kept w w2 (fun k_ => P0_1_ k_)) ∧ Aside0 (vs.length = l0_1.length) ∧ Aside0 (w2.heap[w.heap.size]? = some (.cells #[.int .i64 r1, .slice Au l0_1.length cu] 26 (0, 0))) ∧ Aside0 (w2.heap[w.heap.size + 1]? = some (.cells #[.int .i64 0, .slice none 0 0] 26 (0, 0))))
      case atStart => exact ⟨0, ws, rfl, ⟨by simp⟩, ⟨by simpa using HX.out⟩, ⟨Kd.R_alloc hO.out _⟩, ⟨hB.out.alloc hB.out.size _⟩, ⟨hK.out.alloc _⟩, hL, ⟨blk_alloc b3.out _⟩, ⟨blk_alloc b6.out _⟩⟩
      case round =>
        obtain ⟨i, vs, rfl, hg2, hX2, hO2, hB2, hK2, hL2, b32, b62⟩ := hrel
        by_cases hi : i < xs.length
        · obtain ⟨gj_, rfl⟩ : ∃ m, gk = m + 1 := ⟨gk - 1, by have := hg2.out; omega⟩
          have hX3 := hX2.out
          rw [List.drop_eq_getElem_cons hi, stepw] at hX3
          by_cases hv : i < vs.length
          · rw [if_pos hv] at hX3
            have HX3 := Aside0.mk hX3
            clear hX3
            obtain ⟨g, cap, eg, hgb, hgl, cells, hcells⟩ := Kd.R_form hO2.out (by omega)
            injection eg with eg1 eg2 eg3
            subst eg1
            have hL3 := hL2.out
            obtain ⟨_, _, hC⟩ := HEL.out wr hK2.out
            obtain ⟨ad2, eA2, hx⟩ := Kd.at_int hC (i : Int) (by omega) (by omega)
            subst eA2
            rw [Int.toNat_natCast] at hx
            have hO3 := hO2.out
            rw [← hL3] at hO3
            obtain ⟨hc, hf⟩ := Kd.R_cell (0 : Int) hO3 (i : Int) (by omega) (by omega)
            rw [Int.toNat_natCast] at hc hf
            have q0' := cell_of_row wr w.heap.size 1 _ _ _ b32.out
            simp only [List.getElem?_toArray, List.getElem?_cons_zero, List.getElem?_cons_succ] at q0'
            have hd2 : decide (i < xs.length) = true := decide_eq_true hi
            obtain ⟨xi, hxi⟩ : ∃ xi, rd xs (i : Int) = xi := ⟨_, rfl⟩
            obtain ⟨vi, hvi⟩ : ∃ vi, rdOf (0 : Int) vs (i : Int) = vi := ⟨_, rfl⟩
            rw [hxi] at hx
            rw [hvi] at hc
            have HXI := Aside0.mk hxi
            have HVI := Aside0.mk hvi
            have hv2 : i < l0_1.length := by omega
            have HCELL := Aside0.mk hcells
            clear hxi hvi hO3 hC eg2 eg3 q0 q1 hcells hL3
            go_wp2_with fail
            go_still_tail 12, (by kernel_rfl)
            still_call (calls_xor vi xi _)
            repeat still_step
            refine wpStill_nil ?_
            go_wp2
            have hne3 : (⟨g, i, none⟩ : Addr).block ≠ w.heap.size := fun e => by
              have h1 := b32.out
              have h2 : g = w.heap.size := e
              rw [← h2, HCELL.out] at h1
              cases h1
            have hne6 : (⟨g, i, none⟩ : Addr).block ≠ w.heap.size + 1 := fun e => by
              have h1 := b62.out
              have h2 : g = w.heap.size + 1 := e
              rw [← h2, HCELL.out] at h1
              cases h1
            have hput := (Kd.R_putn hO2.out (i : Int) (Go.bits .xor .u64 vi xi))
            rw [Int.toNat_natCast] at hput
            go_roundg gj_
            case rel =>
              refine ⟨i + 1, vs.set i (Go.bits .xor .u64 vi xi), by go_num, ⟨by have := hg2.out; omega⟩, ⟨?_⟩, ⟨Kd.R_drew hput⟩, ⟨?_⟩, ⟨?_⟩, ⟨by simpa using hL2.out⟩, ⟨blk_drew (blk_far b32.out hne3.symm _)⟩, ⟨blk_drew (blk_far b62.out hne6.symm _)⟩⟩
              · have h1 := HX3.out
                have h2 := HXI.out
                have h3 := HVI.out
                have h4 : rd vs (i : Int) = vi := h3
                have h5 : xs[i] = xi := by rw [← h2]; simp [rd, List.getD_eq_getElem?_getD, List.getElem?_eq_getElem hi]
                rw [h4, h5] at h1
                exact h1
              · exact below_drew (hB2.out.setCell hgb _)
              · exact (hK2.out.setCell ((hO2.out.1 g rfl).imp id id) _).drew
            case measure => omega
          · rw [if_neg hv] at hX3
            cases hX3
        · have e := Lib.hid (show i = xs.length by have := hg2.out; omega)
          have hd2 : decide (i < xs.length) = false := decide_eq_false hi
          have hc2 : vs = c := by have := hX2.out; rw [e.out] at this; simpa [stepw] using this
          subst hc2
          clear q0 q1
          go_wp2
          go_roundg gk'
          case rel => exact ⟨k + 1, vs, by go_num, ⟨by omega⟩, ⟨by have := hg.out; omega⟩, HF2, hO2, hB2, hK2, hL2, b32, b62⟩
          case measure => omega
    · have e := Lib.hid (show k = l1.length by have := hk.out; omega)
      have hd : decide (k < l1.length) = false := decide_eq_false hlt
      have q0 := cell_of_row wr w.heap.size 0 _ _ _ b3.out
      have q1 := cell_of_row wr w.heap.size 1 _ _ _ b3.out
      have f0 := free_of_row b6.out 0
      have f1 := free_of_row b6.out 1
      have g0 := cell_of_row wr (w.heap.size + 1) 0 _ _ _ b6.out
      have g1 := cell_of_row wr (w.heap.size + 1) 1 _ _ _ b6.out
      simp only [List.getElem?_toArray, List.getElem?_cons_zero, List.getElem?_cons_succ] at q0 q1 g0 g1
      clear hlt
      go_wp2
      refine bodyPost_ret (results_cell_row rfl _ _ (w.heap.size + 1) 26 #[.int .i64 r1, .slice Au l0_1.length cu] (0, 0) _ rfl ?_ Try.underlying26 rfl (by kernel_rfl)) rfl ?_
      · refine blk_put (cs := #[.int .i64 r1, .slice none 0 0]) ?_ 1 _ rfl
        refine blk_put (cs := #[.int .i64 0, .slice none 0 0]) ?_ 0 _ rfl
        exact b6.out
      · have hw : ws = r2 := by have := hF.out; rw [e.out] at this; simpa [folds] using this
        subst hw
        refine ⟨rfl, ?_, ?_, ?_⟩
        · exact Kd.R_mono (Kd.R_far (p := ⟨w.heap.size + 1, 1, none⟩) (Kd.R_far (p := ⟨w.heap.size + 1, 0, none⟩) (Kd.R_types hO.out b6.out (by decide)) (fun _ hk => hk.2) _) (fun _ hk => hk.2) _) (fun _ hk => hk.1)
        · exact (hB.out.setCell (by simp; exact Nat.le_succ_of_le HB.out.size) _).setCell (by simp; exact Nat.le_succ_of_le HB.out.size) _
        · exact (hK.out.setCell (.inr (by simp)) _).setCell (.inr (by simp)) _
theorem bitset_fold_xor.calls (a0_0 : Int) (P0_1_ : Nat → Prop) (u9000_ : Value) (l0_1 : List Int) (A1 : Option Addr) (c1 : Nat) (l1 : List (S26)) (a2 : Unit) (r1 : Int) (r2 : List Int) (w0 w : World) (hB : Below w0.heap.size w0 w) (ho0_1 : Kd.R (Kd.int .u64) 82 w w0.heap.size P0_1_ u9000_ l0_1) (hr1 : ∀ W_, Kept w W_ (fun k_ => P0_1_ k_) → Kd.C k26 W_ A1 l1.length l1) (hc1 : l1.length ≤ c1) (h : bitset_fold_xor.f a0_0 l0_1 l1 a2 = some (r1, r2)) :
    Calls Try.prog 68 #[.agg #[.int .i64 a0_0, u9000_], .slice A1 l1.length c1, .func (.func 76) #[] #[]] w fun e w' => ∃ v1_ : Value, e = .returned (.agg #[.int .i64 r1, v1_]) ∧ Kd.R (Kd.int .u64) 82 w' w0.heap.size (fun k_ => (P0_1_ k_ ∨ w.heap.size ≤ k_)) v1_ r2 ∧ Below w0.heap.size w0 w' ∧ Kept w w' (fun k_ => P0_1_ k_) := (bitset_fold_xor.puts a0_0 P0_1_ u9000_ l0_1 A1 c1 l1 a2 r1 r2 w0 w hB ho0_1 hr1 hc1 h).mono fun e w' hh => ⟨_, hh⟩
end Go.Proofs.Ytjmkhdhffmlhiaa.PAll
end
section
namespace Go.Proofs.Ytjmkhdhffmlhiaa.PAll
open Go.RowKit Go.Proofs.YtjmkhdhffmlhiaaW.PrintWords Go.Proofs.YtjmkhdhffmlhiaaW.PrintMore
structure Bitly (g : Int → Int → Int) (f : Bool → Bool → Bool) : Prop where
  wd : ∀ a b, Wd a → Wd b → Wd (g a b)
  tb : ∀ a b j, Wd a → Wd b → tb (g a b) j = f (tb a j) (tb b j)
  ff : f false false = false
theorem bitly_or : Bitly (Go.bits .or .u64) (fun a b => a || b) := ⟨fun a b _ _ => (or_eq a b).2, fun _ _ j ha hb => tb_or ha hb j, rfl⟩
theorem bitly_and : Bitly (Go.bits .and .u64) (fun a b => a && b) := ⟨fun a b _ _ => (and_eq a b).2, fun _ _ j ha hb => tb_and ha hb j, rfl⟩
theorem bitly_andNot : Bitly (Go.bits .andNot .u64) (fun a b => a && !b) := ⟨fun a b _ _ => (andNot_eq a b).2, fun _ _ j ha hb => tb_andNot ha hb j, rfl⟩
theorem bitly_xor : Bitly (Go.bits .xor .u64) (fun a b => a != b) := ⟨fun a b _ _ => (xor_eq a b).2, fun _ _ j ha hb => tb_xor ha hb j, rfl⟩
theorem hb_zip {g : Int → Int → Int} {f : Bool → Bool → Bool} (h : Bitly g f) {b ws : List Int} (hb' : Wds b) (hw : Wds ws) (hl : ws.length = b.length) (e : Nat) : hb (List.zipWith g b ws) e = f (hb b e) (hb ws e) := by
  rcases Nat.lt_or_ge (e / 64) b.length with h1 | h1
  · have h2 : (List.zipWith g b ws).getD (e / 64) 0 = g (b.getD (e / 64) 0) (ws.getD (e / 64) 0) := by
      rw [List.getD_eq_getElem?_getD, List.getD_eq_getElem?_getD, List.getD_eq_getElem?_getD, List.getElem?_zipWith, List.getElem?_eq_getElem h1, List.getElem?_eq_getElem (by omega)]
      rfl
    unfold hb
    rw [h2, h.tb _ _ _ (hb'.getD _) (hw.getD _)]
  · rw [hb_high (ws := b) (by omega), hb_high (ws := ws) (by omega), hb_high (by rw [List.length_zipWith]; omega), h.ff]
theorem zip_Wds {g : Int → Int → Int} {f : Bool → Bool → Bool} (h : Bitly g f) {b ws : List Int} (hb' : Wds b) (hw : Wds ws) : Wds (List.zipWith g b ws) := by
  intro x hx
  obtain ⟨i, hi, rfl⟩ := List.getElem_of_mem hx
  rw [List.getElem_zipWith]
  rw [List.length_zipWith] at hi
  exact h.wd _ _ (hb' _ (List.getElem_mem _)) (hw _ (List.getElem_mem _))
theorem foldw_is {g : Int → Int → Int} {f : Bool → Bool → Bool} (h : Bitly g f) {n : Nat} {p q : Nat → Bool} {b ws : List Int} (hb' : Is n p b) (hw : Is n q ws) : ∃ c, foldw g b ws = some c ∧ Is n (fun d => f (p d) (q d)) c := by
  have hl : ws.length = b.length := by rw [hw.len, hb'.len]
  refine ⟨List.zipWith g b ws, ?_, ?_, zip_Wds h hb'.wds hw.wds, fun e => ?_⟩
  · unfold foldw
    rw [if_pos (by omega), List.drop_eq_nil_of_le (by omega), List.append_nil]
  · rw [List.length_zipWith, hl, Nat.min_self, hb'.len]
  · rw [hb_zip h hb'.wds hw.wds hl, hb'.has, hw.has]
    by_cases he : e < n
    · simp [he]
    · simp [he, h.ff]
theorem folds_is {g : Int → Int → Int} {f : Bool → Bool → Bool} (h : Bitly g f) {n : Nat} (l : List S26) (hl : ∀ x ∈ l, MayS x ∧ x.f0 = (n : Int) ∧ Wds x.f1) : ∀ {p : Nat → Bool} {b : List Int}, Is n p b →
    ∃ c, folds g b l = some c ∧ Is n (fun d => l.foldl (fun acc x => f acc (hb x.f1 d)) (p d)) c := by
  induction l with
  | nil => intro p b hb'; exact ⟨b, rfl, hb'⟩
  | cons x l ih =>
    intro p b hb'
    obtain ⟨h1, h2, h3⟩ := hl x List.mem_cons_self
    have h4 : Is n (hb x.f1) x.f1 := by
      have := MayP.is h1 h3
      rw [h2] at this
      simpa using this
    obtain ⟨c, h5, h6⟩ := foldw_is h hb' h4
    obtain ⟨c2, h7, h8⟩ := ih (fun y hy => hl y (List.mem_cons_of_mem _ hy)) h6
    refine ⟨c2, ?_, h8⟩
    rw [folds, h5, Option.bind_some, h7]
theorem foldl_any (l : List S26) (d : Nat) : ∀ a : Bool, l.foldl (fun acc x => acc || hb x.f1 d) a = (a || l.any (fun x => hb x.f1 d)) := by
  induction l with
  | nil => intro a; simp
  | cons x l ih => intro a; rw [List.foldl_cons, ih, List.any_cons, Bool.or_assoc]
theorem foldl_all (l : List S26) (d : Nat) : ∀ a : Bool, l.foldl (fun acc x => acc && hb x.f1 d) a = (a && l.all (fun x => hb x.f1 d)) := by
  induction l with
  | nil => intro a; simp
  | cons x l ih => intro a; rw [List.foldl_cons, ih, List.all_cons, Bool.and_assoc]
end Go.Proofs.Ytjmkhdhffmlhiaa.PAll
end
