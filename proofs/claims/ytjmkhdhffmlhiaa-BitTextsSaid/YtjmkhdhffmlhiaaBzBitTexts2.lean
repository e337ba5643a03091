import Derived.Test.YtjmkhdhffmlhiaaBzBitTexts1
import Derived.SizedLaws
import Derived.ChangeSlices
import Derived.ChangeArms
import Derived.Deep.Slices
import Derived.ProofKit
import Derived.Test.YtjmkhdhffmlhiaaProg
import Derived.Below
import Derived.Deep.Draws
import Derived.Deep.AppendLies
import Derived.Maps.AppendAt
import Derived.OwnWalk
import Derived.Laws.BytesArg
import Derived.Laws.MakeOwn
import Derived.Laws.OwnMore
import Derived.Deep.OwnRows
import Derived.Tactics
import Derived.Lib.ConvBytes
import Derived.Laws.Slices
import Derived.WalkKit
import Derived.KernelRfl
import Derived.RowKit3
import Derived.Deep.LoopGhost
import Derived.Deep.QuietTactic
import Derived.BigQuiet
import Derived.WideLaws
import Derived.Deep.DeepCutAuto
import Derived.Deep.CutBlock
import Derived.Deep.RegionHeld3
import Derived.Laws.Rows
import Derived.Lib.AppendStr
import Derived.ArgAppend
import Derived.Laws.IdiomCopy
import Derived.OrdersHeld
import Derived.Laws.BitsLemmas
import Derived.RowKit
import Derived.Carry
section
namespace Go.Proofs.Ytjmkhdhffmlhiaa.PAll
open Go.ChangeShapes Go.WideShapes Go.RowKit Go.Proofs.YtjmkhdhffmlhiaaW.PrintWords
def light {H : Type} (P : Program) (t : TypeId) (d : DataW H) : Prop := (d.weights P t).all (· ≤ reachBytes) = true
structure Reads {α : Type} (P : Program) (t : TypeId) (d : Kd α) (good : α → Prop) : Prop where
  sz : d.sz = P.cellsOf t
  opens : ∀ {H : Type} {enc : TypeId × Value → H} {W : World} {base : Nat} {spare : Nat → Bool} {held : Bool} {fuel : Nat} {cs : List Value} {x : DataW H × List MemPlace},
    DataW.trod enc P W base spare held fuel t cs = some x → light P t x.1 → ∃ a, d.K W a cs ∧ good a
section
variable {α β : Type} {P : Program} {t e : TypeId} {d : Kd α} {good : α → Prop}
theorem Reads.int {k : IntKind} (ht : P.underlying t = some (.int k)) (hc : P.cellsOf t = 1) : Reads P t (Kd.int k) (fun n => (Lit.int k n).wf = true) :=
  ⟨hc.symm, fun h _ => by obtain ⟨n, rfl, _, hw⟩ := DataW.trod_int ht h; exact ⟨n, rfl, hw⟩⟩
theorem Reads.bool (ht : P.underlying t = some .bool) (hc : P.cellsOf t = 1) : Reads P t Kd.bool (fun _ => True) :=
  ⟨hc.symm, fun h _ => by obtain ⟨n, rfl, _⟩ := DataW.trod_bool ht h; exact ⟨n, rfl, trivial⟩⟩
theorem add_add_ (a : Addr) (i j : Nat) : (a.add i).add j = a.add (i + j) := by
  unfold Addr.add
  by_cases hi : i = 0 <;> by_cases hj : j = 0 <;> simp [hi, hj, Nat.add_assoc]
theorem exists_list (R : Nat → α → Prop) : ∀ n, (∀ i, i < n → ∃ a, R i a) → ∃ xs : List α, xs.length = n ∧ ∀ i (h : i < xs.length), R i xs[i] := by
  intro n
  induction n with
  | zero => intro _; exact ⟨[], rfl, fun i h => by cases h⟩
  | succ n ih =>
    intro h
    obtain ⟨xs, hl, hx⟩ := ih (fun i hi => h i (by omega))
    obtain ⟨a, ha⟩ := h n (by omega)
    refine ⟨xs ++ [a], by simp [hl], fun i hi => ?_⟩
    rcases Nat.lt_or_ge i xs.length with h1 | h1
    · rw [List.getElem_append_left h1]; exact hx i h1
    · have : i = n := by simp at hi; omega
      subst this
      rw [List.getElem_append_right h1]
      simpa [hl] using ha
theorem light_elem {H : Type} {elems spare : List (DataW H)} (ht : P.underlying t = some (.slice e)) (h : light P t (.slice elems spare)) : (elems.length + spare.length) * P.bytesOf e ≤ 140737488351232 ∧ ∀ y ∈ elems, light P e y := by
  unfold light at h
  simp only [DataW.weights, ht, List.all_cons, List.all_append, Bool.and_eq_true] at h
  refine ⟨by have := of_decide_eq_true h.1; simpa [reachBytes] using this, fun y hy => ?_⟩
  have h2 := h.2.1
  clear h
  induction elems with
  | nil => cases hy
  | cons z l ih =>
    simp only [DataW.weightsAll, List.all_append, Bool.and_eq_true] at h2
    rcases List.mem_cons.1 hy with rfl | h3
    · exact h2.1
    · exact ih h3 h2.2
theorem Reads.slice (ht : P.underlying t = some (.slice e)) (hc : P.cellsOf t = 1) (h : Reads P e d good) : Reads P t (Kd.slice e d) (fun xs => (∀ x ∈ xs, good x) ∧ xs.length * P.bytesOf e ≤ 140737488351232) := by
  refine ⟨hc.symm, fun {H enc W base spare held fuel cs x} hf hw => ?_⟩
  rcases Go.Deep.open_slice ht hf with ⟨rfl, hx⟩ | ⟨a, len, cap, m, n, D, Pl, rfl, hb, hl, hm, hmm, rfl, hel⟩
  · exact ⟨[], ⟨none, 0, rfl, Nat.le_refl _, Kd.C_nil d W⟩, ⟨fun _ h => (by cases h), by simp⟩⟩
  · obtain ⟨hlen, hlight⟩ := light_elem ht hw
    have hlm : len ≤ m := by rw [hmm]; split <;> omega
    obtain ⟨xs, hxl, hxs⟩ := exists_list (fun i y => ∃ cs', W.cells? base (Addr.add a (i * P.cellsOf e)) (P.cellsOf e) = some cs' ∧ d.K W y cs' ∧ good y) len (fun i hi => by
      obtain ⟨cs', h1, h2⟩ := hel i (by omega)
      obtain ⟨y, h3, h4⟩ := h.opens h2 (hlight _ (by simp only [List.mem_map, List.mem_range]; exact ⟨i, hi, rfl⟩))
      exact ⟨y, cs', h1, h3, h4⟩)
    subst hxl
    refine ⟨xs, ⟨some a, cap, rfl, hl, rfl, by unfold maxLen at hm; omega, fun _ => ⟨a, rfl, fun j p hj => ?_⟩⟩, ?_, ?_⟩
    · obtain ⟨hj', rfl⟩ := List.getElem?_eq_some_iff.1 hj
      obtain ⟨cs', h1, h2, _⟩ := hxs j hj'
      refine ⟨cs', d.K_len h2, h2, fun i u hu => ?_⟩
      obtain ⟨_, hl2, hc2⟩ := World.cells?_some h1
      have hi : i < P.cellsOf e := by rw [← hl2]; exact (List.getElem?_eq_some_iff.1 hu).1
      rw [h.sz, ← add_add_, hc2 i hi, hu]
    · intro x hx
      obtain ⟨j, hj, rfl⟩ := List.getElem_of_mem hx
      obtain ⟨_, _, _, hg⟩ := hxs j hj
      exact hg
    · refine Nat.le_trans (Nat.mul_le_mul_right _ ?_) hlen
      simp
theorem Reads.iso (h : Reads P t d good) (f : β → α) (g : α → β) (hg : ∀ a, f (g a) = a) : Reads P t (Kd.iso d f) (fun b => good (f b)) :=
  ⟨h.sz, fun hf hw => by
    obtain ⟨a, h1, h2⟩ := h.opens hf hw
    exact ⟨g a, by show d.K _ (f (g a)) _; rw [hg]; exact h1, by rw [hg]; exact h2⟩⟩
end
end Go.Proofs.Ytjmkhdhffmlhiaa.PAll
end
section
namespace Go.Proofs.YtjmkhdhffmlhiaaW.PrintWords
open Go.RowKit
section
variable {P : Program} {ops : Array Oper} {Q : Exit → Act → World → Prop}
end
theorem w64_u8 (x : Int) : wrap64 (IntKind.u8.wrap x) = x % 256 := by rw [IntKind.wrap_u8]; unfold wrap64; omega
theorem w64_mod256 (x : Int) : wrap64 (x % 256) = x % 256 := by unfold wrap64; omega
end Go.Proofs.YtjmkhdhffmlhiaaW.PrintWords
end
section
namespace Go.Proofs.Ytjmkhdhffmlhiaa.PAll
open Go.RowKit Go.Proofs.YtjmkhdhffmlhiaaW.PrintWords Go.Proofs.YtjmkhdhffmlhiaaW.PrintLast Go.Proofs.YtjmkhdhffmlhiaaW.PrintMore
attribute [local go_sem] max2_int min2_int max_two min_two max_three min_three max_four min_four w64_u8 w64_mod256   -- for this text's walks alone
set_option linter.unusedVariables false
set_option linter.unusedSimpArgs false
def errW : Option Int → Value
  | none => .nilIface
  | some c => .iface 0 (.int .i64 c)
theorem errW_none : errW none = .nilIface := rfl
theorem errW_some (c : Int) : errW (some c) = .iface 0 (.int .i64 c) := rfl
theorem info4 : (Try.prog.info? 4).map (fun i => (i.zero, i.size, i.bytes)) = some (some (.bool false), 1, 1) := by kernel_rfl
theorem info82 : (Try.prog.info? 82).map (fun i => (i.zero, i.size, i.bytes)) = some (some (.int .u64 0), 1, 8) := by kernel_rfl
theorem info95 : (Try.prog.info? 95).map (fun i => (i.zero, i.size, i.bytes)) = some (some (.agg #[(.int .i64 0), (.int .i64 0), (.bool false)]), 3, 24) := by kernel_rfl
theorem info100 : (Try.prog.info? 100).map (fun i => (i.zero, i.size, i.bytes)) = some (some (.agg #[(.int .i64 0), (.int .i64 0), (.int .u8 0)]), 3, 24) := by kernel_rfl
structure S26 where
  f0 : Int
  f1 : (List Int)
structure S95 where
  f0 : Int
  f1 : Int
  f2 : Bool
def z95 : S95 := ⟨(0 : Int), (0 : Int), false⟩
def k95 : Kd S95 := Kd.iso (Kd.pair (Kd.int .i64) (Kd.pair (Kd.int .i64) Kd.bool)) (fun x : S95 => (x.f0, x.f1, x.f2))
theorem k95_open {w : World} {x : S95} {cs : List Value} (h : k95.K w x cs) : cs = [.int .i64 x.f0, .int .i64 x.f1, .bool x.f2] := by
  obtain ⟨_, _, rfl, rfl, ⟨_, _, rfl, rfl, rfl⟩⟩ := h
  exact rfl
theorem k95_mkM (w : World) (base : Nat) (ok : Nat → Prop) (x : S95)  : k95.M w base ok x [.int .i64 x.f0, .int .i64 x.f1, .bool x.f2] := ⟨[.int .i64 x.f0], [.int .i64 x.f1, .bool x.f2], rfl, rfl, ⟨[.int .i64 x.f1], [.bool x.f2], rfl, rfl, rfl⟩⟩
def rd_T95 (xs : List S95) (i : Int) : S95 := xs.getD i.toNat z95
theorem at_T95 {w : World} {A : Option Addr} {n : Nat} {xs : List S95} (h : Kd.C k95 w A n xs) (i : Int) (h0 : 0 ≤ i) (h1 : i < n) : ∃ ad , A = some ad ∧ w.cell? (ad.add (i.toNat * 3)) = some (.int .i64 (rd_T95 xs i).f0) ∧ w.cell? ⟨(ad.add (i.toNat * 3)).block, (ad.add (i.toNat * 3)).off + 1, none⟩ = some (.int .i64 (rd_T95 xs i).f1) ∧ w.cell? ⟨(ad.add (i.toNat * 3)).block, (ad.add (i.toNat * 3)).off + 2, none⟩ = some (.bool (rd_T95 xs i).f2) := by
  obtain ⟨ad, c, e, _, hK, hc0⟩ := Kd.C_get h z95 i h0 h1
  have hc : ∀ j u, c[j]? = some u → w.cell? (ad.add (i.toNat * 3 + j)) = some u := hc0
  obtain rfl := k95_open hK
  exact ⟨ad, e, hc 0 _ rfl, by rw [← add_field _ _ 1 (by omega)]; exact hc 1 _ rfl, by rw [← add_field _ _ 2 (by omega)]; exact hc 2 _ rfl⟩
structure S100 where
  f0 : Int
  f1 : Int
  f2 : Int
def z100 : S100 := ⟨(0 : Int), (0 : Int), (0 : Int)⟩
def k100 : Kd S100 := Kd.iso (Kd.pair (Kd.int .i64) (Kd.pair (Kd.int .i64) (Kd.int .u8))) (fun x : S100 => (x.f0, x.f1, x.f2))
theorem k100_open {w : World} {x : S100} {cs : List Value} (h : k100.K w x cs) : cs = [.int .i64 x.f0, .int .i64 x.f1, .int .u8 x.f2] := by
  obtain ⟨_, _, rfl, rfl, ⟨_, _, rfl, rfl, rfl⟩⟩ := h
  exact rfl
theorem k100_mkM (w : World) (base : Nat) (ok : Nat → Prop) (x : S100)  : k100.M w base ok x [.int .i64 x.f0, .int .i64 x.f1, .int .u8 x.f2] := ⟨[.int .i64 x.f0], [.int .i64 x.f1, .int .u8 x.f2], rfl, rfl, ⟨[.int .i64 x.f1], [.int .u8 x.f2], rfl, rfl, rfl⟩⟩
def rd_T100 (xs : List S100) (i : Int) : S100 := xs.getD i.toNat z100
theorem at_T100 {w : World} {A : Option Addr} {n : Nat} {xs : List S100} (h : Kd.C k100 w A n xs) (i : Int) (h0 : 0 ≤ i) (h1 : i < n) : ∃ ad , A = some ad ∧ w.cell? (ad.add (i.toNat * 3)) = some (.int .i64 (rd_T100 xs i).f0) ∧ w.cell? ⟨(ad.add (i.toNat * 3)).block, (ad.add (i.toNat * 3)).off + 1, none⟩ = some (.int .i64 (rd_T100 xs i).f1) ∧ w.cell? ⟨(ad.add (i.toNat * 3)).block, (ad.add (i.toNat * 3)).off + 2, none⟩ = some (.int .u8 (rd_T100 xs i).f2) := by
  obtain ⟨ad, c, e, _, hK, hc0⟩ := Kd.C_get h z100 i h0 h1
  have hc : ∀ j u, c[j]? = some u → w.cell? (ad.add (i.toNat * 3 + j)) = some u := hc0
  obtain rfl := k100_open hK
  exact ⟨ad, e, hc 0 _ rfl, by rw [← add_field _ _ 1 (by omega)]; exact hc 1 _ rfl, by rw [← add_field _ _ 2 (by omega)]; exact hc 2 _ rfl⟩
end Go.Proofs.Ytjmkhdhffmlhiaa.PAll
end
section
namespace Go.Proofs.Ytjmkhdhffmlhiaa.PAll
open Go.RowKit Go.Proofs.YtjmkhdhffmlhiaaW.PrintWords Go.Proofs.YtjmkhdhffmlhiaaW.PrintMore
def Wd (x : Int) : Prop := 0 ≤ x ∧ x < 18446744073709551616
def tb (x : Int) (j : Nat) : Bool := x.toNat.testBit j
theorem wrap_u64 (n : Int) : IntKind.u64.wrap n = n % 18446744073709551616 := by simp [IntKind.wrap, IntKind.bits, IntKind.signed]
theorem wraps_u64 (n : Int) (h : Wd n) : IntKind.u64.wrap n = n := by rw [wrap_u64]; unfold Wd at h; omega
theorem Wd.nat {x : Int} (h : Wd x) : x.toNat < 2 ^ 64 ∧ (x.toNat : Int) = x := by unfold Wd at h; omega
theorem Wd.of {n : Nat} (h : n < 2 ^ 64) : Wd (n : Int) := by unfold Wd; omega
theorem Wd.zero : Wd 0 := by unfold Wd; omega
theorem tb_ext {x y : Int} (hx : Wd x) (hy : Wd y) (h : ∀ j, j < 64 → tb x j = tb y j) : x = y := by
  have hx' := hx.nat
  have hy' := hy.nat
  have : x.toNat = y.toNat := Nat.eq_of_testBit_eq fun j => by
    rcases Nat.lt_or_ge j 64 with hj | hj
    · exact h j hj
    · rw [Nat.testBit_lt_two_pow (Nat.lt_of_lt_of_le hx'.1 (Nat.pow_le_pow_right (by decide) hj)), Nat.testBit_lt_two_pow (Nat.lt_of_lt_of_le hy'.1 (Nat.pow_le_pow_right (by decide) hj))]
  rw [← hx'.2, ← hy'.2, this]
theorem bits_bv (op : BinOp) (f : BitVec 64 → BitVec 64 → BitVec 64) (hf : ∀ a b : Int, Go.bits op .u64 a b = IntKind.u64.wrap ((f (BitVec.ofInt 64 a) (BitVec.ofInt 64 b)).toNat : Int)) (a b : Int) :
    Go.bits op .u64 a b = ((f (BitVec.ofInt 64 a) (BitVec.ofInt 64 b)).toNat : Int) ∧ Wd (Go.bits op .u64 a b) := by
  have h := (f (BitVec.ofInt 64 a) (BitVec.ofInt 64 b)).isLt
  have hw : Wd ((f (BitVec.ofInt 64 a) (BitVec.ofInt 64 b)).toNat : Int) := Wd.of h
  rw [hf, wraps_u64 _ hw]
  exact ⟨rfl, hw⟩
theorem ofInt_tb {a : Int} (ha : Wd a) (j : Nat) : (BitVec.ofInt 64 a).toNat.testBit j = tb a j := by
  have h := ha.nat
  have : (BitVec.ofInt 64 a).toNat = a.toNat := by
    rw [BitVec.toNat_ofInt]
    unfold Wd at ha
    omega
  rw [this]; rfl
theorem or_eq (a b : Int) : Go.bits .or .u64 a b = ((BitVec.ofInt 64 a ||| BitVec.ofInt 64 b).toNat : Int) ∧ Wd (Go.bits .or .u64 a b) := bits_bv .or (· ||| ·) (fun _ _ => rfl) a b
theorem tb_or {a b : Int} (ha : Wd a) (hb : Wd b) (j : Nat) : tb (Go.bits .or .u64 a b) j = (tb a j || tb b j) := by
  rw [(or_eq a b).1]; unfold tb; rw [Int.toNat_natCast, BitVec.toNat_or, Nat.testBit_or, ofInt_tb ha, ofInt_tb hb]; rfl
theorem one_shl {e : Int} (h0 : 0 ≤ e) (h1 : e < 64) : shl .u64 1 e = ((2 ^ e.toNat : Nat) : Int) ∧ Wd (shl .u64 1 e) := by
  have hp : 2 ^ e.toNat < 2 ^ 64 := Nat.pow_lt_pow_right (by decide) (by omega)
  have hw : Wd ((2 ^ e.toNat : Nat) : Int) := Wd.of hp
  have : shl .u64 1 e = IntKind.u64.wrap ((2 ^ e.toNat : Nat) : Int) := by
    unfold shl
    rw [show min e.toNat IntKind.u64.bits = e.toNat by simp [IntKind.bits]; omega, Int.one_mul]
    congr 1
  rw [this, wraps_u64 _ hw]
  exact ⟨rfl, hw⟩
theorem tb_one {e : Int} (h0 : 0 ≤ e) (h1 : e < 64) (j : Nat) : tb (shl .u64 1 e) j = decide (j = e.toNat) := by
  rw [(one_shl h0 h1).1]; unfold tb; rw [Int.toNat_natCast, Nat.testBit_two_pow]
  by_cases h : j = e.toNat
  · simp [h]
  · simp [h]; omega
theorem tb_zero (j : Nat) : tb 0 j = false := by simp [tb]
end Go.Proofs.Ytjmkhdhffmlhiaa.PAll
end
section
namespace Go.Proofs.Ytjmkhdhffmlhiaa.PAll
open Go.RowKit Go.Proofs.YtjmkhdhffmlhiaaW.PrintWords Go.Proofs.YtjmkhdhffmlhiaaW.PrintMore
def Wds (ws : List Int) : Prop := ∀ x ∈ ws, Wd x
def hb (ws : List Int) (e : Nat) : Bool := tb (ws.getD (e / 64) 0) (e % 64)
def putw (ws : List Int) (e : Nat) : List Int := ws.set (e / 64) (Go.bits .or .u64 (ws.getD (e / 64) 0) (shl .u64 1 ((e % 64 : Nat) : Int)))
theorem Wds.getD {ws : List Int} (h : Wds ws) (i : Nat) : Wd (ws.getD i 0) := by
  rw [List.getD_eq_getElem?_getD]
  rcases Nat.lt_or_ge i ws.length with hi | hi
  · rw [List.getElem?_eq_getElem hi]; exact h _ (List.getElem_mem hi)
  · rw [List.getElem?_eq_none hi]; exact Wd.zero
theorem Wds.set {ws : List Int} (h : Wds ws) (i : Nat) {x : Int} (hx : Wd x) : Wds (ws.set i x) := by
  intro y hy
  rcases List.mem_or_eq_of_mem_set hy with h1 | h1
  · exact h _ h1
  · exact h1 ▸ hx
theorem Wds.replicate (n : Nat) : Wds (List.replicate n 0) := by
  intro x hx
  rw [(List.mem_replicate.1 hx).2]
  exact Wd.zero
theorem Wds.nil : Wds [] := fun _ h => by cases h
theorem rd_nat (ws : List Int) (i : Nat) : rd ws (i : Int) = ws.getD i 0 := by simp [rd]
theorem getD_set (ws : List Int) (i j : Nat) (x : Int) (hi : i < ws.length) : (ws.set i x).getD j 0 = if i = j then x else ws.getD j 0 := by
  rw [List.getD_eq_getElem?_getD, List.getElem?_set, List.getD_eq_getElem?_getD]
  by_cases h : i = j
  · subst h; simp [hi]
  · simp [h]
theorem hb_ext {ws vs : List Int} (hw : Wds ws) (hv : Wds vs) (hl : ws.length = vs.length) (h : ∀ e, e < 64 * ws.length → hb ws e = hb vs e) : ws = vs := by
  apply List.ext_getElem hl
  intro i h1 h2
  have hi : ws.getD i 0 = ws[i] := by rw [List.getD_eq_getElem?_getD, List.getElem?_eq_getElem h1]; rfl
  have hi2 : vs.getD i 0 = vs[i] := by rw [List.getD_eq_getElem?_getD, List.getElem?_eq_getElem h2]; rfl
  apply tb_ext (hw _ (List.getElem_mem h1)) (hv _ (List.getElem_mem h2))
  intro j hj
  have := h (64 * i + j) (by omega)
  unfold hb at this
  rw [show (64 * i + j) / 64 = i by omega, show (64 * i + j) % 64 = j by omega, hi, hi2] at this
  exact this
theorem hb_replicate (n e : Nat) : hb (List.replicate n 0) e = false := by
  unfold hb
  have : (List.replicate n (0 : Int)).getD (e / 64) 0 = 0 := by
    rw [List.getD_eq_getElem?_getD, List.getElem?_replicate]
    split <;> rfl
  rw [this]; exact tb_zero _
theorem putw_length (ws : List Int) (e : Nat) : (putw ws e).length = ws.length := by simp [putw]
theorem putw_Wds {ws : List Int} (h : Wds ws) (e : Nat) : Wds (putw ws e) := h.set _ (or_eq _ _).2
theorem hb_putw {ws : List Int} (h : Wds ws) {e : Nat} (he : e / 64 < ws.length) (d : Nat) : hb (putw ws e) d = (hb ws d || decide (d = e)) := by
  unfold hb putw
  rw [getD_set _ _ _ _ he]
  by_cases h1 : e / 64 = d / 64
  · rw [if_pos h1, tb_or (h.getD _) (one_shl (by omega) (by omega)).2, tb_one (by omega) (by omega), h1]
    congr 1
    simp only [Int.toNat_natCast]
    by_cases h2 : d = e
    · subst h2; simp
    · simp only [h2, decide_false, decide_eq_false_iff_not]; omega
  · rw [if_neg h1]
    have : ¬ d = e := fun h2 => h1 (by rw [h2])
    simp [this]
structure Is (n : Nat) (p : Nat → Bool) (ws : List Int) : Prop where
  len : ws.length = (n + 63) / 64
  wds : Wds ws
  has : ∀ e, hb ws e = (decide (e < n) && p e)
theorem Is.eq {n : Nat} {p q : Nat → Bool} {ws vs : List Int} (h : Is n p ws) (k : Is n q vs) (hpq : ∀ e, e < n → p e = q e) : ws = vs := by
  apply hb_ext h.wds k.wds (h.len.trans k.len.symm)
  intro e _
  rw [h.has, k.has]
  by_cases he : e < n
  · rw [hpq e he]
  · simp [he]
theorem Is.congr {n : Nat} {p q : Nat → Bool} {ws : List Int} (h : Is n p ws) (hpq : ∀ e, e < n → p e = q e) : Is n q ws :=
  ⟨h.len, h.wds, fun e => by rw [h.has]; by_cases he : e < n <;> simp [he]; exact hpq e he⟩
theorem Is.none (n : Nat) : Is n (fun _ => false) (List.replicate ((n + 63) / 64) 0) := ⟨by simp, Wds.replicate _, fun e => by rw [hb_replicate]; simp⟩
theorem Is.put {n : Nat} {p : Nat → Bool} {ws : List Int} (h : Is n p ws) {e : Nat} (he : e < n) : Is n (fun d => p d || decide (d = e)) (putw ws e) := by
  refine ⟨by rw [putw_length, h.len], putw_Wds h.wds e, fun d => ?_⟩
  rw [hb_putw h.wds (by rw [h.len]; omega), h.has]
  by_cases h1 : d = e
  · subst h1; simp [he]
  · simp [h1]
theorem Is.lt {n : Nat} {p : Nat → Bool} {ws : List Int} (h : Is n p ws) {e : Nat} (he : e < n) : e / 64 < ws.length := by rw [h.len]; omega
theorem w64_nat {n : Int} (h0 : -9223372036854775808 ≤ n) (h1 : n ≤ 9223372036854775807) : wrap64 n = n := by unfold wrap64; omega
theorem tdiv_nat (e : Nat) : Int.tdiv (e : Int) 64 = ((e / 64 : Nat) : Int) := by rw [show (64 : Int) = ((64 : Nat) : Int) from rfl, ← Int.ofNat_tdiv]
theorem tmod_nat (e : Nat) : Int.tmod (e : Int) 64 = ((e % 64 : Nat) : Int) := by rw [show (64 : Int) = ((64 : Nat) : Int) from rfl, ← Int.ofNat_tmod]
end Go.Proofs.Ytjmkhdhffmlhiaa.PAll
end
section
namespace Go.Proofs.Ytjmkhdhffmlhiaa.PAll
open Go.ChangeShapes Go.WideShapes Go.RowKit Go.Proofs.YtjmkhdhffmlhiaaW.PrintWords Go.Proofs.YtjmkhdhffmlhiaaW.PrintMore
set_option maxRecDepth 100000
section
variable {H : Type} {enc : TypeId × Value → H} {W : World} {r : Reach} {base : Nat} {spare : Nat → Bool} {held : Bool} {v : Value} {y : DataW H} {p : List MemPlace} {ts : List TypeId} {ds : List (DataW H)} {j : Nat}
end
end Go.Proofs.Ytjmkhdhffmlhiaa.PAll
end
section
namespace Go.Proofs.Ytjmkhdhffmlhiaa.PAll
open Go.RowKit Go.Proofs.YtjmkhdhffmlhiaaW.PrintWords Go.Proofs.YtjmkhdhffmlhiaaW.PrintLast Go.Proofs.YtjmkhdhffmlhiaaW.PrintMore
attribute [local go_sem] max2_int min2_int max_two min_two max_three min_three max_four min_four w64_u8 w64_mod256   -- for this text's walks alone
set_option linter.unusedVariables false
set_option linter.unusedSimpArgs false
mutual
def bitset_digits.l0 : Nat → ByteArray → Int → Int → Int → Int → Bool → Option (Int × Int × Bool × Int × Bool)
  | 0, _, _, _, _, _, _ => none
  | k + 1, x0, x1, x8, x103000, x103001, x103002 => if x8 < (x0.size : Int) then (if 0 ≤ x8 then (if (bt x0 x8) ≥ 48 then (bitset_digits.j1 k x0 x1 x8 (decide ((bt x0 x8) ≤ 57)) x103000 x103001 x103002) else (bitset_digits.j1 k x0 x1 x8 false x103000 x103001 x103002)) else (none)) else (bitset_digits.j1 k x0 x1 x8 false x103000 x103001 x103002)
def bitset_digits.j1 : Nat → ByteArray → Int → Int → Bool → Int → Int → Bool → Option (Int × Int × Bool × Int × Bool)
  | 0, _, _, _, _, _, _, _ => none
  | k + 1, x0, x1, x8, x27, x103000, x103001, x103002 => if x27 = true then (if 0 ≤ x8 then (if x8 < (x0.size : Int) then (if (wrap64 (x8 + 1)) = (wrap64 (x1 + 1)) then (if 0 ≤ x1 then (if x1 < (x0.size : Int) then (if (bt x0 x1) = 48 then (some (mn (wrap64 ((wrap64 (x103000 * 10)) + (((bt x0 x8) - 48) % 256))) 1048576, x103001, x103002, wrap64 (x8 + 1), decide ((wrap64 (x8 + 1)) > x1))) else (bitset_digits.l0 k x0 x1 (wrap64 (x8 + 1)) (mn (wrap64 ((wrap64 (x103000 * 10)) + (((bt x0 x8) - 48) % 256))) 1048576) x103001 x103002)) else (none)) else (none)) else (bitset_digits.l0 k x0 x1 (wrap64 (x8 + 1)) (mn (wrap64 ((wrap64 (x103000 * 10)) + (((bt x0 x8) - 48) % 256))) 1048576) x103001 x103002)) else (none)) else (none)) else (some (x103000, x103001, x103002, x8, decide (x8 > x1)))
end
def bitset_digits.f (k : Nat) (a0 : ByteArray) (a1 : Int) : Option (Int × Int × Bool × Int × Bool) := bitset_digits.l0 k a0 a1 a1 0 a1 false
def bitset_digits.T4 : Bool × List (List Nat × List Nat) := (true, [([], []), ([0], [0]), ([1], [1]), ([], []), ([], []), ([3, 4], [3, 4]), ([5], [5]), ([6], [6]), ([2, 7], [2, 7]), ([8], [8]), ([0, 1, 2, 3, 4, 5, 6, 7, 8, 9], []), ([10, 9, 0, 1, 2, 3, 4, 5, 6, 7, 8, 9], [9, 10])])
def bitset_digits.B4 : List Nat := [0, 1, 3, 0, 0, 24, 56, 120, 255, 511, 1023, 2047]
theorem bitset_digits.tab4 : rtab .any (opsOf Try.f83 4) = bitset_digits.T4 := by kernel_rfl
theorem bitset_digits.bits4 : waitsOk bitset_digits.T4.2 bitset_digits.B4 = true := by kernel_rfl
set_option maxHeartbeats 8000000 in
set_option maxRecDepth 100000 in
theorem bitset_digits.calls (k : Nat) (a0 : ByteArray) (a1 : Int) (r1 : Int) (r2 : Int) (r3 : Bool) (r4 : Int) (r5 : Bool) (w : World) (h : bitset_digits.f k a0 a1 = some (r1, r2, r3, r4, r5)) :
    Calls Try.prog 83 #[.string a0, .int .i64 a1] w fun e w' => e = .returned (.tuple #[.agg #[.int .i64 r1, .int .i64 r2, .bool r3], .int .i64 r4, .bool r5]) ∧ Below w.heap.size w w' := by
  have hu95 := Try.underlying95
  have HB := Aside0.mk (Below.refl w.heap.size w)
  have H : (bitset_digits.l0 k a0 a1 a1 0 a1 false) = some (r1, r2, r3, r4, r5) := h
  clear h
  have H' := Aside0.mk H
  clear H
  go_enter Try.func83, Try.ntmps83
  go_wp2_with (first | ((with_reducible refine gate_dst (N := 4) rfl ?_); refine box_event ?hg (N := 4) ?hd (cs := #[.int .i64 0, .int .i64 0, .bool false]) (t := 95) ?hr ?_; (case hd => rfl); (case hg => rfl); (case hr => first | (go_simp; done) | (go_simp; rfl)); intro gb101 hg w3 hbox hb; have n0_ := Aside0.mk (below_step (by repeat (first | (with_reducible first | exact HB.out | apply below_alloc | apply pw_below_drewN | apply below_drew1) | exact HB.out)) hb); have n1_ := Aside0.mk (hbox); have n2_ := Aside0.mk ((by rw [hg]; exact (below_size (by repeat (first | (with_reducible first | exact HB.out | apply below_alloc | apply pw_below_drewN | apply below_drew1) | exact HB.out))) : w.heap.size ≤ gb101)); have n3_ := Aside0.mk ((by rw [hg]; exact (below_size (by repeat (first | (with_reducible first | exact HB.out | apply below_alloc | apply pw_below_drewN | apply below_drew1) | exact HB.out))) : w.heap.size ≤ gb101)); clear HB; have HB := n0_; have BK101 := n1_; have GW101 := n2_; have GE101 := n3_; clear n0_ n1_ n2_ n3_; clear hb hbox hg) | ((with_reducible refine gate_dst (N := 7) rfl ?_); refine box_event ?hg (N := 7) ?hd (cs := #[.int .i64 0, .int .i64 0, .bool false]) (t := 95) ?hr ?_; (case hd => rfl); (case hg => rfl); (case hr => first | (go_simp; done) | (go_simp; rfl)); intro gb102 hg w4 hbox hb; have n0_ := Aside0.mk (blk_below (g := gb101) (o := .cells #[.int .i64 0, .int .i64 0, .bool false] 95 (0, 0)) (by (with_reducible repeat (first | refine blk_drewN ?_ _ | refine blk_drew ?_ | refine blk_alloc ?_ _)); exact BK101.out) hb); have n1_ := Aside0.mk (below_step (by repeat (first | (with_reducible first | exact HB.out | apply below_alloc | apply pw_below_drewN | apply below_drew1 | refine below_set ?_ GE101.out) | exact HB.out)) hb); have n2_ := Aside0.mk (hbox); have n3_ := Aside0.mk ((by rw [hg]; exact (below_size (by repeat (first | (with_reducible first | exact HB.out | apply below_alloc | apply pw_below_drewN | apply below_drew1 | refine below_set ?_ GE101.out) | exact HB.out))) : w.heap.size ≤ gb102)); have n4_ := Aside0.mk ((by rw [hg]; exact (below_size (by repeat (first | (with_reducible first | exact HB.out | apply below_alloc | apply pw_below_drewN | apply below_drew1 | refine below_set ?_ GE101.out) | exact HB.out))) : w.heap.size ≤ gb102)); have n5_ := Aside0.mk ((by rw [hg]; exact Nat.ne_of_lt (blk_lt (g := gb101) (o := .cells #[.int .i64 0, .int .i64 0, .bool false] 95 (0, 0)) (by (with_reducible repeat (first | refine blk_drewN ?_ _ | refine blk_drew ?_ | refine blk_alloc ?_ _)); exact BK101.out)) : gb101 ≠ gb102)); have n6_ := Aside0.mk ((by rw [hg]; exact Nat.ne_of_gt (blk_lt (g := gb101) (o := .cells #[.int .i64 0, .int .i64 0, .bool false] 95 (0, 0)) (by (with_reducible repeat (first | refine blk_drewN ?_ _ | refine blk_drew ?_ | refine blk_alloc ?_ _)); exact BK101.out)) : gb102 ≠ gb101)); clear BK101; clear HB; have BK101 := n0_; have HB := n1_; have BK102 := n2_; have GW102 := n3_; have GE102 := n4_; have NB101_102 := n5_; have NB102_101 := n6_; clear n0_ n1_ n2_ n3_ n4_ n5_ n6_; clear hb hbox hg; have hnb5 := NB102_101.out; have hnc5 := NB101_102.out; have hcz6_0 : w4.cell? ⟨gb102, 0, none⟩ = some (.int .i64 0) := (blk_cell BK102.out 0).trans rfl; have hcz6_1 : w4.cell? ⟨gb102, 1, none⟩ = some (.int .i64 0) := (blk_cell BK102.out 1).trans rfl; have hcz6_2 : w4.cell? ⟨gb102, 2, none⟩ = some (.bool false) := (blk_cell BK102.out 2).trans rfl; have hfz6_0 := blk_frozen BK102.out 0; have hfz6_1 := blk_frozen BK102.out 1; have hfz6_2 := blk_frozen BK102.out 2))
  go_loopg [8] k (fun kq v8 w' => ∃ (x8_1 : Int) (x103000_1 : Int), v8 = .int .i64 x8_1 ∧ Aside0 (bitset_digits.l0 kq a0 a1 x8_1 x103000_1 a1 false = some (r1, r2, r3, r4, r5)) ∧ Aside0 (kq ≤ k) ∧ Aside0 (w'.heap[gb101]? = some (.cells #[.int .i64 0, .int .i64 0, .bool false] 95 (0, 0))) ∧ Aside0 (w'.heap[gb102]? = some (.cells #[.int .i64 x103000_1, .int .i64 a1, .bool false] 95 (0, 0))) ∧ Aside0 (Below w.heap.size w w'))
  case atStart => exact ⟨(a1), (0), (by first | rfl | (simp; done) | (simp [*]; done)), H', ⟨Nat.le_refl _⟩, ⟨by (with_reducible repeat (first | refine blk_drewN ?_ _ | refine blk_drew ?_ | refine blk_alloc ?_ _)); refine blk_far ?_ NB101_102.out _; (with_reducible repeat (first | refine blk_drewN ?_ _ | refine blk_drew ?_ | refine blk_alloc ?_ _)); refine blk_far ?_ NB101_102.out _; (with_reducible repeat (first | refine blk_drewN ?_ _ | refine blk_drew ?_ | refine blk_alloc ?_ _)); refine blk_far ?_ NB101_102.out _; (with_reducible repeat (first | refine blk_drewN ?_ _ | refine blk_drew ?_ | refine blk_alloc ?_ _)); exact BK101.out⟩, ⟨by (with_reducible repeat (first | refine blk_drewN ?_ _ | refine blk_drew ?_ | refine blk_alloc ?_ _)); refine blk_put (cs := #[.int .i64 0, .int .i64 a1, .bool false]) ?_ 2 _ rfl; (with_reducible repeat (first | refine blk_drewN ?_ _ | refine blk_drew ?_ | refine blk_alloc ?_ _)); refine blk_put (cs := #[.int .i64 0, .int .i64 0, .bool false]) ?_ 1 _ rfl; (with_reducible repeat (first | refine blk_drewN ?_ _ | refine blk_drew ?_ | refine blk_alloc ?_ _)); refine blk_put (cs := #[.int .i64 0, .int .i64 0, .bool false]) ?_ 0 _ rfl; (with_reducible repeat (first | refine blk_drewN ?_ _ | refine blk_drew ?_ | refine blk_alloc ?_ _)); exact BK102.out⟩, ⟨by repeat (first | (with_reducible first | exact HB.out | apply below_alloc | apply pw_below_drewN | apply below_drew1 | refine below_set ?_ GE101.out | refine below_set ?_ GE102.out) | exact HB.out)⟩⟩
  case round =>
    clear H'
    try clear p2
    try clear c5
    try clear hcz6_0
    try clear hcz6_1
    try clear hcz6_2
    try clear hfz6_0
    try clear hfz6_1
    try clear hfz6_2
    obtain ⟨x8_1, x103000_1, rfl, HA, HK1, BK101, BK102, HB⟩ := hrel
    cases gk with
    | zero => exact absurd HA.out (by simp [bitset_digits.l0])
    | succ k1 =>
      have H := HA.out
      clear HA
      simp only [bitset_digits.l0] at H
      have HC7 := Aside0.mk H
      clear H
      go_upto_region 3 with (fail)
      go_cut [27] (fun v27 wc => ∃ (kq : Nat) (x27_6 : Bool), v27 = .bool x27_6 ∧ Aside0 (bitset_digits.j1 kq a0 a1 x8_1 x27_6 x103000_1 a1 false = some (r1, r2, r3, r4, r5)) ∧ Aside0 (kq ≤ k1) ∧ Aside0 (wc.heap[gb101]? = some (.cells #[.int .i64 0, .int .i64 0, .bool false] 95 (0, 0))) ∧ Aside0 (wc.heap[gb102]? = some (.cells #[.int .i64 x103000_1, .int .i64 a1, .bool false] 95 (0, 0))) ∧ Aside0 (Below w.heap.size w wc))
      case first =>
        have H := HC7.out
        clear HC7
        by_cases c8 : x8_1 < (a0.size : Int)
        · rw [if_pos c8] at H
          have c8b0 : decide (x8_1 < (a0.size : Int)) = true := decide_eq_true c8
          clear c8
          (first | rw [c8b0] | (simp only [i64_w, i32_w]; rw [c8b0]) | skip)
          by_cases c9 : 0 ≤ x8_1
          · rw [if_pos c9] at H
            have c9b0 : decide (0 ≤ x8_1) = true := decide_eq_true c9
            clear c9
            by_cases c11 : (bt a0 x8_1) ≥ 48
            · rw [if_pos c11] at H
              have c11b0 : decide (48 ≤ (bt a0 x8_1)) = true := decide_eq_true c11
              clear c11
              have H' := Aside0.mk H
              clear H
              have p10 : 0 ≤ (x8_1 : Int) := of_decide_eq_true (by first | (with_reducible assumption) | assumption)
              have q10 : x8_1 < (a0.size : Int) := of_decide_eq_true (by first | (with_reducible assumption) | assumption)
              have hx10 := bt_at a0 x8_1
              replace p10 := eq_true p10
              replace q10 := eq_true q10
              have p12 : 0 ≤ (x8_1 : Int) := of_decide_eq_true (by first | (with_reducible assumption) | assumption)
              have q12 : x8_1 < (a0.size : Int) := of_decide_eq_true (by first | (with_reducible assumption) | assumption)
              have hx12 := bt_at a0 x8_1
              replace p12 := eq_true p12
              replace q12 := eq_true q12
              go_wp2
              go_meet
              case rel => exact ⟨_, (decide ((bt a0 x8_1) ≤ 57)), (by first | rfl | (simp; done) | (simp [*]; done)), H', ⟨by have := HK1.out; first | omega | exact Nat.le_refl _⟩, ⟨by (with_reducible repeat (first | refine blk_drewN ?_ _ | refine blk_drew ?_ | refine blk_alloc ?_ _)); exact BK101.out⟩, ⟨by (with_reducible repeat (first | refine blk_drewN ?_ _ | refine blk_drew ?_ | refine blk_alloc ?_ _)); exact BK102.out⟩, ⟨by repeat (first | (with_reducible first | exact HB.out | apply below_alloc | apply pw_below_drewN | apply below_drew1 | refine below_set ?_ GE101.out | refine below_set ?_ GE102.out) | exact HB.out)⟩⟩
            · rw [if_neg c11] at H
              have c11b0 : decide (48 ≤ (bt a0 x8_1)) = false := decide_eq_false c11
              clear c11
              have H' := Aside0.mk H
              clear H
              have p10 : 0 ≤ (x8_1 : Int) := of_decide_eq_true (by first | (with_reducible assumption) | assumption)
              have q10 : x8_1 < (a0.size : Int) := of_decide_eq_true (by first | (with_reducible assumption) | assumption)
              have hx10 := bt_at a0 x8_1
              replace p10 := eq_true p10
              replace q10 := eq_true q10
              go_wp2
              go_meet
              case rel => exact ⟨_, (false), (by first | rfl | (simp; done) | (simp [*]; done)), H', ⟨by have := HK1.out; first | omega | exact Nat.le_refl _⟩, ⟨by (with_reducible repeat (first | refine blk_drewN ?_ _ | refine blk_drew ?_ | refine blk_alloc ?_ _)); exact BK101.out⟩, ⟨by (with_reducible repeat (first | refine blk_drewN ?_ _ | refine blk_drew ?_ | refine blk_alloc ?_ _)); exact BK102.out⟩, ⟨by repeat (first | (with_reducible first | exact HB.out | apply below_alloc | apply pw_below_drewN | apply below_drew1 | refine below_set ?_ GE101.out | refine below_set ?_ GE102.out) | exact HB.out)⟩⟩
          · rw [if_neg c9] at H
            exact absurd H (by simp)
        · rw [if_neg c8] at H
          have c8b0 : decide (x8_1 < (a0.size : Int)) = false := decide_eq_false c8
          clear c8
          (first | rw [c8b0] | (simp only [i64_w, i32_w]; rw [c8b0]) | skip)
          have H' := Aside0.mk H
          clear H
          go_wp2
          go_meet
          case rel => exact ⟨_, (false), (by first | rfl | (simp; done) | (simp [*]; done)), H', ⟨by have := HK1.out; first | omega | exact Nat.le_refl _⟩, ⟨by (with_reducible repeat (first | refine blk_drewN ?_ _ | refine blk_drew ?_ | refine blk_alloc ?_ _)); exact BK101.out⟩, ⟨by (with_reducible repeat (first | refine blk_drewN ?_ _ | refine blk_drew ?_ | refine blk_alloc ?_ _)); exact BK102.out⟩, ⟨by repeat (first | (with_reducible first | exact HB.out | apply below_alloc | apply pw_below_drewN | apply below_drew1 | refine below_set ?_ GE101.out | refine below_set ?_ GE102.out) | exact HB.out)⟩⟩
      case rest =>
        clear HC7
        try clear c1
        try clear p1
        try clear q1
        try clear hx1
        try clear p2
        try clear c5
        try clear c8
        try clear c8b0
        try clear c9
        try clear c9b0
        try clear p10
        try clear q10
        try clear hx10
        try clear c11
        try clear c11b0
        try clear p12
        try clear q12
        try clear hx12
        try clear hcz6_0
        try clear hcz6_1
        try clear hcz6_2
        try clear hfz6_0
        try clear hfz6_1
        try clear hfz6_2
        try clear p10
        try clear p12
        try clear p2
        try clear q10
        try clear q12
        obtain ⟨kq, x27_6, rfl, HA, HJ6, BK101, BK102, HB⟩ := hcut
        cases kq with
        | zero => exact absurd HA.out (by simp [bitset_digits.j1])
        | succ kj6 =>
          have H := HA.out
          clear HA
          simp only [bitset_digits.j1] at H
          by_cases c13 : x27_6 = true
          · subst c13
            have H1 : (if 0 ≤ x8_1 then (if x8_1 < (a0.size : Int) then (if (wrap64 (x8_1 + 1)) = (wrap64 (a1 + 1)) then (if 0 ≤ a1 then (if a1 < (a0.size : Int) then (if (bt a0 a1) = 48 then (some (mn (wrap64 ((wrap64 (x103000_1 * 10)) + (((bt a0 x8_1) - 48) % 256))) 1048576, a1, false, wrap64 (x8_1 + 1), decide ((wrap64 (x8_1 + 1)) > a1))) else (bitset_digits.l0 kj6 a0 a1 (wrap64 (x8_1 + 1)) (mn (wrap64 ((wrap64 (x103000_1 * 10)) + (((bt a0 x8_1) - 48) % 256))) 1048576) a1 false)) else (none)) else (none)) else (bitset_digits.l0 kj6 a0 a1 (wrap64 (x8_1 + 1)) (mn (wrap64 ((wrap64 (x103000_1 * 10)) + (((bt a0 x8_1) - 48) % 256))) 1048576) a1 false)) else (none)) else (none)) = some (r1, r2, r3, r4, r5) := by rw [if_pos rfl] at H; exact H
            clear H
            have H := H1
            clear H1
            by_cases c14 : 0 ≤ x8_1
            · rw [if_pos c14] at H
              have c14b0 : decide (0 ≤ x8_1) = true := decide_eq_true c14
              clear c14
              by_cases c15 : x8_1 < (a0.size : Int)
              · rw [if_pos c15] at H
                have c15b0 : decide (x8_1 < (a0.size : Int)) = true := decide_eq_true c15
                clear c15
                obtain ⟨ji17, hji17⟩ : ∃ j_ : Int, (mn (wrap64 ((wrap64 (x103000_1 * 10)) + (((bt a0 x8_1) - 48) % 256))) 1048576) = j_ := ⟨_, rfl⟩
                replace H : (if (wrap64 (x8_1 + 1)) = (wrap64 (a1 + 1)) then (if 0 ≤ a1 then (if a1 < (a0.size : Int) then (if (bt a0 a1) = 48 then (some (ji17, a1, false, wrap64 (x8_1 + 1), decide ((wrap64 (x8_1 + 1)) > a1))) else (bitset_digits.l0 kj6 a0 a1 (wrap64 (x8_1 + 1)) ji17 a1 false)) else (none)) else (none)) else (bitset_digits.l0 kj6 a0 a1 (wrap64 (x8_1 + 1)) ji17 a1 false)) = some (r1, r2, r3, r4, r5) := by first | (rw [hji17] at H; exact H) | (simp only [hji17] at H ⊢; exact H)
                (try (have hji17h : ji17 ≤ 1048576 := by (rw [← hji17]; unfold mn; (repeat' split) <;> omega)))
                (try (have hji17g : ji17 ≤ 64 := by omega))
                have hji17_ : (if 1048576 < (wrap64 ((wrap64 (x103000_1 * 10)) + (((bt a0 x8_1) - 48) % 256))) then 1048576 else (wrap64 ((wrap64 (x103000_1 * 10)) + (((bt a0 x8_1) - 48) % 256)))) = ji17 := hji17
                by_cases c18 : (wrap64 (x8_1 + 1)) = (wrap64 (a1 + 1))
                · rw [if_pos c18] at H
                  have c18b0 : ((wrap64 (x8_1 + 1)) == (wrap64 (a1 + 1))) = true := beq_iff_eq.mpr c18
                  have c18b1 : ((wrap64 (x8_1 + 1)) != (wrap64 (a1 + 1))) = false := bne_eq_false_iff_eq.mpr c18
                  clear c18
                  by_cases c19 : 0 ≤ a1
                  · rw [if_pos c19] at H
                    have c19b0 : decide (0 ≤ a1) = true := decide_eq_true c19
                    clear c19
                    by_cases c20 : a1 < (a0.size : Int)
                    · rw [if_pos c20] at H
                      have c20b0 : decide (a1 < (a0.size : Int)) = true := decide_eq_true c20
                      clear c20
                      by_cases c22 : (bt a0 a1) = 48
                      · rw [if_pos c22] at H
                        have c22b0 : ((bt a0 a1) == 48) = true := beq_iff_eq.mpr c22
                        have c22b1 : ((bt a0 a1) != 48) = false := bne_eq_false_iff_eq.mpr c22
                        clear c22
                        simp only [Option.some.injEq, Prod.mk.injEq] at H
                        obtain ⟨rfl, rfl, rfl, rfl, rfl⟩ := H
                        try go_wp2
                        have n0_ := Aside0.mk (blk_drew BK101.out)
                        have n1_ := Aside0.mk (blk_drew BK102.out)
                        have n2_ := Aside0.mk (below_drew1 HB.out)
                        clear BK101
                        clear BK102
                        clear HB
                        have BK101 := n0_
                        have BK102 := n1_
                        have HB := n2_
                        clear n0_ n1_ n2_
                        have p16 : 0 ≤ (x8_1 : Int) := of_decide_eq_true (by first | (with_reducible assumption) | assumption)
                        have q16 : x8_1 < (a0.size : Int) := of_decide_eq_true (by first | (with_reducible assumption) | assumption)
                        have hx16 := bt_at a0 x8_1
                        replace p16 := eq_true p16
                        replace q16 := eq_true q16
                        refine start_ (n := 12) (S := fun w' => w'.cell? ⟨gb102, 0, none⟩ = some (.int .i64 x103000_1) ∧ w'.cell? ⟨gb102, 1, none⟩ = some (.int .i64 a1) ∧ w'.cell? ⟨gb102, 2, none⟩ = some (.bool false)) (ds := [11]) #[false, false, false, false, false, false, false, false, false, false, false, false] (by kernel_rfl) rfl rfl ⟨(blk_cell BK102.out 0).trans rfl, (blk_cell BK102.out 1).trans rfl, (blk_cell BK102.out 2).trans rfl⟩ (fun hHeld => ?_); refine with_tabW bitset_digits.tab4 bitset_digits.bits4 (fun HT_ HW_ => ?_)
                        generalize wc.drew = w23 at BK101 BK102 HB hHeld ⊢
                        refine pure_ (i := 0) (N := some 28) (v := ?_) (a' := ?_) #[true, false, false, false, false, false, false, false, false, false, false, false] rfl rfl (any_of HT_.out (by kernel_rfl)) (fun _ _ _ h => h) (Or.inl ⟨by rfl, ?_⟩) ?_ ?_
                        rotate_left
                        · intro w'
                          go_simp
                          with_reducible rfl
                        rotate_left
                        · simp only [Act.put, List.setIfInBounds_toArray, List.set_cons_zero, List.set_cons_succ, i64_w, i32_w]
                          rfl
                        refine pure_ (i := 3) (N := some 31) (v := ?_) (a' := ?_) #[true, false, false, true, false, false, false, false, false, false, false, false] rfl rfl (any_of HT_.out (by kernel_rfl)) (fun _ _ _ h => h) (Or.inl ⟨by rfl, ?_⟩) ?_ ?_
                        rotate_left
                        · intro w'
                          go_simp
                          with_reducible rfl
                        rotate_left
                        · simp only [Act.put, List.setIfInBounds_toArray, List.set_cons_zero, List.set_cons_succ, i64_w, i32_w]
                          rfl
                        refine pure_ (i := 4) (N := some 32) (v := ?_) (a' := ?_) #[true, false, false, true, true, false, false, false, false, false, false, false] rfl rfl (any_of HT_.out (by kernel_rfl)) (fun _ _ _ h => h) (Or.inl ⟨by rfl, ?_⟩) ?_ ?_
                        rotate_left
                        · intro w'
                          go_simp
                          with_reducible rfl
                        rotate_left
                        · simp only [Act.put, List.setIfInBounds_toArray, List.set_cons_zero, List.set_cons_succ, i64_w, i32_w]
                          rfl
                        refine take_ (i := 1) (N := some 29) (v := ?_) (a' := ?_) #[true, true, false, true, true, false, false, false, false, false, false, false] rfl rfl (take_ofW HT_.out HW_.out (by kernel_rfl)) (fun _ _ _ h => h) (Or.inl ⟨by rfl, ?_⟩) hHeld ?_ ?_
                        rotate_left
                        · rintro w' ⟨s0, s1, s2⟩
                          go_simp
                          with_reducible rfl
                        rotate_left
                        · simp only [Act.put, List.setIfInBounds_toArray, List.set_cons_zero, List.set_cons_succ, i64_w, i32_w]
                          rfl
                        refine pure_ (i := 2) (N := some 30) (v := ?_) (a' := ?_) #[true, true, true, true, true, false, false, false, false, false, false, false] rfl rfl (any_of HT_.out (by kernel_rfl)) (fun _ _ _ h => h) (Or.inl ⟨by rfl, ?_⟩) ?_ ?_
                        rotate_left
                        · intro w'
                          go_simp
                          with_reducible rfl
                        rotate_left
                        · simp only [Act.put, List.setIfInBounds_toArray, List.set_cons_zero, List.set_cons_succ, i64_w, i32_w]
                          rfl
                        refine take_ (i := 5) (N := some 33) (v := ?_) (a' := ?_) #[true, true, true, true, true, true, false, false, false, false, false, false] rfl rfl (take_ofW HT_.out HW_.out (by kernel_rfl)) (fun _ _ _ h => h) (Or.inl ⟨by rfl, ?_⟩) hHeld ?_ ?_
                        rotate_left
                        · rintro w' ⟨s0, s1, s2⟩
                          go_simp
                          with_reducible rfl
                        rotate_left
                        · simp only [Act.put, List.setIfInBounds_toArray, List.set_cons_zero, List.set_cons_succ, i64_w, i32_w]
                          rfl
                        refine pure_ (i := 6) (N := some 34) (v := ?_) (a' := ?_) #[true, true, true, true, true, true, true, false, false, false, false, false] rfl rfl (any_of HT_.out (by kernel_rfl)) (fun _ _ _ h => h) (Or.inl ⟨by rfl, ?_⟩) ?_ ?_
                        rotate_left
                        · intro w'
                          go_simp
                          with_reducible rfl
                        rotate_left
                        · simp only [Act.put, List.setIfInBounds_toArray, List.set_cons_zero, List.set_cons_succ, i64_w, i32_w]
                          rfl
                        refine pure_ (i := 7) (N := some 35) (v := ?_) (a' := ?_) #[true, true, true, true, true, true, true, true, false, false, false, false] rfl rfl (any_of HT_.out (by kernel_rfl)) (fun _ _ _ h => h) (Or.inl ⟨by rfl, ?_⟩) ?_ ?_
                        rotate_left
                        · intro w'
                          go_simp
                          with_reducible rfl
                        rotate_left
                        · simp only [Act.put, List.setIfInBounds_toArray, List.set_cons_zero, List.set_cons_succ, i64_w, i32_w]
                          rfl
                        refine pure_ (i := 8) (N := some 36) (v := ?_) (a' := ?_) #[true, true, true, true, true, true, true, true, true, false, false, false] rfl rfl (any_of HT_.out (by kernel_rfl)) (fun _ _ _ h => h) (Or.inl ⟨by rfl, ?_⟩) ?_ ?_
                        rotate_left
                        · intro w'
                          go_simp
                          with_reducible rfl
                        rotate_left
                        · simp only [Act.put, List.setIfInBounds_toArray, List.set_cons_zero, List.set_cons_succ, i64_w, i32_w]
                          rfl
                        refine pure_ (i := 9) (N := some 37) (v := ?_) (a' := ?_) #[true, true, true, true, true, true, true, true, true, true, false, false] rfl rfl (any_of HT_.out (by kernel_rfl)) (fun _ _ _ h => h) (Or.inl ⟨by rfl, ?_⟩) ?_ ?_
                        rotate_left
                        · intro w'
                          go_simp
                          with_reducible rfl
                        rotate_left
                        · simp only [Act.put, List.setIfInBounds_toArray, List.set_cons_zero, List.set_cons_succ, i64_w, i32_w]
                          rfl
                        refine pure_ (i := 10) (N := some 38) (v := ?_) (a' := ?_) #[true, true, true, true, true, true, true, true, true, true, true, false] rfl rfl (any_of HT_.out (by kernel_rfl)) (fun _ _ _ h => h) (Or.inl ⟨by rfl, ?_⟩) ?_ ?_
                        rotate_left
                        · intro w'
                          go_simp
                          with_reducible rfl
                        rotate_left
                        · simp only [Act.put, List.setIfInBounds_toArray, List.set_cons_zero, List.set_cons_succ, i64_w, i32_w]
                          rfl
                        refine last_ (i := 11) (N := none) #[true, true, true, true, true, true, true, true, true, true, true, true] rfl rfl (one_of HT_.out (by kernel_rfl)) (by decide) (fun K hK => ?_)
                        have hs24 : w23.cell? ⟨gb102, 0, none⟩ = some (.int .i64 x103000_1) := (blk_cell BK102.out 0).trans rfl
                        have hfs24 := blk_frozen BK102.out 0
                        have hns24_0 := NB101_102.out
                        have hms24_0 := NB102_101.out
                        refine skip_ (w1 := ?_) (by rfl) rfl ?_ ?_
                        rotate_left
                        · go_simp
                          rfl
                        refine hK.out _ _ ?_
                        clear hK K
                        refine done_ (done_of HT_.out (by kernel_rfl)) ?_
                        have p21 : 0 ≤ (a1 : Int) := of_decide_eq_true (by first | (with_reducible assumption) | assumption)
                        have q21 : a1 < (a0.size : Int) := of_decide_eq_true (by first | (with_reducible assumption) | assumption)
                        have hx21 := bt_at a0 a1
                        replace p21 := eq_true p21
                        replace q21 := eq_true q21
                        have hnb25 := NB102_101.out
                        have hnc25 := NB101_102.out
                        have hcz26_0 : w23.cell? ⟨gb102, 0, none⟩ = some (.int .i64 x103000_1) := (blk_cell BK102.out 0).trans rfl
                        have hcz26_1 : w23.cell? ⟨gb102, 1, none⟩ = some (.int .i64 a1) := (blk_cell BK102.out 1).trans rfl
                        have hcz26_2 : w23.cell? ⟨gb102, 2, none⟩ = some (.bool false) := (blk_cell BK102.out 2).trans rfl
                        have hfz26_0 := blk_frozen BK102.out 0
                        have hfz26_1 := blk_frozen BK102.out 1
                        have hfz26_2 := blk_frozen BK102.out 2
                        have hcz27_0 : w23.cell? ⟨gb101, 0, none⟩ = some (.int .i64 0) := (blk_cell BK101.out 0).trans rfl
                        have hcz27_1 : w23.cell? ⟨gb101, 1, none⟩ = some (.int .i64 0) := (blk_cell BK101.out 1).trans rfl
                        have hcz27_2 : w23.cell? ⟨gb101, 2, none⟩ = some (.bool false) := (blk_cell BK101.out 2).trans rfl
                        have hfz27_0 := blk_frozen BK101.out 0
                        have hfz27_1 := blk_frozen BK101.out 1
                        have hfz27_2 := blk_frozen BK101.out 2
                        try go_wp2
                        refine bodyPost_ret (results_ctt rfl _ _ gb101 95 #[.int .i64 ji17, .int .i64 a1, .bool false] (0, 0) _ rfl (by (with_reducible repeat (first | refine blk_drewN ?_ _ | refine blk_drew ?_ | refine blk_alloc ?_ _)); refine blk_put (cs := #[.int .i64 ji17, .int .i64 a1, .bool false]) ?_ 2 _ rfl; (with_reducible repeat (first | refine blk_drewN ?_ _ | refine blk_drew ?_ | refine blk_alloc ?_ _)); refine blk_put (cs := #[.int .i64 ji17, .int .i64 0, .bool false]) ?_ 1 _ rfl; (with_reducible repeat (first | refine blk_drewN ?_ _ | refine blk_drew ?_ | refine blk_alloc ?_ _)); refine blk_put (cs := #[.int .i64 0, .int .i64 0, .bool false]) ?_ 0 _ rfl; (with_reducible repeat (first | refine blk_drewN ?_ _ | refine blk_drew ?_ | refine blk_alloc ?_ _)); refine blk_far ?_ NB101_102.out _; (with_reducible repeat (first | refine blk_drewN ?_ _ | refine blk_drew ?_ | refine blk_alloc ?_ _)); exact BK101.out) Try.underlying95 rfl (by kernel_rfl)) rfl ?_
                        exact ⟨by first | rfl | (simp [errW_none, errW_some] <;> rfl) | (simp only [← hji17]; first | rfl | (simp [errW_none, errW_some] <;> rfl)) | (simp [*, errW_none, errW_some] <;> rfl), by repeat (first | (with_reducible first | exact HB.out | apply below_alloc | apply pw_below_drewN | apply below_drew1 | refine below_set ?_ GE101.out | refine below_set ?_ GE102.out) | exact HB.out)⟩
                      · rw [if_neg c22] at H
                        have c22b0 : ((bt a0 a1) == 48) = false := beq_eq_false_iff_ne.mpr c22
                        have c22b1 : ((bt a0 a1) != 48) = true := bne_iff_ne.mpr c22
                        have H' := Aside0.mk H
                        clear H
                        try go_wp2
                        have n0_ := Aside0.mk (blk_drew BK101.out)
                        have n1_ := Aside0.mk (blk_drew BK102.out)
                        have n2_ := Aside0.mk (below_drew1 HB.out)
                        clear BK101
                        clear BK102
                        clear HB
                        have BK101 := n0_
                        have BK102 := n1_
                        have HB := n2_
                        clear n0_ n1_ n2_
                        have p16 : 0 ≤ (x8_1 : Int) := of_decide_eq_true (by first | (with_reducible assumption) | assumption)
                        have q16 : x8_1 < (a0.size : Int) := of_decide_eq_true (by first | (with_reducible assumption) | assumption)
                        have hx16 := bt_at a0 x8_1
                        replace p16 := eq_true p16
                        replace q16 := eq_true q16
                        refine start_ (n := 12) (S := fun w' => w'.cell? ⟨gb102, 0, none⟩ = some (.int .i64 x103000_1) ∧ w'.cell? ⟨gb102, 1, none⟩ = some (.int .i64 a1) ∧ w'.cell? ⟨gb102, 2, none⟩ = some (.bool false)) (ds := [11]) #[false, false, false, false, false, false, false, false, false, false, false, false] (by kernel_rfl) rfl rfl ⟨(blk_cell BK102.out 0).trans rfl, (blk_cell BK102.out 1).trans rfl, (blk_cell BK102.out 2).trans rfl⟩ (fun hHeld => ?_); refine with_tabW bitset_digits.tab4 bitset_digits.bits4 (fun HT_ HW_ => ?_)
                        generalize wc.drew = w28 at BK101 BK102 HB hHeld ⊢
                        refine pure_ (i := 0) (N := some 28) (v := ?_) (a' := ?_) #[true, false, false, false, false, false, false, false, false, false, false, false] rfl rfl (any_of HT_.out (by kernel_rfl)) (fun _ _ _ h => h) (Or.inl ⟨by rfl, ?_⟩) ?_ ?_
                        rotate_left
                        · intro w'
                          go_simp
                          with_reducible rfl
                        rotate_left
                        · simp only [Act.put, List.setIfInBounds_toArray, List.set_cons_zero, List.set_cons_succ, i64_w, i32_w]
                          rfl
                        refine pure_ (i := 3) (N := some 31) (v := ?_) (a' := ?_) #[true, false, false, true, false, false, false, false, false, false, false, false] rfl rfl (any_of HT_.out (by kernel_rfl)) (fun _ _ _ h => h) (Or.inl ⟨by rfl, ?_⟩) ?_ ?_
                        rotate_left
                        · intro w'
                          go_simp
                          with_reducible rfl
                        rotate_left
                        · simp only [Act.put, List.setIfInBounds_toArray, List.set_cons_zero, List.set_cons_succ, i64_w, i32_w]
                          rfl
                        refine pure_ (i := 4) (N := some 32) (v := ?_) (a' := ?_) #[true, false, false, true, true, false, false, false, false, false, false, false] rfl rfl (any_of HT_.out (by kernel_rfl)) (fun _ _ _ h => h) (Or.inl ⟨by rfl, ?_⟩) ?_ ?_
                        rotate_left
                        · intro w'
                          go_simp
                          with_reducible rfl
                        rotate_left
                        · simp only [Act.put, List.setIfInBounds_toArray, List.set_cons_zero, List.set_cons_succ, i64_w, i32_w]
                          rfl
                        refine take_ (i := 1) (N := some 29) (v := ?_) (a' := ?_) #[true, true, false, true, true, false, false, false, false, false, false, false] rfl rfl (take_ofW HT_.out HW_.out (by kernel_rfl)) (fun _ _ _ h => h) (Or.inl ⟨by rfl, ?_⟩) hHeld ?_ ?_
                        rotate_left
                        · rintro w' ⟨s0, s1, s2⟩
                          go_simp
                          with_reducible rfl
                        rotate_left
                        · simp only [Act.put, List.setIfInBounds_toArray, List.set_cons_zero, List.set_cons_succ, i64_w, i32_w]
                          rfl
                        refine pure_ (i := 2) (N := some 30) (v := ?_) (a' := ?_) #[true, true, true, true, true, false, false, false, false, false, false, false] rfl rfl (any_of HT_.out (by kernel_rfl)) (fun _ _ _ h => h) (Or.inl ⟨by rfl, ?_⟩) ?_ ?_
                        rotate_left
                        · intro w'
                          go_simp
                          with_reducible rfl
                        rotate_left
                        · simp only [Act.put, List.setIfInBounds_toArray, List.set_cons_zero, List.set_cons_succ, i64_w, i32_w]
                          rfl
                        refine take_ (i := 5) (N := some 33) (v := ?_) (a' := ?_) #[true, true, true, true, true, true, false, false, false, false, false, false] rfl rfl (take_ofW HT_.out HW_.out (by kernel_rfl)) (fun _ _ _ h => h) (Or.inl ⟨by rfl, ?_⟩) hHeld ?_ ?_
                        rotate_left
                        · rintro w' ⟨s0, s1, s2⟩
                          go_simp
                          with_reducible rfl
                        rotate_left
                        · simp only [Act.put, List.setIfInBounds_toArray, List.set_cons_zero, List.set_cons_succ, i64_w, i32_w]
                          rfl
                        refine pure_ (i := 6) (N := some 34) (v := ?_) (a' := ?_) #[true, true, true, true, true, true, true, false, false, false, false, false] rfl rfl (any_of HT_.out (by kernel_rfl)) (fun _ _ _ h => h) (Or.inl ⟨by rfl, ?_⟩) ?_ ?_
                        rotate_left
                        · intro w'
                          go_simp
                          with_reducible rfl
                        rotate_left
                        · simp only [Act.put, List.setIfInBounds_toArray, List.set_cons_zero, List.set_cons_succ, i64_w, i32_w]
                          rfl
                        refine pure_ (i := 7) (N := some 35) (v := ?_) (a' := ?_) #[true, true, true, true, true, true, true, true, false, false, false, false] rfl rfl (any_of HT_.out (by kernel_rfl)) (fun _ _ _ h => h) (Or.inl ⟨by rfl, ?_⟩) ?_ ?_
                        rotate_left
                        · intro w'
                          go_simp
                          with_reducible rfl
                        rotate_left
                        · simp only [Act.put, List.setIfInBounds_toArray, List.set_cons_zero, List.set_cons_succ, i64_w, i32_w]
                          rfl
                        refine pure_ (i := 8) (N := some 36) (v := ?_) (a' := ?_) #[true, true, true, true, true, true, true, true, true, false, false, false] rfl rfl (any_of HT_.out (by kernel_rfl)) (fun _ _ _ h => h) (Or.inl ⟨by rfl, ?_⟩) ?_ ?_
                        rotate_left
                        · intro w'
                          go_simp
                          with_reducible rfl
                        rotate_left
                        · simp only [Act.put, List.setIfInBounds_toArray, List.set_cons_zero, List.set_cons_succ, i64_w, i32_w]
                          rfl
                        refine pure_ (i := 9) (N := some 37) (v := ?_) (a' := ?_) #[true, true, true, true, true, true, true, true, true, true, false, false] rfl rfl (any_of HT_.out (by kernel_rfl)) (fun _ _ _ h => h) (Or.inl ⟨by rfl, ?_⟩) ?_ ?_
                        rotate_left
                        · intro w'
                          go_simp
                          with_reducible rfl
                        rotate_left
                        · simp only [Act.put, List.setIfInBounds_toArray, List.set_cons_zero, List.set_cons_succ, i64_w, i32_w]
                          rfl
                        refine pure_ (i := 10) (N := some 38) (v := ?_) (a' := ?_) #[true, true, true, true, true, true, true, true, true, true, true, false] rfl rfl (any_of HT_.out (by kernel_rfl)) (fun _ _ _ h => h) (Or.inl ⟨by rfl, ?_⟩) ?_ ?_
                        rotate_left
                        · intro w'
                          go_simp
                          with_reducible rfl
                        rotate_left
                        · simp only [Act.put, List.setIfInBounds_toArray, List.set_cons_zero, List.set_cons_succ, i64_w, i32_w]
                          rfl
                        refine last_ (i := 11) (N := none) #[true, true, true, true, true, true, true, true, true, true, true, true] rfl rfl (one_of HT_.out (by kernel_rfl)) (by decide) (fun K hK => ?_)
                        have hs29 : w28.cell? ⟨gb102, 0, none⟩ = some (.int .i64 x103000_1) := (blk_cell BK102.out 0).trans rfl
                        have hfs29 := blk_frozen BK102.out 0
                        have hns29_0 := NB101_102.out
                        have hms29_0 := NB102_101.out
                        refine skip_ (w1 := ?_) (by rfl) rfl ?_ ?_
                        rotate_left
                        · go_simp
                          rfl
                        refine hK.out _ _ ?_
                        clear hK K
                        refine done_ (done_of HT_.out (by kernel_rfl)) ?_
                        have p21 : 0 ≤ (a1 : Int) := of_decide_eq_true (by first | (with_reducible assumption) | assumption)
                        have q21 : a1 < (a0.size : Int) := of_decide_eq_true (by first | (with_reducible assumption) | assumption)
                        have hx21 := bt_at a0 a1
                        replace p21 := eq_true p21
                        replace q21 := eq_true q21
                        try go_wp2
                        go_roundg kj6
                        case measure => have := HK1.out; have := HJ6.out; omega
                        case rel => exact ⟨(wrap64 (x8_1 + 1)), (ji17), (by first | rfl | (simp; done) | (simp [*]; done)), H', ⟨by have := HK1.out; have := HJ6.out; omega⟩, ⟨by (with_reducible repeat (first | refine blk_drewN ?_ _ | refine blk_drew ?_ | refine blk_alloc ?_ _)); refine blk_far ?_ NB101_102.out _; (with_reducible repeat (first | refine blk_drewN ?_ _ | refine blk_drew ?_ | refine blk_alloc ?_ _)); exact BK101.out⟩, ⟨by (with_reducible repeat (first | refine blk_drewN ?_ _ | refine blk_drew ?_ | refine blk_alloc ?_ _)); refine blk_put (cs := #[.int .i64 x103000_1, .int .i64 a1, .bool false]) ?_ 0 _ rfl; (with_reducible repeat (first | refine blk_drewN ?_ _ | refine blk_drew ?_ | refine blk_alloc ?_ _)); exact BK102.out⟩, ⟨by repeat (first | (with_reducible first | exact HB.out | apply below_alloc | apply pw_below_drewN | apply below_drew1 | refine below_set ?_ GE101.out | refine below_set ?_ GE102.out) | exact HB.out)⟩⟩
                    · rw [if_neg c20] at H
                      exact absurd H (by simp)
                  · rw [if_neg c19] at H
                    exact absurd H (by simp)
                · rw [if_neg c18] at H
                  have c18b0 : ((wrap64 (x8_1 + 1)) == (wrap64 (a1 + 1))) = false := beq_eq_false_iff_ne.mpr c18
                  have c18b1 : ((wrap64 (x8_1 + 1)) != (wrap64 (a1 + 1))) = true := bne_iff_ne.mpr c18
                  have H' := Aside0.mk H
                  clear H
                  try go_wp2
                  have n0_ := Aside0.mk (blk_drew BK101.out)
                  have n1_ := Aside0.mk (blk_drew BK102.out)
                  have n2_ := Aside0.mk (below_drew1 HB.out)
                  clear BK101
                  clear BK102
                  clear HB
                  have BK101 := n0_
                  have BK102 := n1_
                  have HB := n2_
                  clear n0_ n1_ n2_
                  have p16 : 0 ≤ (x8_1 : Int) := of_decide_eq_true (by first | (with_reducible assumption) | assumption)
                  have q16 : x8_1 < (a0.size : Int) := of_decide_eq_true (by first | (with_reducible assumption) | assumption)
                  have hx16 := bt_at a0 x8_1
                  replace p16 := eq_true p16
                  replace q16 := eq_true q16
                  refine start_ (n := 12) (S := fun w' => w'.cell? ⟨gb102, 0, none⟩ = some (.int .i64 x103000_1) ∧ w'.cell? ⟨gb102, 1, none⟩ = some (.int .i64 a1) ∧ w'.cell? ⟨gb102, 2, none⟩ = some (.bool false)) (ds := [11]) #[false, false, false, false, false, false, false, false, false, false, false, false] (by kernel_rfl) rfl rfl ⟨(blk_cell BK102.out 0).trans rfl, (blk_cell BK102.out 1).trans rfl, (blk_cell BK102.out 2).trans rfl⟩ (fun hHeld => ?_); refine with_tabW bitset_digits.tab4 bitset_digits.bits4 (fun HT_ HW_ => ?_)
                  generalize wc.drew = w30 at BK101 BK102 HB hHeld ⊢
                  refine pure_ (i := 0) (N := some 28) (v := ?_) (a' := ?_) #[true, false, false, false, false, false, false, false, false, false, false, false] rfl rfl (any_of HT_.out (by kernel_rfl)) (fun _ _ _ h => h) (Or.inl ⟨by rfl, ?_⟩) ?_ ?_
                  rotate_left
                  · intro w'
                    go_simp
                    with_reducible rfl
                  rotate_left
                  · simp only [Act.put, List.setIfInBounds_toArray, List.set_cons_zero, List.set_cons_succ, i64_w, i32_w]
                    rfl
                  refine pure_ (i := 3) (N := some 31) (v := ?_) (a' := ?_) #[true, false, false, true, false, false, false, false, false, false, false, false] rfl rfl (any_of HT_.out (by kernel_rfl)) (fun _ _ _ h => h) (Or.inl ⟨by rfl, ?_⟩) ?_ ?_
                  rotate_left
                  · intro w'
                    go_simp
                    with_reducible rfl
                  rotate_left
                  · simp only [Act.put, List.setIfInBounds_toArray, List.set_cons_zero, List.set_cons_succ, i64_w, i32_w]
                    rfl
                  refine pure_ (i := 4) (N := some 32) (v := ?_) (a' := ?_) #[true, false, false, true, true, false, false, false, false, false, false, false] rfl rfl (any_of HT_.out (by kernel_rfl)) (fun _ _ _ h => h) (Or.inl ⟨by rfl, ?_⟩) ?_ ?_
                  rotate_left
                  · intro w'
                    go_simp
                    with_reducible rfl
                  rotate_left
                  · simp only [Act.put, List.setIfInBounds_toArray, List.set_cons_zero, List.set_cons_succ, i64_w, i32_w]
                    rfl
                  refine take_ (i := 1) (N := some 29) (v := ?_) (a' := ?_) #[true, true, false, true, true, false, false, false, false, false, false, false] rfl rfl (take_ofW HT_.out HW_.out (by kernel_rfl)) (fun _ _ _ h => h) (Or.inl ⟨by rfl, ?_⟩) hHeld ?_ ?_
                  rotate_left
                  · rintro w' ⟨s0, s1, s2⟩
                    go_simp
                    with_reducible rfl
                  rotate_left
                  · simp only [Act.put, List.setIfInBounds_toArray, List.set_cons_zero, List.set_cons_succ, i64_w, i32_w]
                    rfl
                  refine pure_ (i := 2) (N := some 30) (v := ?_) (a' := ?_) #[true, true, true, true, true, false, false, false, false, false, false, false] rfl rfl (any_of HT_.out (by kernel_rfl)) (fun _ _ _ h => h) (Or.inl ⟨by rfl, ?_⟩) ?_ ?_
                  rotate_left
                  · intro w'
                    go_simp
                    with_reducible rfl
                  rotate_left
                  · simp only [Act.put, List.setIfInBounds_toArray, List.set_cons_zero, List.set_cons_succ, i64_w, i32_w]
                    rfl
                  refine take_ (i := 5) (N := some 33) (v := ?_) (a' := ?_) #[true, true, true, true, true, true, false, false, false, false, false, false] rfl rfl (take_ofW HT_.out HW_.out (by kernel_rfl)) (fun _ _ _ h => h) (Or.inl ⟨by rfl, ?_⟩) hHeld ?_ ?_
                  rotate_left
                  · rintro w' ⟨s0, s1, s2⟩
                    go_simp
                    with_reducible rfl
                  rotate_left
                  · simp only [Act.put, List.setIfInBounds_toArray, List.set_cons_zero, List.set_cons_succ, i64_w, i32_w]
                    rfl
                  refine pure_ (i := 6) (N := some 34) (v := ?_) (a' := ?_) #[true, true, true, true, true, true, true, false, false, false, false, false] rfl rfl (any_of HT_.out (by kernel_rfl)) (fun _ _ _ h => h) (Or.inl ⟨by rfl, ?_⟩) ?_ ?_
                  rotate_left
                  · intro w'
                    go_simp
                    with_reducible rfl
                  rotate_left
                  · simp only [Act.put, List.setIfInBounds_toArray, List.set_cons_zero, List.set_cons_succ, i64_w, i32_w]
                    rfl
                  refine pure_ (i := 7) (N := some 35) (v := ?_) (a' := ?_) #[true, true, true, true, true, true, true, true, false, false, false, false] rfl rfl (any_of HT_.out (by kernel_rfl)) (fun _ _ _ h => h) (Or.inl ⟨by rfl, ?_⟩) ?_ ?_
                  rotate_left
                  · intro w'
                    go_simp
                    with_reducible rfl
                  rotate_left
                  · simp only [Act.put, List.setIfInBounds_toArray, List.set_cons_zero, List.set_cons_succ, i64_w, i32_w]
                    rfl
                  refine pure_ (i := 8) (N := some 36) (v := ?_) (a' := ?_) #[true, true, true, true, true, true, true, true, true, false, false, false] rfl rfl (any_of HT_.out (by kernel_rfl)) (fun _ _ _ h => h) (Or.inl ⟨by rfl, ?_⟩) ?_ ?_
                  rotate_left
                  · intro w'
                    go_simp
                    with_reducible rfl
                  rotate_left
                  · simp only [Act.put, List.setIfInBounds_toArray, List.set_cons_zero, List.set_cons_succ, i64_w, i32_w]
                    rfl
                  refine pure_ (i := 9) (N := some 37) (v := ?_) (a' := ?_) #[true, true, true, true, true, true, true, true, true, true, false, false] rfl rfl (any_of HT_.out (by kernel_rfl)) (fun _ _ _ h => h) (Or.inl ⟨by rfl, ?_⟩) ?_ ?_
                  rotate_left
                  · intro w'
                    go_simp
                    with_reducible rfl
                  rotate_left
                  · simp only [Act.put, List.setIfInBounds_toArray, List.set_cons_zero, List.set_cons_succ, i64_w, i32_w]
                    rfl
                  refine pure_ (i := 10) (N := some 38) (v := ?_) (a' := ?_) #[true, true, true, true, true, true, true, true, true, true, true, false] rfl rfl (any_of HT_.out (by kernel_rfl)) (fun _ _ _ h => h) (Or.inl ⟨by rfl, ?_⟩) ?_ ?_
                  rotate_left
                  · intro w'
                    go_simp
                    with_reducible rfl
                  rotate_left
                  · simp only [Act.put, List.setIfInBounds_toArray, List.set_cons_zero, List.set_cons_succ, i64_w, i32_w]
                    rfl
                  refine last_ (i := 11) (N := none) #[true, true, true, true, true, true, true, true, true, true, true, true] rfl rfl (one_of HT_.out (by kernel_rfl)) (by decide) (fun K hK => ?_)
                  have hs31 : w30.cell? ⟨gb102, 0, none⟩ = some (.int .i64 x103000_1) := (blk_cell BK102.out 0).trans rfl
                  have hfs31 := blk_frozen BK102.out 0
                  have hns31_0 := NB101_102.out
                  have hms31_0 := NB102_101.out
                  refine skip_ (w1 := ?_) (by rfl) rfl ?_ ?_
                  rotate_left
                  · go_simp
                    rfl
                  refine hK.out _ _ ?_
                  clear hK K
                  refine done_ (done_of HT_.out (by kernel_rfl)) ?_
                  try go_wp2
                  go_roundg kj6
                  case measure => have := HK1.out; have := HJ6.out; omega
                  case rel => exact ⟨(wrap64 (x8_1 + 1)), (ji17), (by first | rfl | (simp; done) | (simp [*]; done)), H', ⟨by have := HK1.out; have := HJ6.out; omega⟩, ⟨by (with_reducible repeat (first | refine blk_drewN ?_ _ | refine blk_drew ?_ | refine blk_alloc ?_ _)); refine blk_far ?_ NB101_102.out _; (with_reducible repeat (first | refine blk_drewN ?_ _ | refine blk_drew ?_ | refine blk_alloc ?_ _)); exact BK101.out⟩, ⟨by (with_reducible repeat (first | refine blk_drewN ?_ _ | refine blk_drew ?_ | refine blk_alloc ?_ _)); refine blk_put (cs := #[.int .i64 x103000_1, .int .i64 a1, .bool false]) ?_ 0 _ rfl; (with_reducible repeat (first | refine blk_drewN ?_ _ | refine blk_drew ?_ | refine blk_alloc ?_ _)); exact BK102.out⟩, ⟨by repeat (first | (with_reducible first | exact HB.out | apply below_alloc | apply pw_below_drewN | apply below_drew1 | refine below_set ?_ GE101.out | refine below_set ?_ GE102.out) | exact HB.out)⟩⟩
              · rw [if_neg c15] at H
                exact absurd H (by simp)
            · rw [if_neg c14] at H
              exact absurd H (by simp)
          · replace c13 := Bool.eq_false_iff.mpr c13
            subst c13
            have H1 : (some (x103000_1, a1, false, x8_1, decide (x8_1 > a1))) = some (r1, r2, r3, r4, r5) := by rw [if_neg (show ¬ (false = true) by decide)] at H; exact H
            clear H
            have H := H1
            clear H1
            simp only [Option.some.injEq, Prod.mk.injEq] at H
            obtain ⟨rfl, rfl, rfl, rfl, rfl⟩ := H
            have hnb32 := NB102_101.out
            have hnc32 := NB101_102.out
            have hcz33_0 : wc.cell? ⟨gb102, 0, none⟩ = some (.int .i64 x103000_1) := (blk_cell BK102.out 0).trans rfl
            have hcz33_1 : wc.cell? ⟨gb102, 1, none⟩ = some (.int .i64 a1) := (blk_cell BK102.out 1).trans rfl
            have hcz33_2 : wc.cell? ⟨gb102, 2, none⟩ = some (.bool false) := (blk_cell BK102.out 2).trans rfl
            have hfz33_0 := blk_frozen BK102.out 0
            have hfz33_1 := blk_frozen BK102.out 1
            have hfz33_2 := blk_frozen BK102.out 2
            have hcz34_0 : wc.cell? ⟨gb101, 0, none⟩ = some (.int .i64 0) := (blk_cell BK101.out 0).trans rfl
            have hcz34_1 : wc.cell? ⟨gb101, 1, none⟩ = some (.int .i64 0) := (blk_cell BK101.out 1).trans rfl
            have hcz34_2 : wc.cell? ⟨gb101, 2, none⟩ = some (.bool false) := (blk_cell BK101.out 2).trans rfl
            have hfz34_0 := blk_frozen BK101.out 0
            have hfz34_1 := blk_frozen BK101.out 1
            have hfz34_2 := blk_frozen BK101.out 2
            go_wp2
            refine bodyPost_ret (results_ctt rfl _ _ gb101 95 #[.int .i64 x103000_1, .int .i64 a1, .bool false] (0, 0) _ rfl (by (with_reducible repeat (first | refine blk_drewN ?_ _ | refine blk_drew ?_ | refine blk_alloc ?_ _)); refine blk_put (cs := #[.int .i64 x103000_1, .int .i64 a1, .bool false]) ?_ 2 _ rfl; (with_reducible repeat (first | refine blk_drewN ?_ _ | refine blk_drew ?_ | refine blk_alloc ?_ _)); refine blk_put (cs := #[.int .i64 x103000_1, .int .i64 0, .bool false]) ?_ 1 _ rfl; (with_reducible repeat (first | refine blk_drewN ?_ _ | refine blk_drew ?_ | refine blk_alloc ?_ _)); refine blk_put (cs := #[.int .i64 0, .int .i64 0, .bool false]) ?_ 0 _ rfl; (with_reducible repeat (first | refine blk_drewN ?_ _ | refine blk_drew ?_ | refine blk_alloc ?_ _)); exact BK101.out) Try.underlying95 rfl (by kernel_rfl)) rfl ?_
            exact ⟨by first | rfl | (simp [errW_none, errW_some] <;> rfl) | (simp [*, errW_none, errW_some] <;> rfl), by repeat (first | (with_reducible first | exact HB.out | apply below_alloc | apply pw_below_drewN | apply below_drew1 | refine below_set ?_ GE101.out | refine below_set ?_ GE102.out) | exact HB.out)⟩
end Go.Proofs.Ytjmkhdhffmlhiaa.PAll
end
section
namespace Go.Proofs.Ytjmkhdhffmlhiaa.PAll
open Go.RowKit Go.Proofs.YtjmkhdhffmlhiaaW.PrintWords Go.Proofs.YtjmkhdhffmlhiaaW.PrintLast Go.Proofs.YtjmkhdhffmlhiaaW.PrintMore
attribute [local go_sem] max2_int min2_int max_two min_two max_three min_three max_four min_four w64_u8 w64_mod256   -- for this text's walks alone
set_option linter.unusedVariables false
set_option linter.unusedSimpArgs false
mutual
def bitset_numbers.j0 : Nat → ByteArray → List (S95) → Int → Bool → Int → Int → Bool → Option ((List (S95)) × Int)
  | 0, _, _, _, _, _, _, _ => none
  | k + 1, x0, x4, x6, x28, x107000, x107001, x107002 => if x28 = true then (some (([] : List (S95)), x6)) else (if x4.length < 5864062014805 then (bitset_numbers.l0 k x0 (x4 ++ [(⟨x107000, x107001, x107002⟩ : S95)]) (wrap64 (x6 + 1))) else (none))
def bitset_numbers.l0 : Nat → ByteArray → List (S95) → Int → Option ((List (S95)) × Int)
  | 0, _, _, _ => none
  | k + 1, x0, x4, x6 => if x6 < (x0.size : Int) then (bitset_numbers.j2 k x0 x4 x6 true) else (bitset_numbers.j2 k x0 x4 x6 (decide ((x4.length : Int) > 1)))
def bitset_numbers.j2 : Nat → ByteArray → List (S95) → Int → Bool → Option ((List (S95)) × Int)
  | 0, _, _, _, _ => none
  | k + 1, x0, x4, x6, x44 => if x44 = true then (if (x4.length : Int) > 1 then (if 0 ≤ (wrap64 (x6 - 1)) then (if (wrap64 (x6 - 1)) < (x0.size : Int) then (bitset_numbers.j3 k x0 x4 x6 ((bt x0 (wrap64 (x6 - 1))) == 45)) else (none)) else (none)) else (bitset_numbers.j3 k x0 x4 x6 false)) else (some (x4, (-1)))
def bitset_numbers.j3 : Nat → ByteArray → List (S95) → Int → Bool → Option ((List (S95)) × Int)
  | 0, _, _, _, _ => none
  | k + 1, x0, x4, x6, x8 => (bitset_digits.f k x0 x6).bind fun bt110 => (if bt110.2.2.2.2 = true then (if x4.length < 5864062014805 then ((some (x4 ++ [(⟨bt110.1, bt110.2.1, x8⟩ : S95)] : List (S95))).bind fun y115 => (if bt110.2.2.2.1 = (x0.size : Int) then (some (y115, (-1))) else (if 0 ≤ bt110.2.2.2.1 then (if bt110.2.2.2.1 < (x0.size : Int) then (if (bt x0 bt110.2.2.2.1) = 44 then (bitset_numbers.l0 k x0 y115 (wrap64 (bt110.2.2.2.1 + 1))) else (if (bt x0 bt110.2.2.2.1) = 45 then (if x8 = true then (some (([] : List (S95)), bt110.2.2.2.1)) else (bitset_numbers.l0 k x0 y115 (wrap64 (bt110.2.2.2.1 + 1)))) else (some (([] : List (S95)), bt110.2.2.2.1)))) else (none)) else (none)))) else (none)) else (some (([] : List (S95)), bt110.2.2.2.1)))
end
def bitset_numbers.f (k : Nat) (a0 : ByteArray) : Option ((List (S95)) × Int) := (bitset_digits.f k a0 0).bind fun bt101 => (if bt101.2.2.2.2 = true then (if bt101.2.2.2.1 = (a0.size : Int) then (bitset_numbers.j0 k a0 ([] : List (S95)) bt101.2.2.2.1 true bt101.1 bt101.2.1 bt101.2.2.1) else (if 0 ≤ bt101.2.2.2.1 then (if bt101.2.2.2.1 < (a0.size : Int) then (bitset_numbers.j0 k a0 ([] : List (S95)) bt101.2.2.2.1 ((bt a0 bt101.2.2.2.1) != 58) bt101.1 bt101.2.1 bt101.2.2.1) else (none)) else (none))) else (bitset_numbers.j0 k a0 ([] : List (S95)) bt101.2.2.2.1 true bt101.1 bt101.2.1 bt101.2.2.1))
set_option maxHeartbeats 8000000 in
set_option maxRecDepth 100000 in
theorem bitset_numbers.calls (k : Nat) (a0 : ByteArray) (r1 : List (S95)) (r2 : Int) (w : World) (h : bitset_numbers.f k a0 = some (r1, r2)) :
    Calls Try.prog 72 #[.string a0] w fun e w' => ∃ v0_ : Value, e = .returned (.tuple #[v0_, .int .i64 r2]) ∧ Kd.R k95 95 w' w.heap.size (fun _ => True) v0_ r1 ∧ Below w.heap.size w w' := by
  have hu95 := Try.underlying95
  have HB := Aside0.mk (Below.refl w.heap.size w)
  have H : ((bitset_digits.f k a0 0).bind fun bt101 => (if bt101.2.2.2.2 = true then (if bt101.2.2.2.1 = (a0.size : Int) then (bitset_numbers.j0 k a0 ([] : List (S95)) bt101.2.2.2.1 true bt101.1 bt101.2.1 bt101.2.2.1) else (if 0 ≤ bt101.2.2.2.1 then (if bt101.2.2.2.1 < (a0.size : Int) then (bitset_numbers.j0 k a0 ([] : List (S95)) bt101.2.2.2.1 ((bt a0 bt101.2.2.2.1) != 58) bt101.1 bt101.2.1 bt101.2.2.1) else (none)) else (none))) else (bitset_numbers.j0 k a0 ([] : List (S95)) bt101.2.2.2.1 true bt101.1 bt101.2.1 bt101.2.2.1))) = some (r1, r2) := h
  clear h
  replace H := Option.bind_eq_some_iff.mp H
  obtain ⟨⟨t101, t102, t103, t104, t105⟩, A20, H⟩ := H
  replace H : (if t105 = true then (if t104 = (a0.size : Int) then (bitset_numbers.j0 k a0 ([] : List (S95)) t104 true t101 t102 t103) else (if 0 ≤ t104 then (if t104 < (a0.size : Int) then (bitset_numbers.j0 k a0 ([] : List (S95)) t104 ((bt a0 t104) != 58) t101 t102 t103) else (none)) else (none))) else (bitset_numbers.j0 k a0 ([] : List (S95)) t104 true t101 t102 t103)) = some (r1, r2) := H
  have A2 := Aside0.mk A20
  clear A20
  have HC3 := Aside0.mk H
  clear H
  go_enter Try.func72, Try.ntmps72
  go_upto_region 3 with (first | ((with_reducible refine gate_callee (f := 83) rfl ?_); refine goesL_ (some 11) rfl rfl Try.func83 (by kernel_rfl) rfl #[.string a0, .int .i64 0] rfl (by (try simp only [List.map_toArray, List.map_cons, List.map_nil]); first | done | rfl | (simp only [List.length_drop, List.length_take]; rfl)) ?_; (with_reducible refine (bitset_digits.calls k a0 0 t101 t102 t103 t104 t105 _ A2.out).mono ?_); rintro e w4 ⟨rfl, hb⟩; refine ⟨_, rfl, ?_⟩; have n0_ := Aside0.mk (below_step (by repeat (first | (with_reducible first | exact HB.out | apply below_alloc | apply pw_below_drewN | apply below_drew1) | exact HB.out)) hb); clear HB; have HB := n0_; clear n0_; (try clear hb); (try clear hb2); (try clear hk); (try clear hi)) | ((with_reducible refine gate_dst (N := 5) rfl ?_); (try (refine gate_guard (by rfl) ?_; dsimp only)); refine box_event ?hg (N := 5) ?hd (cs := #[.int .i64 0, .int .i64 0, .bool false]) (t := 95) ?hr ?_; (case hd => rfl); (case hg => rfl); (case hr => first | (go_simp; done) | (go_simp; rfl)); intro gb106 hg w5 hbox hb; have n0_ := Aside0.mk (below_step (by repeat (first | (with_reducible first | exact HB.out | apply below_alloc | apply pw_below_drewN | apply below_drew1) | exact HB.out)) hb); have n1_ := Aside0.mk (hbox); have n2_ := Aside0.mk ((by rw [hg]; exact (below_size (by repeat (first | (with_reducible first | exact HB.out | apply below_alloc | apply pw_below_drewN | apply below_drew1) | exact HB.out))) : w.heap.size ≤ gb106)); have n3_ := Aside0.mk ((by rw [hg]; exact (below_size (by repeat (first | (with_reducible first | exact HB.out | apply below_alloc | apply pw_below_drewN | apply below_drew1) | exact HB.out))) : w.heap.size ≤ gb106)); clear HB; have HB := n0_; have BK106 := n1_; have GW106 := n2_; have GE106 := n3_; clear n0_ n1_ n2_ n3_; clear hb hbox hg; have hcz6_0 : w5.cell? ⟨gb106, 0, none⟩ = some (.int .i64 0) := (blk_cell BK106.out 0).trans rfl; have hcz6_1 : w5.cell? ⟨gb106, 1, none⟩ = some (.int .i64 0) := (blk_cell BK106.out 1).trans rfl; have hcz6_2 : w5.cell? ⟨gb106, 2, none⟩ = some (.bool false) := (blk_cell BK106.out 2).trans rfl; have hfz6_0 := blk_frozen BK106.out 0; have hfz6_1 := blk_frozen BK106.out 1; have hfz6_2 := blk_frozen BK106.out 2))
  (try simp only [Act.put, List.setIfInBounds_toArray, List.set_cons_zero, List.set_cons_succ])
  go_cut [28] (fun v28 wc => ∃ (kq : Nat) (x28_2 : Bool), v28 = .bool x28_2 ∧ Aside0 (bitset_numbers.j0 kq a0 ([] : List (S95)) t104 x28_2 t101 t102 t103 = some (r1, r2)) ∧ Aside0 (kq ≤ k) ∧ Aside0 (Kd.R k95 95 wc w.heap.size (fun k_ => k_ ≠ gb106) (.slice none 0 0) ([] : List (S95))) ∧ Aside0 (wc.heap[gb106]? = some (.cells #[.int .i64 t101, .int .i64 t102, .bool t103] 95 (0, 0))) ∧ Aside0 (Below w.heap.size w wc))
  case first =>
    have H := HC3.out
    clear HC3
    by_cases c7 : t105 = true
    · subst c7
      have H1 : (if t104 = (a0.size : Int) then (bitset_numbers.j0 k a0 ([] : List (S95)) t104 true t101 t102 t103) else (if 0 ≤ t104 then (if t104 < (a0.size : Int) then (bitset_numbers.j0 k a0 ([] : List (S95)) t104 ((bt a0 t104) != 58) t101 t102 t103) else (none)) else (none))) = some (r1, r2) := by rw [if_pos rfl] at H; exact H
      clear H
      have H := H1
      clear H1
      by_cases c8 : t104 = (a0.size : Int)
      · rw [if_pos c8] at H
        have c8b0 : (t104 == (a0.size : Int)) = true := beq_iff_eq.mpr c8
        have c8b1 : (t104 != (a0.size : Int)) = false := bne_eq_false_iff_eq.mpr c8
        clear c8
        (first | rw [c8b0] | (simp only [i64_w, i32_w]; rw [c8b0]) | skip)
        have H' := Aside0.mk H
        clear H
        go_wp2
        go_meet
        case rel => exact ⟨_, (true), (by first | rfl | (simp; done) | (simp [*]; done)), H', ⟨by first | omega | exact Nat.le_refl _⟩, ⟨by first | exact Kd.R_nil _ _ _ _ _ | exact Kd.N_nil _ _ _ _ _ | exact Kd.V_nil _ _ _ _ _ | exact Kd.Q_nil _ _ _ _ _ | exact Kd.S_nil _ _ _ _ _⟩, ⟨by (with_reducible repeat (first | refine blk_drewN ?_ _ | refine blk_drew ?_ | refine blk_alloc ?_ _)); refine blk_put (cs := #[.int .i64 t101, .int .i64 t102, .bool false]) ?_ 2 _ rfl; (with_reducible repeat (first | refine blk_drewN ?_ _ | refine blk_drew ?_ | refine blk_alloc ?_ _)); refine blk_put (cs := #[.int .i64 t101, .int .i64 0, .bool false]) ?_ 1 _ rfl; (with_reducible repeat (first | refine blk_drewN ?_ _ | refine blk_drew ?_ | refine blk_alloc ?_ _)); refine blk_put (cs := #[.int .i64 0, .int .i64 0, .bool false]) ?_ 0 _ rfl; (with_reducible repeat (first | refine blk_drewN ?_ _ | refine blk_drew ?_ | refine blk_alloc ?_ _)); exact BK106.out⟩, ⟨by repeat (first | (with_reducible first | exact HB.out | apply below_alloc | apply pw_below_drewN | apply below_drew1 | refine below_set ?_ GE106.out) | exact HB.out)⟩⟩
      · rw [if_neg c8] at H
        have c8b0 : (t104 == (a0.size : Int)) = false := beq_eq_false_iff_ne.mpr c8
        have c8b1 : (t104 != (a0.size : Int)) = true := bne_iff_ne.mpr c8
        (first | rw [c8b0] | (simp only [i64_w, i32_w]; rw [c8b0]) | skip)
        by_cases c9 : 0 ≤ t104
        · rw [if_pos c9] at H
          have c9b0 : decide (0 ≤ t104) = true := decide_eq_true c9
          clear c9
          by_cases c10 : t104 < (a0.size : Int)
          · rw [if_pos c10] at H
            have c10b0 : decide (t104 < (a0.size : Int)) = true := decide_eq_true c10
            clear c10
            have H' := Aside0.mk H
            clear H
            have p11 : 0 ≤ (t104 : Int) := of_decide_eq_true (by first | (with_reducible assumption) | assumption)
            have q11 : t104 < (a0.size : Int) := of_decide_eq_true (by first | (with_reducible assumption) | assumption)
            have hx11 := bt_at a0 t104
            replace p11 := eq_true p11
            replace q11 := eq_true q11
            go_wp2
            go_meet
            case rel => exact ⟨_, (((bt a0 t104) != 58)), (by first | rfl | (simp; done) | (simp [*]; done)), H', ⟨by first | omega | exact Nat.le_refl _⟩, ⟨by first | exact Kd.R_nil _ _ _ _ _ | exact Kd.N_nil _ _ _ _ _ | exact Kd.V_nil _ _ _ _ _ | exact Kd.Q_nil _ _ _ _ _ | exact Kd.S_nil _ _ _ _ _⟩, ⟨by (with_reducible repeat (first | refine blk_drewN ?_ _ | refine blk_drew ?_ | refine blk_alloc ?_ _)); refine blk_put (cs := #[.int .i64 t101, .int .i64 t102, .bool false]) ?_ 2 _ rfl; (with_reducible repeat (first | refine blk_drewN ?_ _ | refine blk_drew ?_ | refine blk_alloc ?_ _)); refine blk_put (cs := #[.int .i64 t101, .int .i64 0, .bool false]) ?_ 1 _ rfl; (with_reducible repeat (first | refine blk_drewN ?_ _ | refine blk_drew ?_ | refine blk_alloc ?_ _)); refine blk_put (cs := #[.int .i64 0, .int .i64 0, .bool false]) ?_ 0 _ rfl; (with_reducible repeat (first | refine blk_drewN ?_ _ | refine blk_drew ?_ | refine blk_alloc ?_ _)); exact BK106.out⟩, ⟨by repeat (first | (with_reducible first | exact HB.out | apply below_alloc | apply pw_below_drewN | apply below_drew1 | refine below_set ?_ GE106.out) | exact HB.out)⟩⟩
          · rw [if_neg c10] at H
            exact absurd H (by simp)
        · rw [if_neg c9] at H
          exact absurd H (by simp)
    · replace c7 := Bool.eq_false_iff.mpr c7
      subst c7
      have H1 : (bitset_numbers.j0 k a0 ([] : List (S95)) t104 true t101 t102 t103) = some (r1, r2) := by rw [if_neg (show ¬ (false = true) by decide)] at H; exact H
      clear H
      have H := H1
      clear H1
      have H' := Aside0.mk H
      clear H
      go_wp2
      go_meet
      case rel => exact ⟨_, (true), (by first | rfl | (simp; done) | (simp [*]; done)), H', ⟨by first | omega | exact Nat.le_refl _⟩, ⟨by first | exact Kd.R_nil _ _ _ _ _ | exact Kd.N_nil _ _ _ _ _ | exact Kd.V_nil _ _ _ _ _ | exact Kd.Q_nil _ _ _ _ _ | exact Kd.S_nil _ _ _ _ _⟩, ⟨by (with_reducible repeat (first | refine blk_drewN ?_ _ | refine blk_drew ?_ | refine blk_alloc ?_ _)); refine blk_put (cs := #[.int .i64 t101, .int .i64 t102, .bool false]) ?_ 2 _ rfl; (with_reducible repeat (first | refine blk_drewN ?_ _ | refine blk_drew ?_ | refine blk_alloc ?_ _)); refine blk_put (cs := #[.int .i64 t101, .int .i64 0, .bool false]) ?_ 1 _ rfl; (with_reducible repeat (first | refine blk_drewN ?_ _ | refine blk_drew ?_ | refine blk_alloc ?_ _)); refine blk_put (cs := #[.int .i64 0, .int .i64 0, .bool false]) ?_ 0 _ rfl; (with_reducible repeat (first | refine blk_drewN ?_ _ | refine blk_drew ?_ | refine blk_alloc ?_ _)); exact BK106.out⟩, ⟨by repeat (first | (with_reducible first | exact HB.out | apply below_alloc | apply pw_below_drewN | apply below_drew1 | refine below_set ?_ GE106.out) | exact HB.out)⟩⟩
  case rest =>
    clear HC3
    try clear c1
    try clear p1
    try clear q1
    try clear hx1
    try clear p2
    try clear c7
    try clear c8
    try clear c8b0
    try clear c8b1
    try clear c9
    try clear c9b0
    try clear c10
    try clear c10b0
    try clear p11
    try clear q11
    try clear hx11
    try clear hcz6_0
    try clear hcz6_1
    try clear hcz6_2
    try clear hfz6_0
    try clear hfz6_1
    try clear hfz6_2
    try clear p11
    try clear q11
    obtain ⟨kq, x28_2, rfl, HA, HJ2, HO_4, BK106, HB⟩ := hcut
    cases kq with
    | zero => exact absurd HA.out (by simp [bitset_numbers.j0])
    | succ kj2 =>
      have H := HA.out
      clear HA
      simp only [bitset_numbers.j0] at H
      by_cases c12 : x28_2 = true
      · subst c12
        have H1 : (some (([] : List (S95)), t104)) = some (r1, r2) := by rw [if_pos rfl] at H; exact H
        clear H
        have H := H1
        clear H1
        simp only [Option.some.injEq, Prod.mk.injEq] at H
        obtain ⟨rfl, rfl⟩ := H
        go_wp2
        go_ret2
        exact ⟨_, by first | rfl | (simp [errW_none, errW_some] <;> rfl) | (simp [*, errW_none, errW_some] <;> rfl), by first | exact Kd.R_nil _ _ _ _ _ | exact Kd.N_nil _ _ _ _ _ | exact Kd.V_nil _ _ _ _ _ | exact Kd.Q_nil _ _ _ _ _ | exact Kd.S_nil _ _ _ _ _, by repeat (first | (with_reducible first | exact HB.out | apply below_alloc | apply pw_below_drewN | apply below_drew1 | refine below_set ?_ GE106.out) | exact HB.out)⟩
      · replace c12 := Bool.eq_false_iff.mpr c12
        subst c12
        have H1 : (if ([] : List (S95)).length < 5864062014805 then (bitset_numbers.l0 kj2 a0 (([] : List (S95)) ++ [(⟨t101, t102, t103⟩ : S95)]) (wrap64 (t104 + 1))) else (none)) = some (r1, r2) := by rw [if_neg (show ¬ (false = true) by decide)] at H; exact H
        clear H
        have H := H1
        clear H1
        by_cases c13 : ([] : List (S95)).length < 5864062014805
        · rw [if_pos c13] at H
          have LMc13 := Aside0.mk c13
          clear c13
          obtain ⟨y107, hy107⟩ : ∃ y_ : List (S95), y_ = (([] : List (S95)) ++ [(⟨t101, t102, t103⟩ : S95)]) := ⟨_, rfl⟩
          replace H : (bitset_numbers.l0 kj2 a0 y107 (wrap64 (t104 + 1))) = some (r1, r2) := by first | (rw [hy107]; with_reducible exact H) | (have H2_ := (Option.bind_some _ _).symm.trans H; rw [hy107]; with_reducible exact H2_) | (have H2_ := (Option.bind_some _ _).symm.trans H; with_reducible exact H2_) | with_reducible exact H | (rw [hy107]; exact H) | exact H
          have Ny107 := Aside0.mk hy107
          clear hy107
          have H' := Aside0.mk H
          clear H
          have hcz14_0 : wc.cell? ⟨gb106, 0, none⟩ = some (.int .i64 t101) := (blk_cell BK106.out 0).trans rfl
          have hcz14_1 : wc.cell? ⟨gb106, 1, none⟩ = some (.int .i64 t102) := (blk_cell BK106.out 1).trans rfl
          have hcz14_2 : wc.cell? ⟨gb106, 2, none⟩ = some (.bool t103) := (blk_cell BK106.out 2).trans rfl
          have hfz14_0 := blk_frozen BK106.out 0
          have hfz14_1 := blk_frozen BK106.out 1
          have hfz14_2 := blk_frozen BK106.out 2
          go_wp2_with (first | ((with_reducible refine gate_builtin (b := .append) (xs := #[.tmp 30, .tmp 32]) rfl ?_); (try (refine gate_guard (by rfl) ?_; dsimp only)); at_builtin; refine Kd.R_append k95 (w0 := w) w.heap.size rfl (.tmp 30) (.tmp 32) 91 95 (.agg #[(.int .i64 0), (.int .i64 0), (.bool false)]) 24 rfl Try.underlying91 info95 rfl (by decide) (by omega) (.slice none 0 0) ([] : List (S95)) (⟨t101, t102, t103⟩ : S95) [.int .i64 t101, .int .i64 t102, .bool t103] (fun k_ => k_ ≠ gb106) (fun _ => False) rfl rfl ?aP (fun _ hk => hk.elim) ?aF ?aO ?aB ?aS ?aL ?_; (case aP => exact k95_mkM _ _ _ (⟨t101, t102, t103⟩ : S95)); (case aB => exact (by repeat (first | (with_reducible first | exact HB.out | apply below_alloc | apply pw_below_drewN | apply below_drew1 | refine below_set ?_ GE106.out) | exact HB.out))); (case aF => exact (fun k_ hk => Kd.freshB (g := gb106) (o := .cells #[.int .i64 t101, .int .i64 t102, .bool t103] 95 (0, 0)) (by (with_reducible repeat (first | refine blk_drewN ?_ _ | refine blk_drew ?_ | refine blk_alloc ?_ _)); exact BK106.out) k_ hk)); (case aO => exact (by (with_reducible repeat (first | apply Kd.R_alloc | apply Kd.R_drewN | apply Kd.R_drew)); exact HO_4.out)); (case aS => exact (below_size (by repeat (first | (with_reducible first | exact HB.out | apply below_alloc | apply pw_below_drewN | apply below_drew1 | refine below_set ?_ GE106.out) | exact HB.out)))); (case aL => have := LMc13.out; omega); intro v108 w15 ho hb hg hat; rw [← Ny107.out] at ho; have n0_ := Aside0.mk (blk_grown (g := gb106) (o := .cells #[.int .i64 t101, .int .i64 t102, .bool t103] 95 (0, 0)) (by (with_reducible repeat (first | refine blk_drewN ?_ _ | refine blk_drew ?_ | refine blk_alloc ?_ _)); exact BK106.out) hg (Kd.R_away HO_4.out (fun _ hk => hk))); have n1_ := Aside0.mk (hb); have n2_ := Aside0.mk (ho); clear BK106; clear HB; clear HO_4; have BK106 := n0_; have HB := n1_; have HO109 := n2_; clear n0_ n1_ n2_; clear ho hb hg hat))
          go_loopg [4, 6] kj2 (fun kq v4 v6 w' => ∃ (x4_2 : List (S95)) (x6_2 : Int) (x107000_2 : Int) (x107001_2 : Int) (x107002_2 : Bool), v6 = .int .i64 x6_2 ∧ Aside0 (bitset_numbers.l0 kq a0 x4_2 x6_2 = some (r1, r2)) ∧ Aside0 (kq ≤ kj2) ∧ Aside0 (Kd.R k95 95 w' w.heap.size (fun k_ => k_ ≠ gb106) v4 x4_2) ∧ Aside0 (w'.heap[gb106]? = some (.cells #[.int .i64 x107000_2, .int .i64 x107001_2, .bool x107002_2] 95 (0, 0))) ∧ Aside0 (Below w.heap.size w w'))
          case atStart => exact ⟨(y107), (wrap64 (t104 + 1)), (t101), (t102), (t103), (by first | rfl | (simp; done) | (simp [*]; done)), H', ⟨Nat.le_refl _⟩, ⟨by (with_reducible repeat (first | apply Kd.R_alloc | apply Kd.R_drewN | apply Kd.R_drew)); exact HO109.out⟩, ⟨by (with_reducible repeat (first | refine blk_drewN ?_ _ | refine blk_drew ?_ | refine blk_alloc ?_ _)); exact BK106.out⟩, ⟨by repeat (first | (with_reducible first | exact HB.out | apply below_alloc | apply pw_below_drewN | apply below_drew1 | refine below_set ?_ GE106.out) | exact HB.out)⟩⟩
          case round =>
            clear H'
            try clear c1
            try clear p1
            try clear q1
            try clear hx1
            try clear p2
            try clear p6
            try clear c7
            try clear c8
            try clear c8b0
            try clear c8b1
            try clear c9
            try clear c9b0
            try clear c10
            try clear c10b0
            try clear p11
            try clear q11
            try clear hx11
            try clear c12
            try clear c13
            try clear hcz14_0
            try clear hcz14_1
            try clear hcz14_2
            try clear hcz6_0
            try clear hcz6_1
            try clear hcz6_2
            try clear hfz14_0
            try clear hfz14_1
            try clear hfz14_2
            try clear hfz6_0
            try clear hfz6_1
            try clear hfz6_2
            try clear p1
            try clear p11
            try clear p2
            try clear q1
            try clear q11
            obtain ⟨x4_2, x6_2, x107000_2, x107001_2, x107002_2, rfl, HA, HK2, HO_4, BK106, HB⟩ := hrel
            cases gk with
            | zero => exact absurd HA.out (by simp [bitset_numbers.l0])
            | succ k2 =>
              have H := HA.out
              clear HA
              simp only [bitset_numbers.l0] at H
              have HC16 := Aside0.mk H
              clear H
              go_upto_region 7 with (fail)
              go_cut [44] (fun v44 wc => ∃ (kq : Nat) (x44_15 : Bool), v44 = .bool x44_15 ∧ Aside0 (bitset_numbers.j2 kq a0 x4_2 x6_2 x44_15 = some (r1, r2)) ∧ Aside0 (kq ≤ k2) ∧ Aside0 (Kd.R k95 95 wc w.heap.size (fun k_ => k_ ≠ gb106) u4 x4_2) ∧ Aside0 (wc.heap[gb106]? = some (.cells #[.int .i64 x107000_2, .int .i64 x107001_2, .bool x107002_2] 95 (0, 0))) ∧ Aside0 (Below w.heap.size w wc))
              case first =>
                have H := HC16.out
                clear HC16
                by_cases c17 : x6_2 < (a0.size : Int)
                · rw [if_pos c17] at H
                  have c17b0 : decide (x6_2 < (a0.size : Int)) = true := decide_eq_true c17
                  clear c17
                  (first | rw [c17b0] | (simp only [i64_w, i32_w]; rw [c17b0]) | skip)
                  have H' := Aside0.mk H
                  clear H
                  go_wp2
                  go_meet
                  case rel => exact ⟨_, (true), (by first | rfl | (simp; done) | (simp [*]; done)), H', ⟨by have := HJ2.out; have := HK2.out; first | omega | exact Nat.le_refl _⟩, ⟨by (with_reducible repeat (first | apply Kd.R_alloc | apply Kd.R_drewN | apply Kd.R_drew)); exact HO_4.out⟩, ⟨by (with_reducible repeat (first | refine blk_drewN ?_ _ | refine blk_drew ?_ | refine blk_alloc ?_ _)); exact BK106.out⟩, ⟨by repeat (first | (with_reducible first | exact HB.out | apply below_alloc | apply pw_below_drewN | apply below_drew1 | refine below_set ?_ GE106.out) | exact HB.out)⟩⟩
                · rw [if_neg c17] at H
                  have c17b0 : decide (x6_2 < (a0.size : Int)) = false := decide_eq_false c17
                  clear c17
                  (first | rw [c17b0] | (simp only [i64_w, i32_w]; rw [c17b0]) | skip)
                  have H' := Aside0.mk H
                  clear H
                  obtain ⟨Ao18, co18, eo18⟩ := Kd.R_slice HO_4.out
                  subst eo18
                  go_wp2
                  go_meet
                  case rel => exact ⟨_, (decide ((x4_2.length : Int) > 1)), (by first | rfl | (simp; done) | (simp [*]; done)), H', ⟨by have := HJ2.out; have := HK2.out; first | omega | exact Nat.le_refl _⟩, ⟨by (with_reducible repeat (first | apply Kd.R_alloc | apply Kd.R_drewN | apply Kd.R_drew)); exact HO_4.out⟩, ⟨by (with_reducible repeat (first | refine blk_drewN ?_ _ | refine blk_drew ?_ | refine blk_alloc ?_ _)); exact BK106.out⟩, ⟨by repeat (first | (with_reducible first | exact HB.out | apply below_alloc | apply pw_below_drewN | apply below_drew1 | refine below_set ?_ GE106.out) | exact HB.out)⟩⟩
              case rest =>
                clear HC16
                try clear c1
                try clear p1
                try clear q1
                try clear hx1
                try clear p2
                try clear p6
                try clear c7
                try clear c8
                try clear c8b0
                try clear c8b1
                try clear c9
                try clear c9b0
                try clear c10
                try clear c10b0
                try clear p11
                try clear q11
                try clear hx11
                try clear c12
                try clear c13
                try clear c17
                try clear c17b0
                try clear hcz14_0
                try clear hcz14_1
                try clear hcz14_2
                try clear hcz6_0
                try clear hcz6_1
                try clear hcz6_2
                try clear hfz14_0
                try clear hfz14_1
                try clear hfz14_2
                try clear hfz6_0
                try clear hfz6_1
                try clear hfz6_2
                try clear p1
                try clear p11
                try clear p2
                try clear p6
                try clear q1
                try clear q11
                obtain ⟨kq, x44_15, rfl, HA, HJ15, HO_4, BK106, HB⟩ := hcut
                cases kq with
                | zero => exact absurd HA.out (by simp [bitset_numbers.j2])
                | succ kj15 =>
                  have H := HA.out
                  clear HA
                  simp only [bitset_numbers.j2] at H
                  by_cases c19 : x44_15 = true
                  · subst c19
                    have H1 : (if (x4_2.length : Int) > 1 then (if 0 ≤ (wrap64 (x6_2 - 1)) then (if (wrap64 (x6_2 - 1)) < (a0.size : Int) then (bitset_numbers.j3 kj15 a0 x4_2 x6_2 ((bt a0 (wrap64 (x6_2 - 1))) == 45)) else (none)) else (none)) else (bitset_numbers.j3 kj15 a0 x4_2 x6_2 false)) = some (r1, r2) := by rw [if_pos rfl] at H; exact H
                    clear H
                    have H := H1
                    clear H1
                    have HC20 := Aside0.mk H
                    clear H
                    go_upto_region 9 with (fail)
                    go_cut [8] (fun v8 wc => ∃ (kq : Nat) (x8_19 : Bool), v8 = .bool x8_19 ∧ Aside0 (bitset_numbers.j3 kq a0 x4_2 x6_2 x8_19 = some (r1, r2)) ∧ Aside0 (kq ≤ kj15) ∧ Aside0 (Kd.R k95 95 wc w.heap.size (fun k_ => k_ ≠ gb106) u4 x4_2) ∧ Aside0 (wc.heap[gb106]? = some (.cells #[.int .i64 x107000_2, .int .i64 x107001_2, .bool x107002_2] 95 (0, 0))) ∧ Aside0 (Below w.heap.size w wc))
                    case first =>
                      have H := HC20.out
                      clear HC20
                      by_cases c21 : (x4_2.length : Int) > 1
                      · rw [if_pos c21] at H
                        have c21b0 : decide (1 < (x4_2.length : Int)) = true := decide_eq_true c21
                        have c21b1 : decide (1 < x4_2.length) = true := decide_eq_true (by omega)
                        clear c21
                        (first | rw [c21b0] | (simp only [i64_w, i32_w]; rw [c21b0]) | skip)
                        obtain ⟨ji22, hji22⟩ : ∃ j_ : Int, (wrap64 (x6_2 - 1)) = j_ := ⟨_, rfl⟩
                        replace H : (if 0 ≤ (ji22) then (if (ji22) < (a0.size : Int) then (bitset_numbers.j3 kj15 a0 x4_2 x6_2 ((bt a0 (ji22)) == 45)) else (none)) else (none)) = some (r1, r2) := by first | (rw [hji22] at H; exact H) | (simp only [hji22] at H ⊢; exact H)
                        have hji22w : (IntKind.i64.wrap (x6_2 - 1)) = ji22 := (i64_w _).trans hji22
                        by_cases c23 : 0 ≤ (ji22)
                        · rw [if_pos c23] at H
                          have c23b0 : decide (0 ≤ (ji22)) = true := decide_eq_true c23
                          clear c23
                          by_cases c24 : (ji22) < (a0.size : Int)
                          · rw [if_pos c24] at H
                            have c24b0 : decide ((ji22) < (a0.size : Int)) = true := decide_eq_true c24
                            clear c24
                            have H' := Aside0.mk H
                            clear H
                            obtain ⟨Ao26, co26, eo26⟩ := Kd.R_slice HO_4.out
                            subst eo26
                            have p25 : 0 ≤ ((ji22) : Int) := of_decide_eq_true (by first | (with_reducible assumption) | assumption)
                            have q25 : (ji22) < (a0.size : Int) := of_decide_eq_true (by first | (with_reducible assumption) | assumption)
                            have hx25 := bt_at a0 (ji22)
                            replace p25 := eq_true p25
                            replace q25 := eq_true q25
                            go_wp2
                            go_meet
                            case rel => exact ⟨_, (((bt a0 (ji22)) == 45)), (by first | rfl | (simp; done) | (simp only [← hji22] <;> (first | rfl | simp)) | (simp [*]; done)), H', ⟨by have := HJ2.out; have := HK2.out; have := HJ15.out; first | omega | exact Nat.le_refl _⟩, ⟨by (with_reducible repeat (first | apply Kd.R_alloc | apply Kd.R_drewN | apply Kd.R_drew)); exact HO_4.out⟩, ⟨by (with_reducible repeat (first | refine blk_drewN ?_ _ | refine blk_drew ?_ | refine blk_alloc ?_ _)); exact BK106.out⟩, ⟨by repeat (first | (with_reducible first | exact HB.out | apply below_alloc | apply pw_below_drewN | apply below_drew1 | refine below_set ?_ GE106.out) | exact HB.out)⟩⟩
                          · rw [if_neg c24] at H
                            exact absurd H (by simp)
                        · rw [if_neg c23] at H
                          exact absurd H (by simp)
                      · rw [if_neg c21] at H
                        have c21b0 : decide (1 < (x4_2.length : Int)) = false := decide_eq_false c21
                        have c21b1 : decide (1 < x4_2.length) = false := decide_eq_false (by omega)
                        clear c21
                        (first | rw [c21b0] | (simp only [i64_w, i32_w]; rw [c21b0]) | skip)
                        have H' := Aside0.mk H
                        clear H
                        obtain ⟨Ao27, co27, eo27⟩ := Kd.R_slice HO_4.out
                        subst eo27
                        go_wp2
                        go_meet
                        case rel => exact ⟨_, (false), (by first | rfl | (simp; done) | (simp [*]; done)), H', ⟨by have := HJ2.out; have := HK2.out; have := HJ15.out; first | omega | exact Nat.le_refl _⟩, ⟨by (with_reducible repeat (first | apply Kd.R_alloc | apply Kd.R_drewN | apply Kd.R_drew)); exact HO_4.out⟩, ⟨by (with_reducible repeat (first | refine blk_drewN ?_ _ | refine blk_drew ?_ | refine blk_alloc ?_ _)); exact BK106.out⟩, ⟨by repeat (first | (with_reducible first | exact HB.out | apply below_alloc | apply pw_below_drewN | apply below_drew1 | refine below_set ?_ GE106.out) | exact HB.out)⟩⟩
                    case rest =>
                      clear HC20
                      try clear c1
                      try clear p1
                      try clear q1
                      try clear hx1
                      try clear c2
                      try clear p2
                      try clear q2
                      try clear hx2
                      try clear p6
                      try clear c7
                      try clear c8
                      try clear c8b0
                      try clear c8b1
                      try clear c9
                      try clear c9b0
                      try clear c10
                      try clear c10b0
                      try clear p11
                      try clear q11
                      try clear hx11
                      try clear c12
                      try clear c13
                      try clear c17
                      try clear c17b0
                      try clear c19
                      try clear c21
                      try clear c21b0
                      try clear c21b1
                      try clear c23
                      try clear c23b0
                      try clear c24
                      try clear c24b0
                      try clear p25
                      try clear q25
                      try clear hx25
                      try clear hcz14_0
                      try clear hcz14_1
                      try clear hcz14_2
                      try clear hcz6_0
                      try clear hcz6_1
                      try clear hcz6_2
                      try clear hfz14_0
                      try clear hfz14_1
                      try clear hfz14_2
                      try clear hfz6_0
                      try clear hfz6_1
                      try clear hfz6_2
                      try clear p1
                      try clear p11
                      try clear p2
                      try clear p25
                      try clear p6
                      try clear q1
                      try clear q11
                      try clear q25
                      obtain ⟨kq, x8_19, rfl, HA, HJ19, HO_4, BK106, HB⟩ := hcut
                      cases kq with
                      | zero => exact absurd HA.out (by simp [bitset_numbers.j3])
                      | succ kj19 =>
                        have H := HA.out
                        clear HA
                        simp only [bitset_numbers.j3] at H
                        replace H := Option.bind_eq_some_iff.mp H
                        obtain ⟨⟨t110, t111, t112, t113, t114⟩, A280, H⟩ := H
                        replace H : (if t114 = true then (if x4_2.length < 5864062014805 then ((some (x4_2 ++ [(⟨t110, t111, x8_19⟩ : S95)] : List (S95))).bind fun y115 => (if t113 = (a0.size : Int) then (some (y115, (-1))) else (if 0 ≤ t113 then (if t113 < (a0.size : Int) then (if (bt a0 t113) = 44 then (bitset_numbers.l0 kj19 a0 y115 (wrap64 (t113 + 1))) else (if (bt a0 t113) = 45 then (if x8_19 = true then (some (([] : List (S95)), t113)) else (bitset_numbers.l0 kj19 a0 y115 (wrap64 (t113 + 1)))) else (some (([] : List (S95)), t113)))) else (none)) else (none)))) else (none)) else (some (([] : List (S95)), t113))) = some (r1, r2) := H
                        have A28 := Aside0.mk A280
                        clear A280
                        by_cases c29 : t114 = true
                        · subst c29
                          have H1 : (if x4_2.length < 5864062014805 then ((some (x4_2 ++ [(⟨t110, t111, x8_19⟩ : S95)] : List (S95))).bind fun y115 => (if t113 = (a0.size : Int) then (some (y115, (-1))) else (if 0 ≤ t113 then (if t113 < (a0.size : Int) then (if (bt a0 t113) = 44 then (bitset_numbers.l0 kj19 a0 y115 (wrap64 (t113 + 1))) else (if (bt a0 t113) = 45 then (if x8_19 = true then (some (([] : List (S95)), t113)) else (bitset_numbers.l0 kj19 a0 y115 (wrap64 (t113 + 1)))) else (some (([] : List (S95)), t113)))) else (none)) else (none)))) else (none)) = some (r1, r2) := by rw [if_pos rfl] at H; exact H
                          clear H
                          have H := H1
                          clear H1
                          by_cases c30 : x4_2.length < 5864062014805
                          · rw [if_pos c30] at H
                            have LMc30 := Aside0.mk c30
                            clear c30
                            obtain ⟨y115, hy115⟩ : ∃ y_ : List (S95), y_ = (x4_2 ++ [(⟨t110, t111, x8_19⟩ : S95)]) := ⟨_, rfl⟩
                            replace H : (if t113 = (a0.size : Int) then (some (y115, (-1))) else (if 0 ≤ t113 then (if t113 < (a0.size : Int) then (if (bt a0 t113) = 44 then (bitset_numbers.l0 kj19 a0 y115 (wrap64 (t113 + 1))) else (if (bt a0 t113) = 45 then (if x8_19 = true then (some (([] : List (S95)), t113)) else (bitset_numbers.l0 kj19 a0 y115 (wrap64 (t113 + 1)))) else (some (([] : List (S95)), t113)))) else (none)) else (none))) = some (r1, r2) := by first | (rw [hy115]; with_reducible exact H) | (have H2_ := (Option.bind_some _ _).symm.trans H; rw [hy115]; with_reducible exact H2_) | (have H2_ := (Option.bind_some _ _).symm.trans H; with_reducible exact H2_) | with_reducible exact H | (rw [hy115]; exact H) | exact H
                            have Ny115 := Aside0.mk hy115
                            clear hy115
                            by_cases c31 : t113 = (a0.size : Int)
                            · rw [if_pos c31] at H
                              have c31b0 : (t113 == (a0.size : Int)) = true := beq_iff_eq.mpr c31
                              have c31b1 : (t113 != (a0.size : Int)) = false := bne_eq_false_iff_eq.mpr c31
                              clear c31
                              simp only [Option.some.injEq, Prod.mk.injEq] at H
                              obtain ⟨rfl, rfl⟩ := H
                              go_wp2_with (first | ((with_reducible refine gate_callee (f := 83) rfl ?_); refine goesL_ (some 60) rfl rfl Try.func83 (by kernel_rfl) rfl #[.string a0, .int .i64 x6_2] rfl (by (try simp only [List.map_toArray, List.map_cons, List.map_nil]); first | done | rfl | (simp only [List.length_drop, List.length_take]; rfl)) ?_; (with_reducible refine (bitset_digits.calls kj19 a0 x6_2 t110 t111 t112 t113 true _ A28.out).mono ?_); rintro e w32 ⟨rfl, hb⟩; refine ⟨_, rfl, ?_⟩; have n0_ := Aside0.mk (Kd.R_below (by (with_reducible repeat (first | apply Kd.R_alloc | apply Kd.R_drewN | apply Kd.R_drew)); exact HO_4.out) hb); have n1_ := Aside0.mk (blk_below (g := gb106) (o := .cells #[.int .i64 x107000_2, .int .i64 x107001_2, .bool x107002_2] 95 (0, 0)) (by (with_reducible repeat (first | refine blk_drewN ?_ _ | refine blk_drew ?_ | refine blk_alloc ?_ _)); exact BK106.out) hb); have n2_ := Aside0.mk (below_step (by repeat (first | (with_reducible first | exact HB.out | apply below_alloc | apply pw_below_drewN | apply below_drew1 | refine below_set ?_ GE106.out) | exact HB.out)) hb); clear HO_4; clear BK106; clear HB; have HO_4 := n0_; have BK106 := n1_; have HB := n2_; clear n0_ n1_ n2_; (try clear hb); (try clear hb2); (try clear hk); (try clear hi); have hcz33_0 : w32.cell? ⟨gb106, 0, none⟩ = some (.int .i64 x107000_2) := (blk_cell BK106.out 0).trans rfl; have hcz33_1 : w32.cell? ⟨gb106, 1, none⟩ = some (.int .i64 x107001_2) := (blk_cell BK106.out 1).trans rfl; have hcz33_2 : w32.cell? ⟨gb106, 2, none⟩ = some (.bool x107002_2) := (blk_cell BK106.out 2).trans rfl; have hcc33 : ((((w32.setCell ⟨gb106, 0, none⟩ (.int .i64 t110)).setCell ⟨gb106, 1, none⟩ (.int .i64 t111)).setCell ⟨gb106, 2, none⟩ (.bool t112)).setCell ⟨gb106, 2, none⟩ (.bool x8_19)).cell? ⟨gb106, 2, none⟩ = some (.bool x8_19) := (blk_cell (blk_put (blk_put (blk_put (blk_put BK106.out 0 (.int .i64 t110) rfl) 1 (.int .i64 t111) rfl) 2 (.bool t112) rfl) 2 (.bool x8_19) rfl) 2).trans rfl; have hfz33_0 := blk_frozen BK106.out 0; have hfz33_1 := blk_frozen BK106.out 1; have hfz33_2 := blk_frozen BK106.out 2) | ((with_reducible refine gate_builtin (b := .append) (xs := #[.tmp 69, .tmp 71]) rfl ?_); (try (refine gate_guard (by rfl) ?_; dsimp only)); at_builtin; refine Kd.R_append k95 (w0 := w) w.heap.size rfl (.tmp 69) (.tmp 71) 91 95 (.agg #[(.int .i64 0), (.int .i64 0), (.bool false)]) 24 rfl Try.underlying91 info95 rfl (by decide) (by omega) u4 x4_2 (⟨t110, t111, x8_19⟩ : S95) [.int .i64 t110, .int .i64 t111, .bool x8_19] (fun k_ => k_ ≠ gb106) (fun _ => False) rfl (by first | (go_simp; done) | (go_simp; rfl)) ?aP (fun _ hk => hk.elim) ?aF ?aO ?aB ?aS ?aL ?_; (case aP => exact k95_mkM _ _ _ (⟨t110, t111, x8_19⟩ : S95)); (case aB => exact (by repeat (first | (with_reducible first | exact HB.out | apply below_alloc | apply pw_below_drewN | apply below_drew1 | refine below_set ?_ GE106.out) | exact HB.out))); (case aF => exact (fun k_ hk => Kd.freshB (g := gb106) (o := .cells #[.int .i64 t110, .int .i64 t111, .bool x8_19] 95 (0, 0)) (by (with_reducible repeat (first | refine blk_drewN ?_ _ | refine blk_drew ?_ | refine blk_alloc ?_ _)); refine blk_put (cs := #[.int .i64 t110, .int .i64 t111, .bool t112]) ?_ 2 _ rfl; (with_reducible repeat (first | refine blk_drewN ?_ _ | refine blk_drew ?_ | refine blk_alloc ?_ _)); refine blk_put (cs := #[.int .i64 t110, .int .i64 t111, .bool x107002_2]) ?_ 2 _ rfl; (with_reducible repeat (first | refine blk_drewN ?_ _ | refine blk_drew ?_ | refine blk_alloc ?_ _)); refine blk_put (cs := #[.int .i64 t110, .int .i64 x107001_2, .bool x107002_2]) ?_ 1 _ rfl; (with_reducible repeat (first | refine blk_drewN ?_ _ | refine blk_drew ?_ | refine blk_alloc ?_ _)); refine blk_put (cs := #[.int .i64 x107000_2, .int .i64 x107001_2, .bool x107002_2]) ?_ 0 _ rfl; (with_reducible repeat (first | refine blk_drewN ?_ _ | refine blk_drew ?_ | refine blk_alloc ?_ _)); exact BK106.out) k_ hk)); (case aO => exact (by (with_reducible repeat (first | apply Kd.R_alloc | apply Kd.R_drewN | apply Kd.R_drew)); exact Kd.R_mono (Kd.R_far (p := ⟨gb106, 2, none⟩) (Kd.R_far (p := ⟨gb106, 2, none⟩) (Kd.R_far (p := ⟨gb106, 1, none⟩) (Kd.R_far (p := ⟨gb106, 0, none⟩) (Kd.R_mono HO_4.out (fun k_ hk => (⟨hk, hk⟩ : _ ∧ k_ ≠ gb106))) (fun _ hk => hk.2) (.int .i64 t110)) (fun _ hk => hk.2) (.int .i64 t111)) (fun _ hk => hk.2) (.bool t112)) (fun _ hk => hk.2) (.bool x8_19)) (fun _ hk => hk.1))); (case aS => exact (below_size (by repeat (first | (with_reducible first | exact HB.out | apply below_alloc | apply pw_below_drewN | apply below_drew1 | refine below_set ?_ GE106.out) | exact HB.out)))); (case aL => have := LMc30.out; omega); intro v116 w34 ho hb hg hat; rw [← Ny115.out] at ho; have n0_ := Aside0.mk (blk_grown (g := gb106) (o := .cells #[.int .i64 t110, .int .i64 t111, .bool x8_19] 95 (0, 0)) (by (with_reducible repeat (first | refine blk_drewN ?_ _ | refine blk_drew ?_ | refine blk_alloc ?_ _)); refine blk_put (cs := #[.int .i64 t110, .int .i64 t111, .bool t112]) ?_ 2 _ rfl; (with_reducible repeat (first | refine blk_drewN ?_ _ | refine blk_drew ?_ | refine blk_alloc ?_ _)); refine blk_put (cs := #[.int .i64 t110, .int .i64 t111, .bool x107002_2]) ?_ 2 _ rfl; (with_reducible repeat (first | refine blk_drewN ?_ _ | refine blk_drew ?_ | refine blk_alloc ?_ _)); refine blk_put (cs := #[.int .i64 t110, .int .i64 x107001_2, .bool x107002_2]) ?_ 1 _ rfl; (with_reducible repeat (first | refine blk_drewN ?_ _ | refine blk_drew ?_ | refine blk_alloc ?_ _)); refine blk_put (cs := #[.int .i64 x107000_2, .int .i64 x107001_2, .bool x107002_2]) ?_ 0 _ rfl; (with_reducible repeat (first | refine blk_drewN ?_ _ | refine blk_drew ?_ | refine blk_alloc ?_ _)); exact BK106.out) hg (Kd.R_away HO_4.out (fun _ hk => hk))); have n1_ := Aside0.mk (hb); have n2_ := Aside0.mk (ho); clear BK106; clear HB; clear HO_4; have BK106 := n0_; have HB := n1_; have HO117 := n2_; clear n0_ n1_ n2_; clear ho hb hg hat))
                              go_ret2
                              exact ⟨_, by first | rfl | (simp [errW_none, errW_some] <;> rfl) | (simp [*, errW_none, errW_some] <;> rfl), by (with_reducible repeat (first | apply Kd.R_alloc | apply Kd.R_drewN | apply Kd.R_drew)); exact Kd.R_mono HO117.out (fun _ hk => trivial), by repeat (first | (with_reducible first | exact HB.out | apply below_alloc | apply pw_below_drewN | apply below_drew1 | refine below_set ?_ GE106.out) | exact HB.out)⟩
                            · rw [if_neg c31] at H
                              have c31b0 : (t113 == (a0.size : Int)) = false := beq_eq_false_iff_ne.mpr c31
                              have c31b1 : (t113 != (a0.size : Int)) = true := bne_iff_ne.mpr c31
                              by_cases c35 : 0 ≤ t113
                              · rw [if_pos c35] at H
                                have c35b0 : decide (0 ≤ t113) = true := decide_eq_true c35
                                clear c35
                                by_cases c36 : t113 < (a0.size : Int)
                                · rw [if_pos c36] at H
                                  have c36b0 : decide (t113 < (a0.size : Int)) = true := decide_eq_true c36
                                  clear c36
                                  by_cases c38 : (bt a0 t113) = 44
                                  · rw [if_pos c38] at H
                                    have c38b0 : ((bt a0 t113) == 44) = true := beq_iff_eq.mpr c38
                                    have c38b1 : ((bt a0 t113) != 44) = false := bne_eq_false_iff_eq.mpr c38
                                    clear c38
                                    have H' := Aside0.mk H
                                    clear H
                                    go_wp2_with (first | ((with_reducible refine gate_callee (f := 83) rfl ?_); refine goesL_ (some 60) rfl rfl Try.func83 (by kernel_rfl) rfl #[.string a0, .int .i64 x6_2] rfl (by (try simp only [List.map_toArray, List.map_cons, List.map_nil]); first | done | rfl | (simp only [List.length_drop, List.length_take]; rfl)) ?_; (with_reducible refine (bitset_digits.calls kj19 a0 x6_2 t110 t111 t112 t113 true _ A28.out).mono ?_); rintro e w39 ⟨rfl, hb⟩; refine ⟨_, rfl, ?_⟩; have n0_ := Aside0.mk (Kd.R_below (by (with_reducible repeat (first | apply Kd.R_alloc | apply Kd.R_drewN | apply Kd.R_drew)); exact HO_4.out) hb); have n1_ := Aside0.mk (blk_below (g := gb106) (o := .cells #[.int .i64 x107000_2, .int .i64 x107001_2, .bool x107002_2] 95 (0, 0)) (by (with_reducible repeat (first | refine blk_drewN ?_ _ | refine blk_drew ?_ | refine blk_alloc ?_ _)); exact BK106.out) hb); have n2_ := Aside0.mk (below_step (by repeat (first | (with_reducible first | exact HB.out | apply below_alloc | apply pw_below_drewN | apply below_drew1 | refine below_set ?_ GE106.out) | exact HB.out)) hb); clear HO_4; clear BK106; clear HB; have HO_4 := n0_; have BK106 := n1_; have HB := n2_; clear n0_ n1_ n2_; (try clear hb); (try clear hb2); (try clear hk); (try clear hi); have hcz40_0 : w39.cell? ⟨gb106, 0, none⟩ = some (.int .i64 x107000_2) := (blk_cell BK106.out 0).trans rfl; have hcz40_1 : w39.cell? ⟨gb106, 1, none⟩ = some (.int .i64 x107001_2) := (blk_cell BK106.out 1).trans rfl; have hcz40_2 : w39.cell? ⟨gb106, 2, none⟩ = some (.bool x107002_2) := (blk_cell BK106.out 2).trans rfl; have hcc40 : ((((w39.setCell ⟨gb106, 0, none⟩ (.int .i64 t110)).setCell ⟨gb106, 1, none⟩ (.int .i64 t111)).setCell ⟨gb106, 2, none⟩ (.bool t112)).setCell ⟨gb106, 2, none⟩ (.bool x8_19)).cell? ⟨gb106, 2, none⟩ = some (.bool x8_19) := (blk_cell (blk_put (blk_put (blk_put (blk_put BK106.out 0 (.int .i64 t110) rfl) 1 (.int .i64 t111) rfl) 2 (.bool t112) rfl) 2 (.bool x8_19) rfl) 2).trans rfl; have hfz40_0 := blk_frozen BK106.out 0; have hfz40_1 := blk_frozen BK106.out 1; have hfz40_2 := blk_frozen BK106.out 2) | ((with_reducible refine gate_builtin (b := .append) (xs := #[.tmp 69, .tmp 71]) rfl ?_); (try (refine gate_guard (by rfl) ?_; dsimp only)); at_builtin; refine Kd.R_append k95 (w0 := w) w.heap.size rfl (.tmp 69) (.tmp 71) 91 95 (.agg #[(.int .i64 0), (.int .i64 0), (.bool false)]) 24 rfl Try.underlying91 info95 rfl (by decide) (by omega) u4 x4_2 (⟨t110, t111, x8_19⟩ : S95) [.int .i64 t110, .int .i64 t111, .bool x8_19] (fun k_ => k_ ≠ gb106) (fun _ => False) rfl (by first | (go_simp; done) | (go_simp; rfl)) ?aP (fun _ hk => hk.elim) ?aF ?aO ?aB ?aS ?aL ?_; (case aP => exact k95_mkM _ _ _ (⟨t110, t111, x8_19⟩ : S95)); (case aB => exact (by repeat (first | (with_reducible first | exact HB.out | apply below_alloc | apply pw_below_drewN | apply below_drew1 | refine below_set ?_ GE106.out) | exact HB.out))); (case aF => exact (fun k_ hk => Kd.freshB (g := gb106) (o := .cells #[.int .i64 t110, .int .i64 t111, .bool x8_19] 95 (0, 0)) (by (with_reducible repeat (first | refine blk_drewN ?_ _ | refine blk_drew ?_ | refine blk_alloc ?_ _)); refine blk_put (cs := #[.int .i64 t110, .int .i64 t111, .bool t112]) ?_ 2 _ rfl; (with_reducible repeat (first | refine blk_drewN ?_ _ | refine blk_drew ?_ | refine blk_alloc ?_ _)); refine blk_put (cs := #[.int .i64 t110, .int .i64 t111, .bool x107002_2]) ?_ 2 _ rfl; (with_reducible repeat (first | refine blk_drewN ?_ _ | refine blk_drew ?_ | refine blk_alloc ?_ _)); refine blk_put (cs := #[.int .i64 t110, .int .i64 x107001_2, .bool x107002_2]) ?_ 1 _ rfl; (with_reducible repeat (first | refine blk_drewN ?_ _ | refine blk_drew ?_ | refine blk_alloc ?_ _)); refine blk_put (cs := #[.int .i64 x107000_2, .int .i64 x107001_2, .bool x107002_2]) ?_ 0 _ rfl; (with_reducible repeat (first | refine blk_drewN ?_ _ | refine blk_drew ?_ | refine blk_alloc ?_ _)); exact BK106.out) k_ hk)); (case aO => exact (by (with_reducible repeat (first | apply Kd.R_alloc | apply Kd.R_drewN | apply Kd.R_drew)); exact Kd.R_mono (Kd.R_far (p := ⟨gb106, 2, none⟩) (Kd.R_far (p := ⟨gb106, 2, none⟩) (Kd.R_far (p := ⟨gb106, 1, none⟩) (Kd.R_far (p := ⟨gb106, 0, none⟩) (Kd.R_mono HO_4.out (fun k_ hk => (⟨hk, hk⟩ : _ ∧ k_ ≠ gb106))) (fun _ hk => hk.2) (.int .i64 t110)) (fun _ hk => hk.2) (.int .i64 t111)) (fun _ hk => hk.2) (.bool t112)) (fun _ hk => hk.2) (.bool x8_19)) (fun _ hk => hk.1))); (case aS => exact (below_size (by repeat (first | (with_reducible first | exact HB.out | apply below_alloc | apply pw_below_drewN | apply below_drew1 | refine below_set ?_ GE106.out) | exact HB.out)))); (case aL => have := LMc30.out; omega); intro v116 w41 ho hb hg hat; rw [← Ny115.out] at ho; have n0_ := Aside0.mk (blk_grown (g := gb106) (o := .cells #[.int .i64 t110, .int .i64 t111, .bool x8_19] 95 (0, 0)) (by (with_reducible repeat (first | refine blk_drewN ?_ _ | refine blk_drew ?_ | refine blk_alloc ?_ _)); refine blk_put (cs := #[.int .i64 t110, .int .i64 t111, .bool t112]) ?_ 2 _ rfl; (with_reducible repeat (first | refine blk_drewN ?_ _ | refine blk_drew ?_ | refine blk_alloc ?_ _)); refine blk_put (cs := #[.int .i64 t110, .int .i64 t111, .bool x107002_2]) ?_ 2 _ rfl; (with_reducible repeat (first | refine blk_drewN ?_ _ | refine blk_drew ?_ | refine blk_alloc ?_ _)); refine blk_put (cs := #[.int .i64 t110, .int .i64 x107001_2, .bool x107002_2]) ?_ 1 _ rfl; (with_reducible repeat (first | refine blk_drewN ?_ _ | refine blk_drew ?_ | refine blk_alloc ?_ _)); refine blk_put (cs := #[.int .i64 x107000_2, .int .i64 x107001_2, .bool x107002_2]) ?_ 0 _ rfl; (with_reducible repeat (first | refine blk_drewN ?_ _ | refine blk_drew ?_ | refine blk_alloc ?_ _)); exact BK106.out) hg (Kd.R_away HO_4.out (fun _ hk => hk))); have n1_ := Aside0.mk (hb); have n2_ := Aside0.mk (ho); clear BK106; clear HB; clear HO_4; have BK106 := n0_; have HB := n1_; have HO117 := n2_; clear n0_ n1_ n2_; clear ho hb hg hat; have p37 : 0 ≤ (t113 : Int) := of_decide_eq_true (by first | (with_reducible assumption) | assumption); have q37 : t113 < (a0.size : Int) := of_decide_eq_true (by first | (with_reducible assumption) | assumption); have hx37 := bt_at a0 t113; replace p37 := eq_true p37; replace q37 := eq_true q37))
                                    go_roundg kj19
                                    case measure => have := HJ2.out; have := HK2.out; have := HJ15.out; have := HJ19.out; omega
                                    case rel => exact ⟨(y115), (wrap64 (t113 + 1)), (t110), (t111), (x8_19), (by first | rfl | (simp; done) | (simp [*]; done)), H', ⟨by have := HJ2.out; have := HK2.out; have := HJ15.out; have := HJ19.out; omega⟩, ⟨by (with_reducible repeat (first | apply Kd.R_alloc | apply Kd.R_drewN | apply Kd.R_drew)); exact HO117.out⟩, ⟨by (with_reducible repeat (first | refine blk_drewN ?_ _ | refine blk_drew ?_ | refine blk_alloc ?_ _)); exact BK106.out⟩, ⟨by repeat (first | (with_reducible first | exact HB.out | apply below_alloc | apply pw_below_drewN | apply below_drew1 | refine below_set ?_ GE106.out) | exact HB.out)⟩⟩
                                  · rw [if_neg c38] at H
                                    have c38b0 : ((bt a0 t113) == 44) = false := beq_eq_false_iff_ne.mpr c38
                                    have c38b1 : ((bt a0 t113) != 44) = true := bne_iff_ne.mpr c38
                                    by_cases c43 : (bt a0 t113) = 45
                                    · rw [if_pos c43] at H
                                      have c43b0 : ((bt a0 t113) == 45) = true := beq_iff_eq.mpr c43
                                      have c43b1 : ((bt a0 t113) != 45) = false := bne_eq_false_iff_eq.mpr c43
                                      clear c43
                                      by_cases c44 : x8_19 = true
                                      · subst c44
                                        have H1 : (some (([] : List (S95)), t113)) = some (r1, r2) := by rw [if_pos rfl] at H; exact H
                                        clear H
                                        have H := H1
                                        clear H1
                                        simp only [Option.some.injEq, Prod.mk.injEq] at H
                                        obtain ⟨rfl, rfl⟩ := H
                                        go_wp2_with (first | ((with_reducible refine gate_callee (f := 83) rfl ?_); refine goesL_ (some 60) rfl rfl Try.func83 (by kernel_rfl) rfl #[.string a0, .int .i64 x6_2] rfl (by (try simp only [List.map_toArray, List.map_cons, List.map_nil]); first | done | rfl | (simp only [List.length_drop, List.length_take]; rfl)) ?_; (with_reducible refine (bitset_digits.calls kj19 a0 x6_2 t110 t111 t112 t113 true _ A28.out).mono ?_); rintro e w45 ⟨rfl, hb⟩; refine ⟨_, rfl, ?_⟩; have n0_ := Aside0.mk (Kd.R_below (by (with_reducible repeat (first | apply Kd.R_alloc | apply Kd.R_drewN | apply Kd.R_drew)); exact HO_4.out) hb); have n1_ := Aside0.mk (blk_below (g := gb106) (o := .cells #[.int .i64 x107000_2, .int .i64 x107001_2, .bool x107002_2] 95 (0, 0)) (by (with_reducible repeat (first | refine blk_drewN ?_ _ | refine blk_drew ?_ | refine blk_alloc ?_ _)); exact BK106.out) hb); have n2_ := Aside0.mk (below_step (by repeat (first | (with_reducible first | exact HB.out | apply below_alloc | apply pw_below_drewN | apply below_drew1 | refine below_set ?_ GE106.out) | exact HB.out)) hb); clear HO_4; clear BK106; clear HB; have HO_4 := n0_; have BK106 := n1_; have HB := n2_; clear n0_ n1_ n2_; (try clear hb); (try clear hb2); (try clear hk); (try clear hi); have hcz46_0 : w45.cell? ⟨gb106, 0, none⟩ = some (.int .i64 x107000_2) := (blk_cell BK106.out 0).trans rfl; have hcz46_1 : w45.cell? ⟨gb106, 1, none⟩ = some (.int .i64 x107001_2) := (blk_cell BK106.out 1).trans rfl; have hcz46_2 : w45.cell? ⟨gb106, 2, none⟩ = some (.bool x107002_2) := (blk_cell BK106.out 2).trans rfl; have hcc46 : ((((w45.setCell ⟨gb106, 0, none⟩ (.int .i64 t110)).setCell ⟨gb106, 1, none⟩ (.int .i64 t111)).setCell ⟨gb106, 2, none⟩ (.bool t112)).setCell ⟨gb106, 2, none⟩ (.bool true)).cell? ⟨gb106, 2, none⟩ = some (.bool true) := (blk_cell (blk_put (blk_put (blk_put (blk_put BK106.out 0 (.int .i64 t110) rfl) 1 (.int .i64 t111) rfl) 2 (.bool t112) rfl) 2 (.bool true) rfl) 2).trans rfl; have hfz46_0 := blk_frozen BK106.out 0; have hfz46_1 := blk_frozen BK106.out 1; have hfz46_2 := blk_frozen BK106.out 2) | ((with_reducible refine gate_builtin (b := .append) (xs := #[.tmp 69, .tmp 71]) rfl ?_); (try (refine gate_guard (by rfl) ?_; dsimp only)); at_builtin; refine Kd.R_append k95 (w0 := w) w.heap.size rfl (.tmp 69) (.tmp 71) 91 95 (.agg #[(.int .i64 0), (.int .i64 0), (.bool false)]) 24 rfl Try.underlying91 info95 rfl (by decide) (by omega) u4 x4_2 (⟨t110, t111, true⟩ : S95) [.int .i64 t110, .int .i64 t111, .bool true] (fun k_ => k_ ≠ gb106) (fun _ => False) rfl (by first | (go_simp; done) | (go_simp; rfl)) ?aP (fun _ hk => hk.elim) ?aF ?aO ?aB ?aS ?aL ?_; (case aP => exact k95_mkM _ _ _ (⟨t110, t111, true⟩ : S95)); (case aB => exact (by repeat (first | (with_reducible first | exact HB.out | apply below_alloc | apply pw_below_drewN | apply below_drew1 | refine below_set ?_ GE106.out) | exact HB.out))); (case aF => exact (fun k_ hk => Kd.freshB (g := gb106) (o := .cells #[.int .i64 t110, .int .i64 t111, .bool true] 95 (0, 0)) (by (with_reducible repeat (first | refine blk_drewN ?_ _ | refine blk_drew ?_ | refine blk_alloc ?_ _)); refine blk_put (cs := #[.int .i64 t110, .int .i64 t111, .bool t112]) ?_ 2 _ rfl; (with_reducible repeat (first | refine blk_drewN ?_ _ | refine blk_drew ?_ | refine blk_alloc ?_ _)); refine blk_put (cs := #[.int .i64 t110, .int .i64 t111, .bool x107002_2]) ?_ 2 _ rfl; (with_reducible repeat (first | refine blk_drewN ?_ _ | refine blk_drew ?_ | refine blk_alloc ?_ _)); refine blk_put (cs := #[.int .i64 t110, .int .i64 x107001_2, .bool x107002_2]) ?_ 1 _ rfl; (with_reducible repeat (first | refine blk_drewN ?_ _ | refine blk_drew ?_ | refine blk_alloc ?_ _)); refine blk_put (cs := #[.int .i64 x107000_2, .int .i64 x107001_2, .bool x107002_2]) ?_ 0 _ rfl; (with_reducible repeat (first | refine blk_drewN ?_ _ | refine blk_drew ?_ | refine blk_alloc ?_ _)); exact BK106.out) k_ hk)); (case aO => exact (by (with_reducible repeat (first | apply Kd.R_alloc | apply Kd.R_drewN | apply Kd.R_drew)); exact Kd.R_mono (Kd.R_far (p := ⟨gb106, 2, none⟩) (Kd.R_far (p := ⟨gb106, 2, none⟩) (Kd.R_far (p := ⟨gb106, 1, none⟩) (Kd.R_far (p := ⟨gb106, 0, none⟩) (Kd.R_mono HO_4.out (fun k_ hk => (⟨hk, hk⟩ : _ ∧ k_ ≠ gb106))) (fun _ hk => hk.2) (.int .i64 t110)) (fun _ hk => hk.2) (.int .i64 t111)) (fun _ hk => hk.2) (.bool t112)) (fun _ hk => hk.2) (.bool true)) (fun _ hk => hk.1))); (case aS => exact (below_size (by repeat (first | (with_reducible first | exact HB.out | apply below_alloc | apply pw_below_drewN | apply below_drew1 | refine below_set ?_ GE106.out) | exact HB.out)))); (case aL => have := LMc30.out; omega); intro v116 w47 ho hb hg hat; rw [← Ny115.out] at ho; have n0_ := Aside0.mk (blk_grown (g := gb106) (o := .cells #[.int .i64 t110, .int .i64 t111, .bool true] 95 (0, 0)) (by (with_reducible repeat (first | refine blk_drewN ?_ _ | refine blk_drew ?_ | refine blk_alloc ?_ _)); refine blk_put (cs := #[.int .i64 t110, .int .i64 t111, .bool t112]) ?_ 2 _ rfl; (with_reducible repeat (first | refine blk_drewN ?_ _ | refine blk_drew ?_ | refine blk_alloc ?_ _)); refine blk_put (cs := #[.int .i64 t110, .int .i64 t111, .bool x107002_2]) ?_ 2 _ rfl; (with_reducible repeat (first | refine blk_drewN ?_ _ | refine blk_drew ?_ | refine blk_alloc ?_ _)); refine blk_put (cs := #[.int .i64 t110, .int .i64 x107001_2, .bool x107002_2]) ?_ 1 _ rfl; (with_reducible repeat (first | refine blk_drewN ?_ _ | refine blk_drew ?_ | refine blk_alloc ?_ _)); refine blk_put (cs := #[.int .i64 x107000_2, .int .i64 x107001_2, .bool x107002_2]) ?_ 0 _ rfl; (with_reducible repeat (first | refine blk_drewN ?_ _ | refine blk_drew ?_ | refine blk_alloc ?_ _)); exact BK106.out) hg (Kd.R_away HO_4.out (fun _ hk => hk))); have n1_ := Aside0.mk (hb); have n2_ := Aside0.mk (ho); clear BK106; clear HB; clear HO_4; have BK106 := n0_; have HB := n1_; have HO117 := n2_; clear n0_ n1_ n2_; clear ho hb hg hat; have p37 : 0 ≤ (t113 : Int) := of_decide_eq_true (by first | (with_reducible assumption) | assumption); have q37 : t113 < (a0.size : Int) := of_decide_eq_true (by first | (with_reducible assumption) | assumption); have hx37 := bt_at a0 t113; replace p37 := eq_true p37; replace q37 := eq_true q37; have p42 : 0 ≤ (t113 : Int) := of_decide_eq_true (by first | (with_reducible assumption) | assumption); have q42 : t113 < (a0.size : Int) := of_decide_eq_true (by first | (with_reducible assumption) | assumption); have hx42 := bt_at a0 t113; replace p42 := eq_true p42; replace q42 := eq_true q42))
                                        go_ret2
                                        exact ⟨_, by first | rfl | (simp [errW_none, errW_some] <;> rfl) | (simp [*, errW_none, errW_some] <;> rfl), by first | exact Kd.R_nil _ _ _ _ _ | exact Kd.N_nil _ _ _ _ _ | exact Kd.V_nil _ _ _ _ _ | exact Kd.Q_nil _ _ _ _ _ | exact Kd.S_nil _ _ _ _ _, by repeat (first | (with_reducible first | exact HB.out | apply below_alloc | apply pw_below_drewN | apply below_drew1 | refine below_set ?_ GE106.out) | exact HB.out)⟩
                                      · replace c44 := Bool.eq_false_iff.mpr c44
                                        subst c44
                                        have H1 : (bitset_numbers.l0 kj19 a0 y115 (wrap64 (t113 + 1))) = some (r1, r2) := by rw [if_neg (show ¬ (false = true) by decide)] at H; exact H
                                        clear H
                                        have H := H1
                                        clear H1
                                        have H' := Aside0.mk H
                                        clear H
                                        go_wp2_with (first | ((with_reducible refine gate_callee (f := 83) rfl ?_); refine goesL_ (some 60) rfl rfl Try.func83 (by kernel_rfl) rfl #[.string a0, .int .i64 x6_2] rfl (by (try simp only [List.map_toArray, List.map_cons, List.map_nil]); first | done | rfl | (simp only [List.length_drop, List.length_take]; rfl)) ?_; (with_reducible refine (bitset_digits.calls kj19 a0 x6_2 t110 t111 t112 t113 true _ A28.out).mono ?_); rintro e w48 ⟨rfl, hb⟩; refine ⟨_, rfl, ?_⟩; have n0_ := Aside0.mk (Kd.R_below (by (with_reducible repeat (first | apply Kd.R_alloc | apply Kd.R_drewN | apply Kd.R_drew)); exact HO_4.out) hb); have n1_ := Aside0.mk (blk_below (g := gb106) (o := .cells #[.int .i64 x107000_2, .int .i64 x107001_2, .bool x107002_2] 95 (0, 0)) (by (with_reducible repeat (first | refine blk_drewN ?_ _ | refine blk_drew ?_ | refine blk_alloc ?_ _)); exact BK106.out) hb); have n2_ := Aside0.mk (below_step (by repeat (first | (with_reducible first | exact HB.out | apply below_alloc | apply pw_below_drewN | apply below_drew1 | refine below_set ?_ GE106.out) | exact HB.out)) hb); clear HO_4; clear BK106; clear HB; have HO_4 := n0_; have BK106 := n1_; have HB := n2_; clear n0_ n1_ n2_; (try clear hb); (try clear hb2); (try clear hk); (try clear hi); have hcz49_0 : w48.cell? ⟨gb106, 0, none⟩ = some (.int .i64 x107000_2) := (blk_cell BK106.out 0).trans rfl; have hcz49_1 : w48.cell? ⟨gb106, 1, none⟩ = some (.int .i64 x107001_2) := (blk_cell BK106.out 1).trans rfl; have hcz49_2 : w48.cell? ⟨gb106, 2, none⟩ = some (.bool x107002_2) := (blk_cell BK106.out 2).trans rfl; have hcc49 : ((((w48.setCell ⟨gb106, 0, none⟩ (.int .i64 t110)).setCell ⟨gb106, 1, none⟩ (.int .i64 t111)).setCell ⟨gb106, 2, none⟩ (.bool t112)).setCell ⟨gb106, 2, none⟩ (.bool false)).cell? ⟨gb106, 2, none⟩ = some (.bool false) := (blk_cell (blk_put (blk_put (blk_put (blk_put BK106.out 0 (.int .i64 t110) rfl) 1 (.int .i64 t111) rfl) 2 (.bool t112) rfl) 2 (.bool false) rfl) 2).trans rfl; have hfz49_0 := blk_frozen BK106.out 0; have hfz49_1 := blk_frozen BK106.out 1; have hfz49_2 := blk_frozen BK106.out 2) | ((with_reducible refine gate_builtin (b := .append) (xs := #[.tmp 69, .tmp 71]) rfl ?_); (try (refine gate_guard (by rfl) ?_; dsimp only)); at_builtin; refine Kd.R_append k95 (w0 := w) w.heap.size rfl (.tmp 69) (.tmp 71) 91 95 (.agg #[(.int .i64 0), (.int .i64 0), (.bool false)]) 24 rfl Try.underlying91 info95 rfl (by decide) (by omega) u4 x4_2 (⟨t110, t111, false⟩ : S95) [.int .i64 t110, .int .i64 t111, .bool false] (fun k_ => k_ ≠ gb106) (fun _ => False) rfl (by first | (go_simp; done) | (go_simp; rfl)) ?aP (fun _ hk => hk.elim) ?aF ?aO ?aB ?aS ?aL ?_; (case aP => exact k95_mkM _ _ _ (⟨t110, t111, false⟩ : S95)); (case aB => exact (by repeat (first | (with_reducible first | exact HB.out | apply below_alloc | apply pw_below_drewN | apply below_drew1 | refine below_set ?_ GE106.out) | exact HB.out))); (case aF => exact (fun k_ hk => Kd.freshB (g := gb106) (o := .cells #[.int .i64 t110, .int .i64 t111, .bool false] 95 (0, 0)) (by (with_reducible repeat (first | refine blk_drewN ?_ _ | refine blk_drew ?_ | refine blk_alloc ?_ _)); refine blk_put (cs := #[.int .i64 t110, .int .i64 t111, .bool t112]) ?_ 2 _ rfl; (with_reducible repeat (first | refine blk_drewN ?_ _ | refine blk_drew ?_ | refine blk_alloc ?_ _)); refine blk_put (cs := #[.int .i64 t110, .int .i64 t111, .bool x107002_2]) ?_ 2 _ rfl; (with_reducible repeat (first | refine blk_drewN ?_ _ | refine blk_drew ?_ | refine blk_alloc ?_ _)); refine blk_put (cs := #[.int .i64 t110, .int .i64 x107001_2, .bool x107002_2]) ?_ 1 _ rfl; (with_reducible repeat (first | refine blk_drewN ?_ _ | refine blk_drew ?_ | refine blk_alloc ?_ _)); refine blk_put (cs := #[.int .i64 x107000_2, .int .i64 x107001_2, .bool x107002_2]) ?_ 0 _ rfl; (with_reducible repeat (first | refine blk_drewN ?_ _ | refine blk_drew ?_ | refine blk_alloc ?_ _)); exact BK106.out) k_ hk)); (case aO => exact (by (with_reducible repeat (first | apply Kd.R_alloc | apply Kd.R_drewN | apply Kd.R_drew)); exact Kd.R_mono (Kd.R_far (p := ⟨gb106, 2, none⟩) (Kd.R_far (p := ⟨gb106, 2, none⟩) (Kd.R_far (p := ⟨gb106, 1, none⟩) (Kd.R_far (p := ⟨gb106, 0, none⟩) (Kd.R_mono HO_4.out (fun k_ hk => (⟨hk, hk⟩ : _ ∧ k_ ≠ gb106))) (fun _ hk => hk.2) (.int .i64 t110)) (fun _ hk => hk.2) (.int .i64 t111)) (fun _ hk => hk.2) (.bool t112)) (fun _ hk => hk.2) (.bool false)) (fun _ hk => hk.1))); (case aS => exact (below_size (by repeat (first | (with_reducible first | exact HB.out | apply below_alloc | apply pw_below_drewN | apply below_drew1 | refine below_set ?_ GE106.out) | exact HB.out)))); (case aL => have := LMc30.out; omega); intro v116 w50 ho hb hg hat; rw [← Ny115.out] at ho; have n0_ := Aside0.mk (blk_grown (g := gb106) (o := .cells #[.int .i64 t110, .int .i64 t111, .bool false] 95 (0, 0)) (by (with_reducible repeat (first | refine blk_drewN ?_ _ | refine blk_drew ?_ | refine blk_alloc ?_ _)); refine blk_put (cs := #[.int .i64 t110, .int .i64 t111, .bool t112]) ?_ 2 _ rfl; (with_reducible repeat (first | refine blk_drewN ?_ _ | refine blk_drew ?_ | refine blk_alloc ?_ _)); refine blk_put (cs := #[.int .i64 t110, .int .i64 t111, .bool x107002_2]) ?_ 2 _ rfl; (with_reducible repeat (first | refine blk_drewN ?_ _ | refine blk_drew ?_ | refine blk_alloc ?_ _)); refine blk_put (cs := #[.int .i64 t110, .int .i64 x107001_2, .bool x107002_2]) ?_ 1 _ rfl; (with_reducible repeat (first | refine blk_drewN ?_ _ | refine blk_drew ?_ | refine blk_alloc ?_ _)); refine blk_put (cs := #[.int .i64 x107000_2, .int .i64 x107001_2, .bool x107002_2]) ?_ 0 _ rfl; (with_reducible repeat (first | refine blk_drewN ?_ _ | refine blk_drew ?_ | refine blk_alloc ?_ _)); exact BK106.out) hg (Kd.R_away HO_4.out (fun _ hk => hk))); have n1_ := Aside0.mk (hb); have n2_ := Aside0.mk (ho); clear BK106; clear HB; clear HO_4; have BK106 := n0_; have HB := n1_; have HO117 := n2_; clear n0_ n1_ n2_; clear ho hb hg hat; have p37 : 0 ≤ (t113 : Int) := of_decide_eq_true (by first | (with_reducible assumption) | assumption); have q37 : t113 < (a0.size : Int) := of_decide_eq_true (by first | (with_reducible assumption) | assumption); have hx37 := bt_at a0 t113; replace p37 := eq_true p37; replace q37 := eq_true q37; have p42 : 0 ≤ (t113 : Int) := of_decide_eq_true (by first | (with_reducible assumption) | assumption); have q42 : t113 < (a0.size : Int) := of_decide_eq_true (by first | (with_reducible assumption) | assumption); have hx42 := bt_at a0 t113; replace p42 := eq_true p42; replace q42 := eq_true q42))
                                        go_roundg kj19
                                        case measure => have := HJ2.out; have := HK2.out; have := HJ15.out; have := HJ19.out; omega
                                        case rel => exact ⟨(y115), (wrap64 (t113 + 1)), (t110), (t111), (false), (by first | rfl | (simp; done) | (simp [*]; done)), H', ⟨by have := HJ2.out; have := HK2.out; have := HJ15.out; have := HJ19.out; omega⟩, ⟨by (with_reducible repeat (first | apply Kd.R_alloc | apply Kd.R_drewN | apply Kd.R_drew)); exact HO117.out⟩, ⟨by (with_reducible repeat (first | refine blk_drewN ?_ _ | refine blk_drew ?_ | refine blk_alloc ?_ _)); exact BK106.out⟩, ⟨by repeat (first | (with_reducible first | exact HB.out | apply below_alloc | apply pw_below_drewN | apply below_drew1 | refine below_set ?_ GE106.out) | exact HB.out)⟩⟩
                                    · rw [if_neg c43] at H
                                      have c43b0 : ((bt a0 t113) == 45) = false := beq_eq_false_iff_ne.mpr c43
                                      have c43b1 : ((bt a0 t113) != 45) = true := bne_iff_ne.mpr c43
                                      simp only [Option.some.injEq, Prod.mk.injEq] at H
                                      obtain ⟨rfl, rfl⟩ := H
                                      go_wp2_with (first | ((with_reducible refine gate_callee (f := 83) rfl ?_); refine goesL_ (some 60) rfl rfl Try.func83 (by kernel_rfl) rfl #[.string a0, .int .i64 x6_2] rfl (by (try simp only [List.map_toArray, List.map_cons, List.map_nil]); first | done | rfl | (simp only [List.length_drop, List.length_take]; rfl)) ?_; (with_reducible refine (bitset_digits.calls kj19 a0 x6_2 t110 t111 t112 t113 true _ A28.out).mono ?_); rintro e w51 ⟨rfl, hb⟩; refine ⟨_, rfl, ?_⟩; have n0_ := Aside0.mk (Kd.R_below (by (with_reducible repeat (first | apply Kd.R_alloc | apply Kd.R_drewN | apply Kd.R_drew)); exact HO_4.out) hb); have n1_ := Aside0.mk (blk_below (g := gb106) (o := .cells #[.int .i64 x107000_2, .int .i64 x107001_2, .bool x107002_2] 95 (0, 0)) (by (with_reducible repeat (first | refine blk_drewN ?_ _ | refine blk_drew ?_ | refine blk_alloc ?_ _)); exact BK106.out) hb); have n2_ := Aside0.mk (below_step (by repeat (first | (with_reducible first | exact HB.out | apply below_alloc | apply pw_below_drewN | apply below_drew1 | refine below_set ?_ GE106.out) | exact HB.out)) hb); clear HO_4; clear BK106; clear HB; have HO_4 := n0_; have BK106 := n1_; have HB := n2_; clear n0_ n1_ n2_; (try clear hb); (try clear hb2); (try clear hk); (try clear hi); have hcz52_0 : w51.cell? ⟨gb106, 0, none⟩ = some (.int .i64 x107000_2) := (blk_cell BK106.out 0).trans rfl; have hcz52_1 : w51.cell? ⟨gb106, 1, none⟩ = some (.int .i64 x107001_2) := (blk_cell BK106.out 1).trans rfl; have hcz52_2 : w51.cell? ⟨gb106, 2, none⟩ = some (.bool x107002_2) := (blk_cell BK106.out 2).trans rfl; have hcc52 : ((((w51.setCell ⟨gb106, 0, none⟩ (.int .i64 t110)).setCell ⟨gb106, 1, none⟩ (.int .i64 t111)).setCell ⟨gb106, 2, none⟩ (.bool t112)).setCell ⟨gb106, 2, none⟩ (.bool x8_19)).cell? ⟨gb106, 2, none⟩ = some (.bool x8_19) := (blk_cell (blk_put (blk_put (blk_put (blk_put BK106.out 0 (.int .i64 t110) rfl) 1 (.int .i64 t111) rfl) 2 (.bool t112) rfl) 2 (.bool x8_19) rfl) 2).trans rfl; have hfz52_0 := blk_frozen BK106.out 0; have hfz52_1 := blk_frozen BK106.out 1; have hfz52_2 := blk_frozen BK106.out 2) | ((with_reducible refine gate_builtin (b := .append) (xs := #[.tmp 69, .tmp 71]) rfl ?_); (try (refine gate_guard (by rfl) ?_; dsimp only)); at_builtin; refine Kd.R_append k95 (w0 := w) w.heap.size rfl (.tmp 69) (.tmp 71) 91 95 (.agg #[(.int .i64 0), (.int .i64 0), (.bool false)]) 24 rfl Try.underlying91 info95 rfl (by decide) (by omega) u4 x4_2 (⟨t110, t111, x8_19⟩ : S95) [.int .i64 t110, .int .i64 t111, .bool x8_19] (fun k_ => k_ ≠ gb106) (fun _ => False) rfl (by first | (go_simp; done) | (go_simp; rfl)) ?aP (fun _ hk => hk.elim) ?aF ?aO ?aB ?aS ?aL ?_; (case aP => exact k95_mkM _ _ _ (⟨t110, t111, x8_19⟩ : S95)); (case aB => exact (by repeat (first | (with_reducible first | exact HB.out | apply below_alloc | apply pw_below_drewN | apply below_drew1 | refine below_set ?_ GE106.out) | exact HB.out))); (case aF => exact (fun k_ hk => Kd.freshB (g := gb106) (o := .cells #[.int .i64 t110, .int .i64 t111, .bool x8_19] 95 (0, 0)) (by (with_reducible repeat (first | refine blk_drewN ?_ _ | refine blk_drew ?_ | refine blk_alloc ?_ _)); refine blk_put (cs := #[.int .i64 t110, .int .i64 t111, .bool t112]) ?_ 2 _ rfl; (with_reducible repeat (first | refine blk_drewN ?_ _ | refine blk_drew ?_ | refine blk_alloc ?_ _)); refine blk_put (cs := #[.int .i64 t110, .int .i64 t111, .bool x107002_2]) ?_ 2 _ rfl; (with_reducible repeat (first | refine blk_drewN ?_ _ | refine blk_drew ?_ | refine blk_alloc ?_ _)); refine blk_put (cs := #[.int .i64 t110, .int .i64 x107001_2, .bool x107002_2]) ?_ 1 _ rfl; (with_reducible repeat (first | refine blk_drewN ?_ _ | refine blk_drew ?_ | refine blk_alloc ?_ _)); refine blk_put (cs := #[.int .i64 x107000_2, .int .i64 x107001_2, .bool x107002_2]) ?_ 0 _ rfl; (with_reducible repeat (first | refine blk_drewN ?_ _ | refine blk_drew ?_ | refine blk_alloc ?_ _)); exact BK106.out) k_ hk)); (case aO => exact (by (with_reducible repeat (first | apply Kd.R_alloc | apply Kd.R_drewN | apply Kd.R_drew)); exact Kd.R_mono (Kd.R_far (p := ⟨gb106, 2, none⟩) (Kd.R_far (p := ⟨gb106, 2, none⟩) (Kd.R_far (p := ⟨gb106, 1, none⟩) (Kd.R_far (p := ⟨gb106, 0, none⟩) (Kd.R_mono HO_4.out (fun k_ hk => (⟨hk, hk⟩ : _ ∧ k_ ≠ gb106))) (fun _ hk => hk.2) (.int .i64 t110)) (fun _ hk => hk.2) (.int .i64 t111)) (fun _ hk => hk.2) (.bool t112)) (fun _ hk => hk.2) (.bool x8_19)) (fun _ hk => hk.1))); (case aS => exact (below_size (by repeat (first | (with_reducible first | exact HB.out | apply below_alloc | apply pw_below_drewN | apply below_drew1 | refine below_set ?_ GE106.out) | exact HB.out)))); (case aL => have := LMc30.out; omega); intro v116 w53 ho hb hg hat; rw [← Ny115.out] at ho; have n0_ := Aside0.mk (blk_grown (g := gb106) (o := .cells #[.int .i64 t110, .int .i64 t111, .bool x8_19] 95 (0, 0)) (by (with_reducible repeat (first | refine blk_drewN ?_ _ | refine blk_drew ?_ | refine blk_alloc ?_ _)); refine blk_put (cs := #[.int .i64 t110, .int .i64 t111, .bool t112]) ?_ 2 _ rfl; (with_reducible repeat (first | refine blk_drewN ?_ _ | refine blk_drew ?_ | refine blk_alloc ?_ _)); refine blk_put (cs := #[.int .i64 t110, .int .i64 t111, .bool x107002_2]) ?_ 2 _ rfl; (with_reducible repeat (first | refine blk_drewN ?_ _ | refine blk_drew ?_ | refine blk_alloc ?_ _)); refine blk_put (cs := #[.int .i64 t110, .int .i64 x107001_2, .bool x107002_2]) ?_ 1 _ rfl; (with_reducible repeat (first | refine blk_drewN ?_ _ | refine blk_drew ?_ | refine blk_alloc ?_ _)); refine blk_put (cs := #[.int .i64 x107000_2, .int .i64 x107001_2, .bool x107002_2]) ?_ 0 _ rfl; (with_reducible repeat (first | refine blk_drewN ?_ _ | refine blk_drew ?_ | refine blk_alloc ?_ _)); exact BK106.out) hg (Kd.R_away HO_4.out (fun _ hk => hk))); have n1_ := Aside0.mk (hb); have n2_ := Aside0.mk (ho); clear BK106; clear HB; clear HO_4; have BK106 := n0_; have HB := n1_; have HO117 := n2_; clear n0_ n1_ n2_; clear ho hb hg hat; have p37 : 0 ≤ (t113 : Int) := of_decide_eq_true (by first | (with_reducible assumption) | assumption); have q37 : t113 < (a0.size : Int) := of_decide_eq_true (by first | (with_reducible assumption) | assumption); have hx37 := bt_at a0 t113; replace p37 := eq_true p37; replace q37 := eq_true q37; have p42 : 0 ≤ (t113 : Int) := of_decide_eq_true (by first | (with_reducible assumption) | assumption); have q42 : t113 < (a0.size : Int) := of_decide_eq_true (by first | (with_reducible assumption) | assumption); have hx42 := bt_at a0 t113; replace p42 := eq_true p42; replace q42 := eq_true q42))
                                      go_ret2
                                      exact ⟨_, by first | rfl | (simp [errW_none, errW_some] <;> rfl) | (simp [*, errW_none, errW_some] <;> rfl), by first | exact Kd.R_nil _ _ _ _ _ | exact Kd.N_nil _ _ _ _ _ | exact Kd.V_nil _ _ _ _ _ | exact Kd.Q_nil _ _ _ _ _ | exact Kd.S_nil _ _ _ _ _, by repeat (first | (with_reducible first | exact HB.out | apply below_alloc | apply pw_below_drewN | apply below_drew1 | refine below_set ?_ GE106.out) | exact HB.out)⟩
                                · rw [if_neg c36] at H
                                  exact absurd H (by simp)
                              · rw [if_neg c35] at H
                                exact absurd H (by simp)
                          · rw [if_neg c30] at H
                            exact absurd H (by simp)
                        · replace c29 := Bool.eq_false_iff.mpr c29
                          subst c29
                          have H1 : (some (([] : List (S95)), t113)) = some (r1, r2) := by rw [if_neg (show ¬ (false = true) by decide)] at H; exact H
                          clear H
                          have H := H1
                          clear H1
                          simp only [Option.some.injEq, Prod.mk.injEq] at H
                          obtain ⟨rfl, rfl⟩ := H
                          go_wp2_with (first | ((with_reducible refine gate_callee (f := 83) rfl ?_); refine goesL_ (some 60) rfl rfl Try.func83 (by kernel_rfl) rfl #[.string a0, .int .i64 x6_2] rfl (by (try simp only [List.map_toArray, List.map_cons, List.map_nil]); first | done | rfl | (simp only [List.length_drop, List.length_take]; rfl)) ?_; (with_reducible refine (bitset_digits.calls kj19 a0 x6_2 t110 t111 t112 t113 false _ A28.out).mono ?_); rintro e w54 ⟨rfl, hb⟩; refine ⟨_, rfl, ?_⟩; have n0_ := Aside0.mk (Kd.R_below (by (with_reducible repeat (first | apply Kd.R_alloc | apply Kd.R_drewN | apply Kd.R_drew)); exact HO_4.out) hb); have n1_ := Aside0.mk (blk_below (g := gb106) (o := .cells #[.int .i64 x107000_2, .int .i64 x107001_2, .bool x107002_2] 95 (0, 0)) (by (with_reducible repeat (first | refine blk_drewN ?_ _ | refine blk_drew ?_ | refine blk_alloc ?_ _)); exact BK106.out) hb); have n2_ := Aside0.mk (below_step (by repeat (first | (with_reducible first | exact HB.out | apply below_alloc | apply pw_below_drewN | apply below_drew1 | refine below_set ?_ GE106.out) | exact HB.out)) hb); clear HO_4; clear BK106; clear HB; have HO_4 := n0_; have BK106 := n1_; have HB := n2_; clear n0_ n1_ n2_; (try clear hb); (try clear hb2); (try clear hk); (try clear hi); have hcz55_0 : w54.cell? ⟨gb106, 0, none⟩ = some (.int .i64 x107000_2) := (blk_cell BK106.out 0).trans rfl; have hcz55_1 : w54.cell? ⟨gb106, 1, none⟩ = some (.int .i64 x107001_2) := (blk_cell BK106.out 1).trans rfl; have hcz55_2 : w54.cell? ⟨gb106, 2, none⟩ = some (.bool x107002_2) := (blk_cell BK106.out 2).trans rfl; have hfz55_0 := blk_frozen BK106.out 0; have hfz55_1 := blk_frozen BK106.out 1; have hfz55_2 := blk_frozen BK106.out 2))
                          go_ret2
                          exact ⟨_, by first | rfl | (simp [errW_none, errW_some] <;> rfl) | (simp [*, errW_none, errW_some] <;> rfl), by first | exact Kd.R_nil _ _ _ _ _ | exact Kd.N_nil _ _ _ _ _ | exact Kd.V_nil _ _ _ _ _ | exact Kd.Q_nil _ _ _ _ _ | exact Kd.S_nil _ _ _ _ _, by repeat (first | (with_reducible first | exact HB.out | apply below_alloc | apply pw_below_drewN | apply below_drew1 | refine below_set ?_ GE106.out) | exact HB.out)⟩
                  · replace c19 := Bool.eq_false_iff.mpr c19
                    subst c19
                    have H1 : (some (x4_2, (-1))) = some (r1, r2) := by rw [if_neg (show ¬ (false = true) by decide)] at H; exact H
                    clear H
                    have H := H1
                    clear H1
                    simp only [Option.some.injEq, Prod.mk.injEq] at H
                    obtain ⟨rfl, rfl⟩ := H
                    go_wp2
                    go_ret2
                    exact ⟨_, by first | rfl | (simp [errW_none, errW_some] <;> rfl) | (simp [*, errW_none, errW_some] <;> rfl), by (with_reducible repeat (first | apply Kd.R_alloc | apply Kd.R_drewN | apply Kd.R_drew)); exact Kd.R_mono HO_4.out (fun _ hk => trivial), by repeat (first | (with_reducible first | exact HB.out | apply below_alloc | apply pw_below_drewN | apply below_drew1 | refine below_set ?_ GE106.out) | exact HB.out)⟩
        · rw [if_neg c13] at H
          exact absurd H (by simp)
end Go.Proofs.Ytjmkhdhffmlhiaa.PAll
end
section
namespace Go.Proofs.Ytjmkhdhffmlhiaa.PAll
open Go.RowKit Go.Proofs.YtjmkhdhffmlhiaaW.PrintWords Go.Proofs.YtjmkhdhffmlhiaaW.PrintLast Go.Proofs.YtjmkhdhffmlhiaaW.PrintMore
attribute [local go_sem] max2_int min2_int max_two min_two max_three min_three max_four min_four w64_u8 w64_mod256   -- for this text's walks alone
set_option linter.unusedVariables false
set_option linter.unusedSimpArgs false
def bitset_sized.f (a0 : Int) : Option (Bool) := if a0 ≥ 0 then (some (decide (a0 ≤ 4096))) else (some false)
set_option maxHeartbeats 8000000 in
set_option maxRecDepth 100000 in
theorem bitset_sized.calls (a0 : Int) (r : Bool) (w : World) (h : bitset_sized.f a0 = some r) :
    Calls Try.prog 55 #[.int .i64 a0] w fun e w' => e = .returned (.bool r) ∧ Drawn0 w w' := by
  have H : (if a0 ≥ 0 then (some (decide (a0 ≤ 4096))) else (some false)) = some r := h
  clear h
  by_cases c2 : a0 ≥ 0
  · rw [if_pos c2] at H
    have c2b0 : decide (0 ≤ a0) = true := decide_eq_true c2
    clear c2
    obtain rfl := Option.some.inj H
    go_enter Try.func55, Try.ntmps55
    go_wp2
    go_ret
    exact ⟨by first | rfl | (simp; done) | (simp [*]; done), by repeat (first | exact Drawn0.refl _ | apply Drawn0.step)⟩
  · rw [if_neg c2] at H
    have c2b0 : decide (0 ≤ a0) = false := decide_eq_false c2
    clear c2
    obtain rfl := Option.some.inj H
    go_enter Try.func55, Try.ntmps55
    go_wp2
    go_ret
    exact ⟨by first | rfl | (simp; done) | (simp [*]; done), by repeat (first | exact Drawn0.refl _ | apply Drawn0.step)⟩
end Go.Proofs.Ytjmkhdhffmlhiaa.PAll
end
section
namespace Go.Proofs.Ytjmkhdhffmlhiaa.PAll
open Go.RowKit Go.Proofs.YtjmkhdhffmlhiaaW.PrintWords Go.Proofs.YtjmkhdhffmlhiaaW.PrintLast Go.Proofs.YtjmkhdhffmlhiaaW.PrintMore
attribute [local go_sem] max2_int min2_int max_two min_two max_three min_three max_four min_four w64_u8 w64_mod256   -- for this text's walks alone
set_option linter.unusedVariables false
set_option linter.unusedSimpArgs false
def bitset_words.f (a0 : Int) : Option (Int) := some (wrap64 (Int.tdiv (wrap64 ((wrap64 (a0 + 64)) - 1)) 64))
set_option maxHeartbeats 8000000 in
set_option maxRecDepth 100000 in
theorem bitset_words.calls (a0 : Int) (r : Int) (w : World) (h : bitset_words.f a0 = some r) :
    Calls Try.prog 62 #[.int .i64 a0] w fun e w' => e = .returned (.int .i64 r) ∧ Drawn0 w w' := by
  have H : (some (wrap64 (Int.tdiv (wrap64 ((wrap64 (a0 + 64)) - 1)) 64))) = some r := h
  clear h
  obtain rfl := Option.some.inj H
  go_enter Try.func62, Try.ntmps62
  go_wp2
  go_ret
  exact ⟨by first | rfl | (simp; done) | (simp [*]; done), by repeat (first | exact Drawn0.refl _ | apply Drawn0.step)⟩
end Go.Proofs.Ytjmkhdhffmlhiaa.PAll
end
section
namespace Go.Proofs.Ytjmkhdhffmlhiaa.PAll
open Go.RowKit Go.Proofs.YtjmkhdhffmlhiaaW.PrintWords Go.Proofs.YtjmkhdhffmlhiaaW.PrintLast Go.Proofs.YtjmkhdhffmlhiaaW.PrintMore
attribute [local go_sem] max2_int min2_int max_two min_two max_three min_three max_four min_four w64_u8 w64_mod256   -- for this text's walks alone
set_option linter.unusedVariables false
set_option linter.unusedSimpArgs false
def bitset_blank.f (a0 : Int) : Option (Int × List Int) := (bitset_words.f a0).bind fun t102 => (if 0 ≤ t102 then (if (t102 : Int).toNat ≤ 35184372088832 then (some (a0, (List.replicate (t102 : Int).toNat 0))) else (none)) else (none))
set_option maxHeartbeats 8000000 in
set_option maxRecDepth 100000 in
theorem bitset_blank.calls (a0 : Int) (r1 : Int) (r2 : List Int) (w : World) (h : bitset_blank.f a0 = some (r1, r2)) :
    Calls Try.prog 56 #[.int .i64 a0] w fun e w' => ∃ v1_ : Value, e = .returned (.agg #[.int .i64 r1, v1_]) ∧ Kd.R (Kd.int .u64) 82 w' w.heap.size (fun _ => True) v1_ r2 ∧ Below w.heap.size w w' := by
  have hu26 := Try.underlying26
  have HB := Aside0.mk (Below.refl w.heap.size w)
  have H : ((bitset_words.f a0).bind fun t102 => (if 0 ≤ t102 then (if (t102 : Int).toNat ≤ 35184372088832 then (some (a0, (List.replicate (t102 : Int).toNat 0))) else (none)) else (none))) = some (r1, r2) := h
  clear h
  replace H := Option.bind_eq_some_iff.mp H
  obtain ⟨t102, A20, H⟩ := H
  replace H : (if 0 ≤ t102 then (if (t102 : Int).toNat ≤ 35184372088832 then (some (a0, (List.replicate (t102 : Int).toNat 0))) else (none)) else (none)) = some (r1, r2) := H
  have A2 := Aside0.mk A20
  clear A20
  by_cases c3 : 0 ≤ t102
  · rw [if_pos c3] at H
    have c3b0 := eq_true c3
    have c3b1 : decide (0 ≤ t102) = true := decide_eq_true c3
    clear c3
    by_cases c4 : (t102 : Int).toNat ≤ 35184372088832
    · rw [if_pos c4] at H
      have c4b0 := eq_true c4
      have c4b1 : decide ((t102 : Int).toNat ≤ 35184372088832) = true := decide_eq_true c4
      clear c4
      obtain ⟨y103, hy103⟩ : ∃ y_ : List Int, y_ = (List.replicate (t102 : Int).toNat 0) := ⟨_, rfl⟩
      replace H : (some (a0, y103)) = some (r1, r2) := by first | (rw [hy103]; with_reducible exact H) | (have H2_ := (Option.bind_some _ _).symm.trans H; rw [hy103]; with_reducible exact H2_) | (have H2_ := (Option.bind_some _ _).symm.trans H; with_reducible exact H2_) | with_reducible exact H | (rw [hy103]; exact H) | exact H
      have Ny103 := Aside0.mk hy103
      clear hy103
      simp only [Option.some.injEq, Prod.mk.injEq] at H
      obtain ⟨rfl, rfl⟩ := H
      go_enter Try.func56, Try.ntmps56
      go_wp2_with (first | ((with_reducible refine gate_dst (N := 2) rfl ?_); refine box_event ?hg (N := 2) ?hd (cs := #[.int .i64 0, .slice none 0 0]) (t := 26) ?hr ?_; (case hd => rfl); (case hg => rfl); (case hr => first | (go_simp; done) | (go_simp; rfl)); intro gb101 hg w5 hbox hb; have n0_ := Aside0.mk (below_step (by repeat (first | (with_reducible first | exact HB.out | apply below_alloc | apply pw_below_drewN | apply below_drew1) | exact HB.out)) hb); have n1_ := Aside0.mk (hbox); have n2_ := Aside0.mk ((by rw [hg]; exact (below_size (by repeat (first | (with_reducible first | exact HB.out | apply below_alloc | apply pw_below_drewN | apply below_drew1) | exact HB.out))) : w.heap.size ≤ gb101)); have n3_ := Aside0.mk ((by rw [hg]; exact (below_size (by repeat (first | (with_reducible first | exact HB.out | apply below_alloc | apply pw_below_drewN | apply below_drew1) | exact HB.out))) : w.heap.size ≤ gb101)); clear HB; have HB := n0_; have BK101 := n1_; have GW101 := n2_; have GE101 := n3_; clear n0_ n1_ n2_ n3_; clear hb hbox hg) | ((with_reducible refine gate_callee (f := 62) rfl ?_); refine goesL_ (some 5) rfl rfl Try.func62 (by kernel_rfl) rfl #[.int .i64 a0] rfl (by (try simp only [List.map_toArray, List.map_cons, List.map_nil]); first | done | rfl | (simp only [List.length_drop, List.length_take]; rfl)) ?_; (with_reducible refine (bitset_words.calls a0 t102 _ A2.out).mono ?_); rintro e w' ⟨rfl, ⟨nd, rfl⟩⟩; refine ⟨_, rfl, ?_⟩; (try (rw [drewN_self w5]; generalize hq_ : World.drewN w5 _ = w5; have n0_ : Aside0 (w5.heap[gb101]? = some (.cells #[.int .i64 0, .slice none 0 0] 26 (0, 0))) := ⟨by rw [← hq_]; exact (by (with_reducible repeat (first | refine blk_drewN ?_ _ | refine blk_drew ?_ | refine blk_alloc ?_ _)); exact BK101.out)⟩; have n1_ : Aside0 (Below w.heap.size w w5) := ⟨by rw [← hq_]; exact (by repeat (first | (with_reducible first | exact HB.out | apply below_alloc | apply pw_below_drewN | apply below_drew1 | refine below_set ?_ GE101.out) | exact HB.out))⟩; clear BK101 HB hq_; have BK101 := n0_; have HB := n1_; clear n0_ n1_))) | ((with_reducible refine gate_dst (N := 6) rfl ?_); refine Kd.R_make (Kd.int .u64) _ 82 rfl (N := 6) rfl 24 _ _ rfl t102 rfl rfl Try.underlying24 (.int .u64 0) 8 info82 rfl (by decide) (by omega) 0 (ok := fun _ => True) (okp := fun _ => True) rfl (fun _ hk => hk) trivial (of_decide_eq_true (by first | (with_reducible assumption) | assumption)) (Nat.le_trans (Nat.mul_le_mul_right _ (of_decide_eq_true (by first | (with_reducible assumption) | assumption) : t102.toNat ≤ 35184372088832)) (by omega)) (Below.refl _ _) (Nat.le_refl _) ?_; intro v104 w6 ho7 hb hg_ hnew_; clear hg_ hnew_; (first | rw [← Ny103.out] at ho7 | (simp only [Int.reduceToNat] at ho7; rw [← Ny103.out] at ho7)); have n0_ := Aside0.mk (Kd.R_lower ho7 (below_size (by repeat (first | (with_reducible first | exact HB.out | apply below_alloc | apply pw_below_drewN | apply below_drew1 | refine below_set ?_ GE101.out) | exact HB.out)))); have n1_ := Aside0.mk (blk_below (g := gb101) (o := .cells #[.int .i64 0, .slice none 0 0] 26 (0, 0)) (by (with_reducible repeat (first | refine blk_drewN ?_ _ | refine blk_drew ?_ | refine blk_alloc ?_ _)); exact BK101.out) hb); have n2_ := Aside0.mk (below_step (by repeat (first | (with_reducible first | exact HB.out | apply below_alloc | apply pw_below_drewN | apply below_drew1 | refine below_set ?_ GE101.out) | exact HB.out)) hb); clear BK101; clear HB; have HO105 := n0_; have BK101 := n1_; have HB := n2_; clear n0_ n1_ n2_; clear hb ho7; obtain ⟨Ao8, co8, eo8⟩ := Kd.R_slice HO105.out; subst eo8; have hcz9_0 : w6.cell? ⟨gb101, 0, none⟩ = some (.int .i64 0) := (blk_cell BK101.out 0).trans rfl; have hcz9_1 : w6.cell? ⟨gb101, 1, none⟩ = some (.slice none 0 0) := (blk_cell BK101.out 1).trans rfl; have hfz9_0 := blk_frozen BK101.out 0; have hfz9_1 := blk_frozen BK101.out 1))
      refine bodyPost_ret (results_cell_row rfl _ _ gb101 26 #[.int .i64 a0, .slice Ao8 y103.length co8] (0, 0) _ rfl (by (with_reducible repeat (first | refine blk_drewN ?_ _ | refine blk_drew ?_ | refine blk_alloc ?_ _)); refine blk_put (cs := #[.int .i64 a0, .slice none 0 0]) ?_ 1 _ rfl; (with_reducible repeat (first | refine blk_drewN ?_ _ | refine blk_drew ?_ | refine blk_alloc ?_ _)); refine blk_put (cs := #[.int .i64 0, .slice none 0 0]) ?_ 0 _ rfl; (with_reducible repeat (first | refine blk_drewN ?_ _ | refine blk_drew ?_ | refine blk_alloc ?_ _)); exact BK101.out) Try.underlying26 rfl (by kernel_rfl)) rfl ?_
      exact ⟨_, by first | rfl | (simp [errW_none, errW_some] <;> rfl) | (simp [*, errW_none, errW_some] <;> rfl), by (with_reducible repeat (first | apply Kd.R_alloc | apply Kd.R_drewN | apply Kd.R_drew)); exact Kd.R_mono (Kd.R_far (p := ⟨gb101, 1, none⟩) (Kd.R_far (p := ⟨gb101, 0, none⟩) (Kd.R_types HO105.out BK101.out (by decide)) (fun _ hk => hk.2) (.int .i64 a0)) (fun _ hk => hk.2) (.slice Ao8 y103.length co8)) (fun _ hk => trivial), by repeat (first | (with_reducible first | exact HB.out | apply below_alloc | apply pw_below_drewN | apply below_drew1 | refine below_set ?_ GE101.out) | exact HB.out)⟩
    · rw [if_neg c4] at H
      exact absurd H (by simp)
  · rw [if_neg c3] at H
    exact absurd H (by simp)
end Go.Proofs.Ytjmkhdhffmlhiaa.PAll
end
section
namespace Go.Proofs.Ytjmkhdhffmlhiaa.PAll
open Go.RowKit Go.Proofs.YtjmkhdhffmlhiaaW.PrintWords Go.Proofs.YtjmkhdhffmlhiaaW.PrintLast Go.Proofs.YtjmkhdhffmlhiaaW.PrintMore
attribute [local go_sem] max2_int min2_int max_two min_two max_three min_three max_four min_four w64_u8 w64_mod256   -- for this text's walks alone
set_option linter.unusedVariables false
set_option linter.unusedSimpArgs false
def bitset_within.f (a0_0 : Int) (l0_1 : List Int) (a1 : Int) : Option (Bool) := if a1 ≥ 0 then (some (decide (a1 < a0_0))) else (some false)
set_option maxHeartbeats 8000000 in
set_option maxRecDepth 100000 in
theorem bitset_within.calls (a0_0 : Int) (A0_1 : Option Addr) (c0_1 : Nat) (l0_1 : List Int) (a1 : Int) (r : Bool) (w : World) (hr0_1 : Kd.C (Kd.int .u64) w A0_1 l0_1.length l0_1) (hc0_1 : l0_1.length ≤ c0_1) (h : bitset_within.f a0_0 l0_1 a1 = some r) :
    Calls Try.prog 57 #[.agg #[.int .i64 a0_0, .slice A0_1 l0_1.length c0_1], .int .i64 a1] w fun e w' => e = .returned (.bool r) ∧ Below w.heap.size w w' := by
  have hu26 := Try.underlying26
  have HR0_1 := Aside0.mk hr0_1
  have HC0_1 := Aside0.mk hc0_1
  clear hr0_1 hc0_1
  have HB := Aside0.mk (Below.refl w.heap.size w)
  have H : (if a1 ≥ 0 then (some (decide (a1 < a0_0))) else (some false)) = some r := h
  clear h
  by_cases c3 : a1 ≥ 0
  · rw [if_pos c3] at H
    have c3b0 : decide (0 ≤ a1) = true := decide_eq_true c3
    clear c3
    obtain rfl := Option.some.inj H
    go_enter Try.func57, Try.ntmps57
    go_wp2_with (first | ((with_reducible refine gate_dst (N := 2) rfl ?_); refine box_event ?hg (N := 2) ?hd (cs := #[.int .i64 a0_0, .slice A0_1 l0_1.length c0_1]) (t := 26) ?hr ?_; (case hd => rfl); (case hg => rfl); (case hr => first | (go_simp; done) | (go_simp; rfl)); intro gb101 hg w4 hbox hb; have n0_ := Aside0.mk (below_step (by repeat (first | (with_reducible first | exact HB.out | apply below_alloc | apply pw_below_drewN | apply below_drew1) | exact HB.out)) hb); have n1_ := Aside0.mk (hbox); have n2_ := Aside0.mk ((by rw [hg]; exact (below_size (by repeat (first | (with_reducible first | exact HB.out | apply below_alloc | apply pw_below_drewN | apply below_drew1) | exact HB.out))) : w.heap.size ≤ gb101)); have n3_ := Aside0.mk ((by rw [hg]; exact (below_size (by repeat (first | (with_reducible first | exact HB.out | apply below_alloc | apply pw_below_drewN | apply below_drew1) | exact HB.out))) : w.heap.size ≤ gb101)); clear HB; have HB := n0_; have BK101 := n1_; have GW101 := n2_; have GE101 := n3_; clear n0_ n1_ n2_ n3_; clear hb hbox hg; have hcz5_0 : w4.cell? ⟨gb101, 0, none⟩ = some (.int .i64 a0_0) := (blk_cell BK101.out 0).trans rfl; have hcz5_1 : w4.cell? ⟨gb101, 1, none⟩ = some (.slice A0_1 l0_1.length c0_1) := (blk_cell BK101.out 1).trans rfl; have hfz5_0 := blk_frozen BK101.out 0; have hfz5_1 := blk_frozen BK101.out 1))
    go_ret
    exact ⟨by first | rfl | (simp [errW_none, errW_some] <;> rfl) | (simp [*, errW_none, errW_some] <;> rfl), by repeat (first | (with_reducible first | exact HB.out | apply below_alloc | apply pw_below_drewN | apply below_drew1 | refine below_set ?_ GE101.out) | exact HB.out)⟩
  · rw [if_neg c3] at H
    have c3b0 : decide (0 ≤ a1) = false := decide_eq_false c3
    clear c3
    obtain rfl := Option.some.inj H
    go_enter Try.func57, Try.ntmps57
    go_wp2_with (first | ((with_reducible refine gate_dst (N := 2) rfl ?_); refine box_event ?hg (N := 2) ?hd (cs := #[.int .i64 a0_0, .slice A0_1 l0_1.length c0_1]) (t := 26) ?hr ?_; (case hd => rfl); (case hg => rfl); (case hr => first | (go_simp; done) | (go_simp; rfl)); intro gb101 hg w6 hbox hb; have n0_ := Aside0.mk (below_step (by repeat (first | (with_reducible first | exact HB.out | apply below_alloc | apply pw_below_drewN | apply below_drew1) | exact HB.out)) hb); have n1_ := Aside0.mk (hbox); have n2_ := Aside0.mk ((by rw [hg]; exact (below_size (by repeat (first | (with_reducible first | exact HB.out | apply below_alloc | apply pw_below_drewN | apply below_drew1) | exact HB.out))) : w.heap.size ≤ gb101)); have n3_ := Aside0.mk ((by rw [hg]; exact (below_size (by repeat (first | (with_reducible first | exact HB.out | apply below_alloc | apply pw_below_drewN | apply below_drew1) | exact HB.out))) : w.heap.size ≤ gb101)); clear HB; have HB := n0_; have BK101 := n1_; have GW101 := n2_; have GE101 := n3_; clear n0_ n1_ n2_ n3_; clear hb hbox hg))
    go_ret
    exact ⟨by first | rfl | (simp [errW_none, errW_some] <;> rfl) | (simp [*, errW_none, errW_some] <;> rfl), by repeat (first | (with_reducible first | exact HB.out | apply below_alloc | apply pw_below_drewN | apply below_drew1 | refine below_set ?_ GE101.out) | exact HB.out)⟩
end Go.Proofs.Ytjmkhdhffmlhiaa.PAll
end
section
namespace Go.Proofs.Ytjmkhdhffmlhiaa.PAll
open Go.RowKit Go.Proofs.YtjmkhdhffmlhiaaW.PrintWords Go.Proofs.YtjmkhdhffmlhiaaW.PrintLast Go.Proofs.YtjmkhdhffmlhiaaW.PrintMore
attribute [local go_sem] max2_int min2_int max_two min_two max_three min_three max_four min_four w64_u8 w64_mod256   -- for this text's walks alone
set_option linter.unusedVariables false
set_option linter.unusedSimpArgs false
def bitset_put.f (a0_0 : Int) (l0_1 : List Int) (a1 : Int) : Option (List Int) := if 0 ≤ (wrap64 (Int.tdiv a1 64)) then (if (wrap64 (Int.tdiv a1 64)) < (l0_1.length : Int) then (if 0 ≤ (Int.tmod a1 64) then (some (l0_1.set ((wrap64 (Int.tdiv a1 64)) : Int).toNat (Go.bits .or .u64 (rd l0_1 (wrap64 (Int.tdiv a1 64))) (shl .u64 1 (Int.tmod a1 64))))) else (none)) else (none)) else (none)
def bitset_put.T1 : Bool × List (List Nat × List Nat) := (true, [([], []), ([0], [0]), ([], []), ([2], [2]), ([1, 3], [1, 3]), ([4], [4]), ([], []), ([6], [6]), ([7], [7]), ([5, 8], [5, 8]), ([1, 3, 0, 1, 2, 3, 4, 5, 6, 7, 8, 9], [1, 3]), ([10, 9, 0, 1, 2, 3, 4, 5, 6, 7, 8, 9], [9, 10])])
def bitset_put.B1 : List Nat := [0, 1, 0, 4, 15, 31, 0, 64, 192, 511, 1023, 2047]
theorem bitset_put.tab1 : rtab .any (opsOf Try.f58 1) = bitset_put.T1 := by kernel_rfl
theorem bitset_put.bits1 : waitsOk bitset_put.T1.2 bitset_put.B1 = true := by kernel_rfl
set_option maxHeartbeats 8000000 in
set_option maxRecDepth 100000 in
theorem bitset_put.calls (a0_0 : Int) (P0_1_ : Nat → Prop) (u9000_ : Value) (l0_1 : List Int) (a1 : Int) (r : List Int) (w0 w : World) (hB : Below w0.heap.size w0 w) (ho0_1 : Kd.R (Kd.int .u64) 82 w w0.heap.size P0_1_ u9000_ l0_1) (h : bitset_put.f a0_0 l0_1 a1 = some r) :
    Calls Try.prog 58 #[.agg #[.int .i64 a0_0, u9000_], .int .i64 a1] w fun e w' => e = .returned (.tuple #[]) ∧ Kd.R (Kd.int .u64) 82 w' w0.heap.size (fun k_ => (P0_1_ k_ ∨ w.heap.size ≤ k_)) u9000_ r ∧ Below w0.heap.size w0 w' ∧ Kept w w' (fun k_ => P0_1_ k_) := by
  have hu26 := Try.underlying26
  have HO0_1 := Aside0.mk (show Kd.R (Kd.int .u64) 82 w w0.heap.size (fun k_ => (P0_1_ k_ ∨ w.heap.size ≤ k_)) u9000_ l0_1 from Kd.R_mono ho0_1 (fun k_ hk => (.inl hk)))
  have HK := Aside0.mk (Kept.refl w (fun k_ => P0_1_ k_))
  have HW0 := Aside0.mk hB.size
  have HB := Aside0.mk hB
  clear hB
  have H : (if 0 ≤ (wrap64 (Int.tdiv a1 64)) then (if (wrap64 (Int.tdiv a1 64)) < (l0_1.length : Int) then (if 0 ≤ (Int.tmod a1 64) then (some (l0_1.set ((wrap64 (Int.tdiv a1 64)) : Int).toNat (Go.bits .or .u64 (rd l0_1 (wrap64 (Int.tdiv a1 64))) (shl .u64 1 (Int.tmod a1 64))))) else (none)) else (none)) else (none)) = some r := h
  clear h
  obtain ⟨ji3, hji3⟩ : ∃ j_ : Int, (wrap64 (Int.tdiv a1 64)) = j_ := ⟨_, rfl⟩
  replace H : (if 0 ≤ (ji3) then (if (ji3) < (l0_1.length : Int) then (if 0 ≤ (Int.tmod a1 64) then (some (l0_1.set ((ji3) : Int).toNat (Go.bits .or .u64 (rd l0_1 (ji3)) (shl .u64 1 (Int.tmod a1 64))))) else (none)) else (none)) else (none)) = some r := by first | (rw [hji3] at H; exact H) | (simp only [hji3] at H ⊢; exact H)
  have hji3w : (IntKind.i64.wrap (Int.tdiv a1 64)) = ji3 := (i64_w _).trans hji3
  by_cases c4 : 0 ≤ (ji3)
  · rw [if_pos c4] at H
    have c4b0 : decide (0 ≤ (ji3)) = true := decide_eq_true c4
    clear c4
    by_cases c5 : (ji3) < (l0_1.length : Int)
    · rw [if_pos c5] at H
      have c5b0 : decide ((ji3) < (l0_1.length : Int)) = true := decide_eq_true c5
      clear c5
      obtain ⟨ji6, hji6⟩ : ∃ j_ : Int, (Int.tmod a1 64) = j_ := ⟨_, rfl⟩
      replace H : (if 0 ≤ (ji6) then (some (l0_1.set ((ji3) : Int).toNat (Go.bits .or .u64 (rd l0_1 (ji3)) (shl .u64 1 (ji6))))) else (none)) = some r := by first | (rw [hji6] at H; exact H) | (simp only [hji6] at H ⊢; exact H)
      by_cases c7 : 0 ≤ (ji6)
      · rw [if_pos c7] at H
        have c7b0 := eq_true c7
        have c7b1 : decide (0 ≤ (ji6)) = true := decide_eq_true c7
        clear c7
        obtain ⟨ji8, hji8⟩ : ∃ j_ : Int, (shl .u64 1 (ji6)) = j_ := ⟨_, rfl⟩
        replace H : (some (l0_1.set ((ji3) : Int).toNat (Go.bits .or .u64 (rd l0_1 (ji3)) (ji8)))) = some r := by first | (rw [hji8] at H; exact H) | (simp only [hji8] at H ⊢; exact H)
        have hji8_ : (IntKind.u64.wrap (1 * 2 ^ min (ji6).toNat 64)) = ji8 := hji8
        have hji8z : (ji6) ≤ 64 → (IntKind.u64.wrap (1 * 2 ^ (ji6).toNat)) = ji8 := shl_small hji8
        have hji8u : (IntKind.u64.wrap (2 ^ min (ji6).toNat 64)) = ji8 := by have h_ := hji8_; rw [Int.one_mul] at h_; exact h_
        have hji8v : (ji6) ≤ 64 → (IntKind.u64.wrap (2 ^ (ji6).toNat)) = ji8 := fun hle_ => by have h_ := hji8z hle_; rw [Int.one_mul] at h_; exact h_
        obtain ⟨y103, hy103⟩ : ∃ y_ : List Int, y_ = (l0_1.set ((ji3) : Int).toNat (Go.bits .or .u64 (rd l0_1 (ji3)) (ji8))) := ⟨_, rfl⟩
        replace H : (some y103) = some r := by first | (rw [hy103]; with_reducible exact H) | (have H2_ := (Option.bind_some _ _).symm.trans H; rw [hy103]; with_reducible exact H2_) | (have H2_ := (Option.bind_some _ _).symm.trans H; with_reducible exact H2_) | with_reducible exact H | (rw [hy103]; exact H) | exact H
        have Ny103 := Aside0.mk hy103
        clear hy103
        obtain rfl := Option.some.inj H
        obtain ⟨Ao10, co10, eo10⟩ := Kd.R_slice HO0_1.out
        subst eo10
        go_enter Try.func58, Try.ntmps58
        try go_wp2_with (first | ((with_reducible refine gate_dst (N := 2) rfl ?_); refine box_event ?hg (N := 2) ?hd (cs := #[.int .i64 a0_0, .slice Ao10 l0_1.length co10]) (t := 26) ?hr ?_; (case hd => rfl); (case hg => rfl); (case hr => first | (go_simp; done) | (go_simp; rfl)); intro gb101 hg w11 hbox hb; have n0_ := Aside0.mk (Kd.R_below (by (with_reducible repeat (first | apply Kd.R_alloc | apply Kd.R_drewN | apply Kd.R_drew)); exact HO0_1.out) hb); have n1_ := Aside0.mk (Kept.below (S := (fun k_ => P0_1_ k_)) (by repeat (first | (with_reducible first | exact HK.out | apply Kept.alloc | apply Kept.drewN | apply Kept.drew) | exact HK.out)) hb); have n2_ := Aside0.mk (below_step (by repeat (first | (with_reducible first | exact HB.out | apply below_alloc | apply pw_below_drewN | apply below_drew1) | exact HB.out)) hb); have n3_ := Aside0.mk (hbox); have n4_ := Aside0.mk ((by rw [hg]; exact (by first | exact HK.out.1 | exact (show Kept w _ (fun k_ => P0_1_ k_) from by repeat (first | (with_reducible first | exact HK.out | apply Kept.alloc | apply Kept.drewN | apply Kept.drew) | exact HK.out)).1) : w.heap.size ≤ gb101)); have n5_ := Aside0.mk ((by rw [hg]; exact (below_size (by repeat (first | (with_reducible first | exact HB.out | apply below_alloc | apply pw_below_drewN | apply below_drew1) | exact HB.out))) : w0.heap.size ≤ gb101)); clear HO0_1; clear HK; clear HB; have HO0_1 := n0_; have HK := n1_; have HB := n2_; have BK101 := n3_; have GW101 := n4_; have GE101 := n5_; clear n0_ n1_ n2_ n3_ n4_ n5_; clear hb hbox hg))
        have n0_ := Aside0.mk (Kd.R_drew HO0_1.out)
        have n1_ := Aside0.mk (blk_drew BK101.out)
        have n2_ := Aside0.mk (Kept.drew HK.out)
        have n3_ := Aside0.mk (below_drew1 HB.out)
        clear HO0_1
        clear BK101
        clear HK
        clear HB
        have HO0_1 := n0_
        have BK101 := n1_
        have HK := n2_
        have HB := n3_
        clear n0_ n1_ n2_ n3_
        have p102 : 0 ≤ ((ji3) : Int) := of_decide_eq_true (by first | (with_reducible assumption) | assumption)
        have q102 : (ji3) < (l0_1.length : Int) := of_decide_eq_true (by first | (with_reducible assumption) | assumption)
        obtain ⟨ad102, e102, hx102_0⟩ := Kd.at_int (Kd.R_reads' HO0_1.out).2.2 (ji3) p102 q102
        cases e102
        replace p102 := eq_true p102
        replace q102 := eq_true q102
        have p9 : 0 ≤ ((ji3) : Int) := of_decide_eq_true (by first | (with_reducible assumption) | assumption)
        have q9 : ((ji3) : Int) < ((l0_1.length : Int) : Int) := of_decide_eq_true (by first | (with_reducible assumption) | assumption)
        obtain ⟨go9, co9, eo9, gb9, gl9, cl9, HG9⟩ := Kd.R_form HO0_1.out (by omega)
        (first | cases eo9 | (injection eo9 with ea_ en_ ec_; (first | subst ea_ | (injection ea_ with ea_; subst ea_)); subst ec_; clear en_))
        have GB9 := Aside0.mk gb9
        have GG9 := Aside0.mk HG9
        clear gb9 gl9 HG9
        have HMgo9 := Aside0.mk (show (P0_1_ go9 ∨ w.heap.size ≤ go9) from (HO0_1.out.1 _ rfl))
        (first | simp only [add_plain] at hx102_0 | skip)
        obtain ⟨hx9_0, hf9_0⟩ := Kd.R_celln 0 HO0_1.out ((ji3) : Int) p9 q9
        replace p9 := eq_true p9
        replace q9 := eq_true q9
        have HP13 := Kd.R_putn HO0_1.out ((ji3) : Int) (Go.bits .or .u64 (rd l0_1 (ji3)) (ji8))
        rw [← Ny103.out] at HP13
        have HQ13 := Aside0.mk HP13
        clear HP13
        refine start_ (n := 12) (S := fun w' => w'.cell? ⟨gb101, 0, none⟩ = some (.int .i64 a0_0) ∧ w'.cell? ⟨gb101, 1, none⟩ = some (.slice (some ⟨go9, 0, none⟩) l0_1.length co10) ∧ w'.cell? ⟨go9, ((ji3)).toNat, none⟩ = some (.int .u64 (rd l0_1 (ji3)))) (ds := [11]) #[false, false, false, false, false, false, false, false, false, false, false, false] (by kernel_rfl) rfl rfl ⟨(blk_cell BK101.out 0).trans rfl, (blk_cell BK101.out 1).trans rfl, hx102_0⟩ (fun hHeld => ?_); refine with_tabW bitset_put.tab1 bitset_put.bits1 (fun HT_ HW_ => ?_)
        generalize w11.drew = w12 at HO0_1 BK101 HK HB GG9 HQ13 hf9_0 hx102_0 hx9_0 hHeld ⊢
        refine pure_ (i := 0) (N := some 4) (v := ?_) (a' := ?_) #[true, false, false, false, false, false, false, false, false, false, false, false] rfl rfl (any_of HT_.out (by kernel_rfl)) (fun _ _ _ h => h) (Or.inl ⟨by rfl, ?_⟩) ?_ ?_
        rotate_left
        · intro w'
          go_simp
          with_reducible rfl
        rotate_left
        · simp only [Act.put, List.setIfInBounds_toArray, List.set_cons_zero, List.set_cons_succ, i64_w, i32_w]
          rfl
        refine pure_ (i := 2) (N := some 6) (v := ?_) (a' := ?_) #[true, false, true, false, false, false, false, false, false, false, false, false] rfl rfl (any_of HT_.out (by kernel_rfl)) (fun _ _ _ h => h) (Or.inl ⟨by rfl, ?_⟩) ?_ ?_
        rotate_left
        · intro w'
          go_simp
          with_reducible rfl
        rotate_left
        · simp only [Act.put, List.setIfInBounds_toArray, List.set_cons_zero, List.set_cons_succ, i64_w, i32_w]
          rfl
        refine pure_ (i := 3) (N := some 7) (v := ?_) (a' := ?_) #[true, false, true, true, false, false, false, false, false, false, false, false] rfl rfl (any_of HT_.out (by kernel_rfl)) (fun _ _ _ h => h) (Or.inl ⟨by rfl, ?_⟩) ?_ ?_
        rotate_left
        · intro w'
          go_simp
          with_reducible rfl
        rotate_left
        · simp only [Act.put, List.setIfInBounds_toArray, List.set_cons_zero, List.set_cons_succ, i64_w, i32_w]
          rfl
        refine pure_ (i := 6) (N := some 10) (v := ?_) (a' := ?_) #[true, false, true, true, false, false, true, false, false, false, false, false] rfl rfl (any_of HT_.out (by kernel_rfl)) (fun _ _ _ h => h) (Or.inl ⟨by rfl, ?_⟩) ?_ ?_
        rotate_left
        · intro w'
          go_simp
          with_reducible rfl
        rotate_left
        · simp only [Act.put, List.setIfInBounds_toArray, List.set_cons_zero, List.set_cons_succ, i64_w, i32_w]
          rfl
        refine pure_ (i := 7) (N := some 11) (v := ?_) (a' := ?_) #[true, false, true, true, false, false, true, true, false, false, false, false] rfl rfl (any_of HT_.out (by kernel_rfl)) (fun _ _ _ h => h) (Or.inl ⟨by rfl, ?_⟩) ?_ ?_
        rotate_left
        · intro w'
          go_simp
          with_reducible rfl
        rotate_left
        · simp only [Act.put, List.setIfInBounds_toArray, List.set_cons_zero, List.set_cons_succ, i64_w, i32_w]
          rfl
        refine pure_ (i := 8) (N := some 12) (v := ?_) (a' := ?_) #[true, false, true, true, false, false, true, true, true, false, false, false] rfl rfl (any_of HT_.out (by kernel_rfl)) (fun _ _ _ h => h) (Or.inl ⟨by rfl, ?_⟩) ?_ ?_
        rotate_left
        · intro w'
          go_simp
          with_reducible rfl
        rotate_left
        · simp only [Act.put, List.setIfInBounds_toArray, List.set_cons_zero, List.set_cons_succ, i64_w, i32_w]
          rfl
        refine take_ (i := 1) (N := some 5) (v := ?_) (a' := ?_) #[true, true, true, true, false, false, true, true, true, false, false, false] rfl rfl (take_ofW HT_.out HW_.out (by kernel_rfl)) (fun _ _ _ h => h) (Or.inl ⟨by rfl, ?_⟩) hHeld ?_ ?_
        rotate_left
        · rintro w' ⟨s0, s1, s2⟩
          go_simp
          with_reducible rfl
        rotate_left
        · simp only [Act.put, List.setIfInBounds_toArray, List.set_cons_zero, List.set_cons_succ, i64_w, i32_w]
          rfl
        refine pure_ (i := 4) (N := some 8) (v := ?_) (a' := ?_) #[true, true, true, true, true, false, true, true, true, false, false, false] rfl rfl (any_of HT_.out (by kernel_rfl)) (fun _ _ _ h => h) (Or.inl ⟨by rfl, ?_⟩) ?_ ?_
        rotate_left
        · intro w'
          go_simp
          with_reducible rfl
        rotate_left
        · simp only [Act.put, List.setIfInBounds_toArray, List.set_cons_zero, List.set_cons_succ, i64_w, i32_w]
          rfl
        refine take_ (i := 5) (N := some 9) (v := ?_) (a' := ?_) #[true, true, true, true, true, true, true, true, true, false, false, false] rfl rfl (take_ofW HT_.out HW_.out (by kernel_rfl)) (fun _ _ _ h => h) (Or.inl ⟨by rfl, ?_⟩) hHeld ?_ ?_
        rotate_left
        · rintro w' ⟨s0, s1, s2⟩
          go_simp
          with_reducible rfl
        rotate_left
        · simp only [Act.put, List.setIfInBounds_toArray, List.set_cons_zero, List.set_cons_succ, i64_w, i32_w]
          rfl
        refine pure_ (i := 9) (N := some 13) (v := ?_) (a' := ?_) #[true, true, true, true, true, true, true, true, true, true, false, false] rfl rfl (any_of HT_.out (by kernel_rfl)) (fun _ _ _ h => h) (Or.inl ⟨by rfl, ?_⟩) ?_ ?_
        rotate_left
        · intro w'
          go_simp
          with_reducible rfl
        rotate_left
        · simp only [Act.put, List.setIfInBounds_toArray, List.set_cons_zero, List.set_cons_succ, i64_w, i32_w]
          rfl
        refine pure_ (i := 10) (N := some 14) (v := ?_) (a' := ?_) #[true, true, true, true, true, true, true, true, true, true, true, false] rfl rfl (any_of HT_.out (by kernel_rfl)) (fun _ _ _ h => h) (Or.inl ⟨by rfl, ?_⟩) ?_ ?_
        rotate_left
        · intro w'
          go_simp
          with_reducible rfl
        rotate_left
        · simp only [Act.put, List.setIfInBounds_toArray, List.set_cons_zero, List.set_cons_succ, i64_w, i32_w]
          rfl
        refine last_ (i := 11) (N := none) #[true, true, true, true, true, true, true, true, true, true, true, true] rfl rfl (one_of HT_.out (by kernel_rfl)) (by decide) (fun K hK => ?_)
        refine skip_ (w1 := ?_) (by rfl) rfl ?_ ?_
        rotate_left
        · go_simp
          rfl
        refine hK.out _ _ ?_
        clear hK K
        refine done_ (done_of HT_.out (by kernel_rfl)) ?_
        try go_wp2
        first | go_end0 | ((try simp only [Exit.inBlock, Exit.then]); refine bodyPost_ret (results_none rfl _ _ _) rfl ?_)
        exact ⟨by first | rfl | (simp [errW_none, errW_some] <;> rfl) | (simp only [← hji3, ← hji6, ← hji8]; first | rfl | (simp [errW_none, errW_some] <;> rfl)) | (simp [*, errW_none, errW_some] <;> rfl), by (with_reducible repeat (first | apply Kd.R_alloc | apply Kd.R_drewN | apply Kd.R_drew)); exact HQ13.out, by repeat (first | (with_reducible first | exact HB.out | apply below_alloc | apply pw_below_drewN | apply below_drew1 | refine below_set ?_ GB9.out | refine below_set ?_ GE101.out) | exact HB.out), by repeat (first | (with_reducible first | exact HK.out | apply Kept.alloc | apply Kept.drewN | apply Kept.drew | refine Kept.setCell ?_ HMgo9.out _ | refine Kept.setCell ?_ (.inr GW101.out) _) | exact HK.out)⟩
      · rw [if_neg c7] at H
        exact absurd H (by simp)
    · rw [if_neg c5] at H
      exact absurd H (by simp)
  · rw [if_neg c4] at H
    exact absurd H (by simp)
end Go.Proofs.Ytjmkhdhffmlhiaa.PAll
end
section
namespace Go.Proofs.Ytjmkhdhffmlhiaa.PAll
open Go.RowKit Go.Proofs.YtjmkhdhffmlhiaaW.PrintWords Go.Proofs.YtjmkhdhffmlhiaaW.PrintLast Go.Proofs.YtjmkhdhffmlhiaaW.PrintMore
class Pl (W W' : World) : Prop where
  blk : ∀ k, k < W.heap.size → W'.heap[k]? = W.heap[k]?
  bel : ∀ w : World, Below w.heap.size w W → Below w.heap.size w W'
instance plSame (W : World) : Pl W W := ⟨fun _ _ => rfl, fun _ h => h⟩
instance plDrew (W W' : World) [h : Pl W W'] : Pl W W'.drew := ⟨fun k hk => h.blk k hk, fun w hb => below_drew1 (h.bel w hb)⟩
instance plDrewN (W W' : World) (n : Nat) [h : Pl W W'] : Pl W (W'.drewN n) := ⟨fun k hk => h.blk k hk, fun w hb => pw_below_drewN (h.bel w hb) n⟩
instance plAlloc (W W' : World) (o : Obj) [h : Pl W W'] : Pl W (W'.alloc o) := ⟨fun k hk => by
  have h1 := h.blk k hk
  have h2 : k < W'.heap.size := by
    have h3 : W.heap[k]? = some W.heap[k] := Array.getElem?_eq_getElem hk
    rw [h3] at h1
    exact blk_lt h1
  exact ((below_alloc (Below.refl W'.heap.size W') o).block k h2).trans h1, fun w hb => below_alloc (h.bel w hb) o⟩
class St (g : Nat) (W W' : World) : Prop where
  blk : ∀ k, k < W.heap.size → k ≠ g → W'.heap[k]? = W.heap[k]?
  bel : ∀ w : World, w.heap.size ≤ g → Below w.heap.size w W → Below w.heap.size w W'
  lt : W.heap.size ≤ W'.heap.size
instance stSame (g : Nat) (W : World) : St g W W := ⟨fun _ _ _ => rfl, fun _ _ h => h, Nat.le_refl _⟩
instance stDrew (g : Nat) (W W' : World) [h : St g W W'] : St g W W'.drew := ⟨fun k hk hg => h.blk k hk hg, fun w hw hb => below_drew1 (h.bel w hw hb), h.lt⟩
instance stDrewN (g : Nat) (W W' : World) (n : Nat) [h : St g W W'] : St g W (W'.drewN n) := ⟨fun k hk hg => h.blk k hk hg, fun w hw hb => pw_below_drewN (h.bel w hw hb) n, h.lt⟩
instance stAlloc (g : Nat) (W W' : World) (o : Obj) [h : St g W W'] : St g W (W'.alloc o) := ⟨fun k hk hg => ((below_alloc (Below.refl W'.heap.size W') o).block k (Nat.lt_of_lt_of_le hk h.lt)).trans (h.blk k hk hg), fun w hw hb => below_alloc (h.bel w hw hb) o, Nat.le_trans h.lt (below_alloc (Below.refl W'.heap.size W') o).size⟩
instance stPut (g j : Nat) (v : Value) (W W' : World) [h : St g W W'] : St g W (W'.setCell ⟨g, j, none⟩ v) := ⟨fun k hk hg => (Below.heap_setCell W' ⟨g, j, none⟩ v k hg).trans (h.blk k hk hg), fun w hw hb => below_set (h.bel w hw hb) hw, by simpa [World.setCell] using h.lt⟩
variable {W W' W1 : World} {k g b : Nat} {o : Obj} {α : Type} {d : Kd α} {e : TypeId} {ok : Nat → Prop} {v : Value} {xs : List α} {t : TypeId} {cells : Array Value}
theorem sr (h : d.R e W b ok v xs) (hb : W.heap[g]? = some (.cells cells t (0, 0))) (ht : ∀ q, q ∈ e :: d.E → q ≠ t) [p : St g W W'] : d.R e W' b ok v xs :=
  Kd.R_mono (Kd.R_move (Kd.R_bound (Kd.R_types h hb ht)) (fun k hk => p.blk k hk.2.2.1 hk.1.2)) (fun _ hk => hk.1.1)
theorem wr (hw : W1 = W') (h : d.R e W b ok v xs) (hb : W.heap[g]? = some (.cells cells t (0, 0))) (ht : ∀ q, q ∈ e :: d.E → q ≠ t) [p : St g W W'] : d.R e W1 b ok v xs := hw ▸ sr h hb ht
theorem gs {w : World} (hg : g = W.heap.size) (h : Below w.heap.size w W) : w.heap.size ≤ g := by rw [hg]; exact below_size h
end Go.Proofs.Ytjmkhdhffmlhiaa.PAll
end
section
namespace Go.Proofs.Ytjmkhdhffmlhiaa.PAll
set_option linter.unusedVariables false
set_option linter.unusedSimpArgs false
open Go.RowKit Go.Proofs.YtjmkhdhffmlhiaaW.PrintWords Go.Proofs.YtjmkhdhffmlhiaaW.PrintLast Go.Proofs.YtjmkhdhffmlhiaaW.PrintMore
attribute [local go_sem] Oper.semAt_some
def pfill (n v : Int) : Nat → Int → List Int → Option (List Int)
  | 0, e, ws => if e ≤ v then none else some ws
  | k + 1, e, ws => if e ≤ v then (bitset_put.f n ws e).bind (pfill n v k (e + 1)) else some ws
def pgo (n : Int) : List S95 → List Int → Int → Option (Int × List Int × Int × Int)
  | [], ws, _ => some (n, ws, 0, 0)
  | x :: r, ws, ah =>
    if 0 ≤ x.f0 then
      if x.f0 < n then
        if x.f0 < (if x.f2 = true then ah + 1 else ah + 2) then some (0, [], x.f1, 1)
        else if 0 ≤ (if x.f2 = true then ah else x.f0) then
          (pfill n x.f0 (x.f0 + 1 - (if x.f2 = true then ah else x.f0)).toNat (if x.f2 = true then ah else x.f0) ws).bind fun ws' => pgo n r ws' x.f0
        else none
      else some (0, [], x.f1, 62)
    else some (0, [], x.f1, 62)
theorem rdN_nat (l : List S95) {j : Nat} (h : j < l.length) : rd_T95 l (j : Int) = l[j] := by
  unfold rd_T95
  simp [List.getD, h]
theorem pgo_far {n : Int} {x : S95} {r : List S95} {ws : List Int} {ah : Int} (h : ¬ 0 ≤ x.f0 ∨ ¬ x.f0 < n) : pgo n (x :: r) ws ah = some (0, [], x.f1, 62) := by
  unfold pgo
  split
  · split
    · rename_i h1 h2
      rcases h with h | h
      · exact absurd h1 h
      · exact absurd h2 h
    · rfl
  · rfl
theorem pgo_low {n : Int} {x : S95} {r : List S95} {ws : List Int} {ah : Int} (h0 : 0 ≤ x.f0) (h1 : x.f0 < n) (h2 : x.f0 < (if x.f2 = true then ah + 1 else ah + 2)) : pgo n (x :: r) ws ah = some (0, [], x.f1, 1) := by
  rw [pgo, if_pos h0, if_pos h1, if_pos h2]
theorem pgo_next {n : Int} {x : S95} {r : List S95} {ws : List Int} {ah : Int} (h0 : 0 ≤ x.f0) (h1 : x.f0 < n) (h2 : ¬ x.f0 < (if x.f2 = true then ah + 1 else ah + 2)) : pgo n (x :: r) ws ah = if 0 ≤ (if x.f2 = true then ah else x.f0) then
          (pfill n x.f0 (x.f0 + 1 - (if x.f2 = true then ah else x.f0)).toNat (if x.f2 = true then ah else x.f0) ws).bind fun ws' => pgo n r ws' x.f0
        else none := by
  rw [pgo, if_pos h0, if_pos h1, if_neg h2]
theorem put_len {n : Int} {ws r : List Int} {e : Int} (h : bitset_put.f n ws e = some r) : r.length = ws.length := by
  unfold bitset_put.f at h
  split at h
  · split at h
    · split at h
      · injection h with h
        rw [← h, List.length_set]
      · cases h
    · cases h
  · cases h
set_option maxHeartbeats 8000000 in
set_option maxRecDepth 100000 in
theorem Parse_yes (kn : Nat) (a0 : ByteArray) (x0 : S95) (l : List S95) (n : Nat) (ws0 rw : List Int) (r1 r3 r4 : Int) (w : World) (hsz : (a0.size : Int) ≤ 65536) (hl : bitset_numbers.f kn a0 = some (x0 :: l, -1)) (hx : x0.f0 = (n : Int)) (hn : n ≤ 4096) (hlen : l.length < 100000)
    (hS : bitset_sized.f (n : Int) = some true) (hBl : bitset_blank.f (n : Int) = some ((n : Int), ws0)) (hP : pgo (n : Int) l ws0 (-2) = some (r1, rw, r3, r4)) :
    Calls Try.prog 35 #[.string a0] w fun e w' => ∃ v : Value, e = .returned (.tuple #[.agg #[.int .i64 r1, v], .int .i64 r3, .int .i64 r4]) ∧ Kd.R (Kd.int .u64) 82 w' w.heap.size (fun _ => True) v rw ∧ Below w.heap.size w w' := by
  have hu24 := Try.underlying26
  have hu95 := Try.underlying95
  have HL0 := Aside0.mk hl
  have HS0 := Aside0.mk hS
  have HBl := Aside0.mk hBl
  have HP0 := Aside0.mk hP
  clear hl hS hBl hP
  obtain ⟨o2, ho2⟩ : ∃ o2 : Obj, o2 = .cells #[.int .i64 0, .slice none 0 0] 26 (0, 0) := ⟨_, rfl⟩
  have K1 : (w.alloc o2).heap[w.heap.size]? = some o2 := blk_new w o2
  have HB0 : Below w.heap.size w (w.alloc o2) := below_alloc (Below.refl _ _) _
  have hs3 : w.heap.size + 1 ≤ (w.alloc o2).heap.size := by rw [World.size_alloc]; omega
  rw [ho2] at K1 HB0 hs3
  clear ho2 o2
  have KD := Aside0.mk K1
  have HB := Aside0.mk HB0
  have HS3 := Aside0.mk hs3
  clear K1 HB0 hs3
  have hgt : ¬ ((65536 : Int) < (a0.size : Int)) := by omega
  have hgd : decide ((65536 : Int) < (a0.size : Int)) = false := decide_eq_false hgt
  refine (callsIn_wide (n := 6)).1 ?_
  refine callsIn_of_wp Try.func35 rfl trivial ?_ rfl
  simp only [Try.ntmps35, List.size_toArray, List.length_cons, List.length_nil, Nat.reduceAdd, Nat.reduceSub, Array.replicate_succ, Array.replicate_zero, List.push_toArray, List.append_toArray, List.nil_append, List.cons_append]
  gi_wp2_with fail
  refine ⟨trivial, ?_⟩; gi_at_call 72
  refine (callsIn_wide.2 (bitset_numbers.calls kn a0 (x0 :: l) (-1) _ HL0.out)).mono ?_
  rintro e w1 ⟨vl, rfl, ho, hb⟩
  obtain ⟨Al, cl, et⟩ := Kd.R_slice ho
  subst et
  have n2_ := Aside0.mk (blk_below KD.out hb); have n3_ := Aside0.mk (below_step HB.out hb); have n4_ := Aside0.mk (Nat.le_trans HS3.out (below_size hb))
  have HL := Aside0.mk (Kd.R_lower (Kd.R_mono (Kd.R_bound ho) (fun k_ hk_ => show w.heap.size + 1 ≤ k_ ∧ k_ < w1.heap.size from ⟨Nat.le_trans HS3.out hk_.2.1, hk_.2.2.1⟩)) (below_size HB.out))
  clear KD HB hb HS3 ho
  have KD := n2_; have HB := n3_; have HS3 := n4_
  clear n2_ n3_ n4_
  obtain ⟨Al', cl', ev, hcl, hCl⟩ := Kd.R_reads HL.out
  injection ev with e1 e2 e3
  subst e1 e3
  clear e2
  obtain ⟨ad, eA, q0, q1, q2⟩ := at_T95 hCl 0 (by omega) (by simp only [List.length_cons]; omega)
  subst eA
  obtain ⟨gl, rfl⟩ := Kd.R_head HL.out
  have hrd : rd_T95 (x0 :: l) 0 = x0 := rfl
  rw [hrd, hx] at q0
  rw [hrd] at q1 q2
  replace q0 := (show w1.cell? ⟨gl, 0, none⟩ = some (.int .i64 (n : Int)) from q0)
  clear q1 q2 hCl
  gi_wp2_with fail
  refine ⟨trivial, ?_⟩; gi_at_call 55
  refine (callsIn_wide.2 (bitset_sized.calls (n : Int) true _ HS0.out)).mono ?_
  rintro e w2 ⟨rfl, hd⟩
  have hb := hd.below
  have n1_ := Aside0.mk (blk_below KD.out hb); have n2_ := Aside0.mk (below_step HB.out hb); have n3_ := Aside0.mk (Kd.R_below HL.out hb); have n4_ := Aside0.mk (below_size hb)
  have q1 := (hb.cell (World.block_lt_of_cell? _ _ q0)).trans q0
  clear KD HB HL hb hd q0
  have KD := n1_; have HB := n2_; have HL := n3_; have HS4 := n4_; have q0 := q1
  clear n1_ n2_ n3_ n4_ q1
  gi_wp2_with fail
  refine ⟨trivial, ?_⟩; gi_at_call 56
  refine (callsIn_wide.2 (bitset_blank.calls (n : Int) (n : Int) ws0 _ HBl.out)).mono ?_
  rintro e w3 ⟨vs, rfl, ho, hb⟩
  obtain ⟨As, cs, et⟩ := Kd.R_slice ho
  subst et
  have n1_ := Aside0.mk (blk_below KD.out hb); have n2_ := Aside0.mk (below_step HB.out hb); have n3_ := Aside0.mk (Kd.R_below HL.out hb)
  have HW := Aside0.mk (Kd.R_lower (Kd.R_mono (Kd.R_bound ho) (fun k_ hk_ => show w1.heap.size ≤ k_ ∧ k_ < w3.heap.size from ⟨Nat.le_trans HS4.out hk_.2.1, hk_.2.2.1⟩)) (below_size HB.out))
  have HS5 := Aside0.mk (Nat.le_trans HS4.out (below_size hb))
  clear KD HB HL hb ho q0
  have KD := n1_; have HB := n2_; have HL := n3_
  clear n1_ n2_ n3_
  gi_wp2_with fail
  · have hl0 : l = [] := by
      cases l with
      | nil => rfl
      | cons _ _ => simp only [List.length_cons] at hcl; omega
    subst hl0
    obtain ⟨Inv, hInv⟩ : ∃ Inv : Act → World → Prop, Inv = (fun a W => a = { tmps := #[.string a0, undef, .pointer (some ⟨w.heap.size, 0, none⟩), .int .i64 0, .int .i64 0, .slice (some ⟨gl, 0, none⟩) (([] : List S95).length + 1) 1, .int .i64 (-1), .pointer (some ⟨w3.heap.size, 0, none⟩), .int .i64 (-2), undef, undef, undef, undef, undef, .string a0, .int .i64 a0.size, .bool false, undef, .tuple #[.slice (some ⟨gl, 0, none⟩) (([] : List S95).length + 1) 1, .int .i64 (-1)], .string a0, .tuple #[.slice (some ⟨gl, 0, none⟩) (([] : List S95).length + 1) 1, .int .i64 (-1)], .slice (some ⟨gl, 0, none⟩) (([] : List S95).length + 1) 1, .int .i64 (-1), .int .i64 (-1), .bool false, undef, undef, .slice (some ⟨gl, 0, none⟩) (([] : List S95).length + 1) 1, .pointer (some ⟨gl, 0, none⟩), .pointer (some ⟨gl, 0, none⟩), .int .i64 n, .bool true, .bool false, undef, .slice (some ⟨gl, 0, none⟩) (([] : List S95).length + 1) 1, .pointer (some ⟨gl, 0, none⟩), .pointer (some ⟨gl, 0, none⟩), .int .i64 n, .agg #[.int .i64 n, .slice As ws0.length cs], .slice (some ⟨gl, 0, none⟩) (([] : List S95).length + 1) 1, .slice (some ⟨gl, 0, none⟩) ([] : List S95).length 0, .int .i64 ([] : List S95).length, .int .i64 0, undef, undef, undef, undef, undef, undef, undef, undef, undef, undef, undef, undef, undef, undef, undef, undef, undef, undef, undef, undef, undef, undef, undef, undef, undef, undef, undef, undef, undef, undef, undef, undef, undef, undef, undef, undef, undef, undef, undef, undef, undef, undef, undef, undef, undef], defers := [] } ∧ W = w3.alloc (.cells #[.int .i64 n, .slice As ws0.length cs] 26 (0, 0))) := ⟨_, rfl⟩
    refine wpIn_loop Inv (fun a _ => 0) ?start ?round
    case start =>
      rw [hInv]
      exact ⟨rfl, rfl⟩
    case round =>
      intro a wr hI
      rw [hInv] at hI
      clear hInv
      obtain ⟨rfl, rfl⟩ := hI
      have KS := Aside0.mk (blk_new w3 (.cells #[.int .i64 n, .slice As ws0.length cs] 26 (0, 0)))
      have nKD := Aside0.mk (blk_alloc KD.out (.cells #[.int .i64 n, .slice As ws0.length cs] 26 (0, 0))); have nHW := Aside0.mk (Kd.R_alloc HW.out (.cells #[.int .i64 n, .slice As ws0.length cs] 26 (0, 0))); have nHB := Aside0.mk (below_alloc HB.out (.cells #[.int .i64 n, .slice As ws0.length cs] 26 (0, 0)))
      clear KD HW HB HL
      have KD := nKD; have HW := nHW; have HB := nHB
      clear nKD nHW nHB
      have hA := HP0.out
      simp only [pgo, Option.some.injEq, Prod.mk.injEq] at hA
      have HA0 := Aside0.mk hA
      clear hA
      have q0 := (blk_cell KS.out 0).trans rfl
      have q1 := (blk_cell KS.out 1).trans rfl
      have q2 := (blk_cell KD.out 0).trans rfl
      have q3 := (blk_cell KD.out 1).trans rfl
      have z0 := blk_frozen KD.out 0
      have z1 := blk_frozen KD.out 1
      gi_wp2_with fail
      obtain ⟨X, hX⟩ : ∃ X, ((w3.alloc (.cells #[.int .i64 n, .slice As ws0.length cs] 26 (0, 0))).setCell ⟨w.heap.size, 0, none⟩ (Value.int IntKind.i64 n)).setCell ⟨w.heap.size, 1, none⟩ (Value.slice As ws0.length cs) = X := ⟨_, rfl⟩
      have hKX : Kept (w3.alloc (.cells #[.int .i64 n, .slice As ws0.length cs] 26 (0, 0))) X (fun k_ => k_ = w.heap.size) := by
        refine ⟨by rw [← hX, World.size_setCell, World.size_setCell]; exact Nat.le_refl _, fun k_ hk_ hn_ => ?_⟩
        rw [← hX, Below.heap_setCell _ _ _ _ hn_, Below.heap_setCell _ _ _ _ hn_]
      have hXg : X.heap[w.heap.size]? = some (.cells #[.int .i64 n, .slice As ws0.length cs] 26 (0, 0)) := hX ▸ blk_put (blk_put KD.out 0 (Value.int IntKind.i64 n) rfl) 1 (Value.slice As ws0.length cs) rfl
      have hXB : Below w.heap.size w X := hX ▸ below_set (below_set HB.out (Nat.le_refl _)) (Nat.le_refl _)
      have hXS := Kd.R_kept HW.out hKX (fun k_ hk_ e => absurd hk_.1 (by have := HS3.out; have : k_ = w.heap.size := e; omega))
      subst hX
      have c0 := (blk_cell hXg 0).trans rfl
      have c1 := (blk_cell hXg 1).trans rfl
      obtain ⟨rfl, rfl, rfl, rfl⟩ := HA0.out
      refine bodyPost_ret (v := .tuple #[.agg #[.int .i64 n, .slice As ws0.length cs], .int .i64 0, .int .i64 0]) ?_ rfl ⟨_, rfl, Kd.R_mono hXS (fun _ _ => trivial), hXB⟩
      simp [results, Try.f35, go_sem, c0, c1]
  · obtain ⟨Inv, hInv⟩ : ∃ Inv : Act → World → Prop, Inv = (fun a W => ∃ (i : Nat) (ah : Int) (ws : List Int) (u10 u11 u12 u13 u43 u44 u45 u46 u47 u48 u49 u50 u51 u52 u53 u54 u55 u56 u57 u61 u62 u63 u64 u65 u69 u70 u71 u72 u73 u74 u75 u76 u77 u78 u79 u80 u81 u82 u83 u84 u85 u86 : Value), a = { tmps := #[.string a0, undef, .pointer (some ⟨w.heap.size, 0, none⟩), .int .i64 0, .int .i64 0, .slice (some ⟨gl, 0, none⟩) (l.length + 1) cl, .int .i64 (-1), .pointer (some ⟨w3.heap.size, 0, none⟩), .int .i64 ah, undef, u10, u11, u12, u13, .string a0, .int .i64 a0.size, .bool false, undef, .tuple #[.slice (some ⟨gl, 0, none⟩) (l.length + 1) cl, .int .i64 (-1)], .string a0, .tuple #[.slice (some ⟨gl, 0, none⟩) (l.length + 1) cl, .int .i64 (-1)], .slice (some ⟨gl, 0, none⟩) (l.length + 1) cl, .int .i64 (-1), .int .i64 (-1), .bool false, undef, undef, .slice (some ⟨gl, 0, none⟩) (l.length + 1) cl, .pointer (some ⟨gl, 0, none⟩), .pointer (some ⟨gl, 0, none⟩), .int .i64 n, .bool true, .bool false, undef, .slice (some ⟨gl, 0, none⟩) (l.length + 1) cl, .pointer (some ⟨gl, 0, none⟩), .pointer (some ⟨gl, 0, none⟩), .int .i64 n, .agg #[.int .i64 n, .slice As ws0.length cs], .slice (some ⟨gl, 0, none⟩) (l.length + 1) cl, .slice (some ⟨gl, 3, none⟩) l.length (cl - 1), .int .i64 l.length, .int .i64 i, u43, u44, u45, u46, u47, u48, u49, u50, u51, u52, u53, u54, u55, u56, u57, undef, undef, undef, u61, u62, u63, u64, u65, undef, undef, undef, u69, u70, u71, u72, u73, u74, u75, u76, u77, u78, u79, u80, u81, u82, u83, u84, u85, u86, undef], defers := [] } ∧ Aside0 (i ≤ l.length) ∧ Aside0 (ws.length = ws0.length ∧ -2 ≤ ah ∧ ah < 4096) ∧ Aside0 (pgo (n : Int) (l.drop i) ws ah = some (r1, rw, r3, r4)) ∧
      Aside0 (W.heap[w.heap.size]? = some (.cells #[.int .i64 0, .slice none 0 0] 26 (0, 0))) ∧ Aside0 (W.heap[w3.heap.size]? = some (.cells #[.int .i64 n, .slice As ws0.length cs] 26 (0, 0))) ∧
      Aside0 (Kd.R k95 95 W w.heap.size (fun k_ => w.heap.size + 1 ≤ k_ ∧ k_ < w1.heap.size) (.slice (some ⟨gl, 0, none⟩) (x0 :: l).length cl) (x0 :: l)) ∧ Aside0 (Kd.R (Kd.int .u64) 82 W w.heap.size (fun k_ => w1.heap.size ≤ k_ ∧ k_ < w3.heap.size) (.slice As ws0.length cs) ws) ∧ Aside0 (Below w.heap.size w W)) := ⟨_, rfl⟩
    refine wpIn_loop Inv (fun a _ => l.length - (intOf (a.tmps.getD 42 undef)).toNat) ?start ?round
    case start =>
      rw [hInv]
      exact ⟨0, -2, ws0, undef, undef, undef, undef, undef, undef, undef, undef, undef, undef, undef, undef, undef, undef, undef, undef, undef, undef, undef, undef, undef, undef, undef, undef, undef, undef, undef, undef, undef, undef, undef, undef, undef, undef, undef, undef, undef, undef, undef, undef, undef, undef, rfl, ⟨Nat.zero_le _⟩, ⟨rfl, by omega, by omega⟩, HP0, ⟨blk_alloc KD.out _⟩, ⟨blk_new _ _⟩, ⟨Kd.R_alloc HL.out _⟩, ⟨Kd.R_alloc HW.out _⟩, ⟨below_alloc HB.out _⟩⟩
    case round =>
      clear KD HB HL HW HP0
      intro a wr hI
      rw [hInv] at hI
      have HInv := Aside0.mk hInv
      clear hInv
      obtain ⟨i, ah, ws, u10, u11, u12, u13, u43, u44, u45, u46, u47, u48, u49, u50, u51, u52, u53, u54, u55, u56, u57, u61, u62, u63, u64, u65, u69, u70, u71, u72, u73, u74, u75, u76, u77, u78, u79, u80, u81, u82, u83, u84, u85, u86, rfl, hi, hah, HA, KD, KS, HL, HW, HB⟩ := hI
      by_cases hlt : i < l.length
      · obtain ⟨Al', cl', ev, hcl', hCl⟩ := Kd.R_reads HL.out
        injection ev with e1 e2 e3
        subst e1 e3
        clear e2
        obtain ⟨ad, eA, q0, q1, q2⟩ := at_T95 hCl ((i + 1 : Nat) : Int) (by omega) (by simp only [List.length_cons]; omega)
        injection eA with eA
        subst eA
        obtain ⟨x, hx⟩ : ∃ x, l[i] = x := ⟨_, rfl⟩
        have hrd : rd_T95 (x0 :: l) ((i + 1 : Nat) : Int) = x := by rw [rdN_nat (x0 :: l) (by simp only [List.length_cons]; omega)]; simpa using hx
        rw [hrd] at q0 q1 q2
        simp only [Int.toNat_natCast, Addr.add, Nat.zero_add] at q0 q1 q2
        rw [show (i + 1) * 3 = 3 + i * 3 from by omega, if_neg (show ¬ 3 + i * 3 = 0 from by omega)] at q0 q1 q2
        simp only at q0 q1 q2
        have hA := HA.out
        rw [List.drop_eq_getElem_cons hlt, hx] at hA
        have HA1 := Aside0.mk hA
        clear hA HA hCl hrd
        have HA := HA1
        clear HA1
        have hd : decide (i < l.length) = true := decide_eq_true hlt
        obtain ⟨xv, xa, xb⟩ := x
        simp only at q0 q1 q2
        cases xb with
        | false =>
          have HUr := Aside0.mk (blk_lt KS.out)
          have HWR := Aside0.mk (show wrap64 (ah + 2) = ah + 2 from by have h := hah.out; unfold wrap64; omega)
          have KN := Aside0.mk (blk_new wr (.cells #[.int .i64 xv, .int .i64 xa, .bool false] 95 (0, 0)))
          have nKD := Aside0.mk (blk_alloc KD.out (.cells #[.int .i64 xv, .int .i64 xa, .bool false] 95 (0, 0))); have nKS := Aside0.mk (blk_alloc KS.out (.cells #[.int .i64 xv, .int .i64 xa, .bool false] 95 (0, 0))); have nHL := Aside0.mk (Kd.R_alloc HL.out (.cells #[.int .i64 xv, .int .i64 xa, .bool false] 95 (0, 0))); have nHW := Aside0.mk (Kd.R_alloc HW.out (.cells #[.int .i64 xv, .int .i64 xa, .bool false] 95 (0, 0))); have nHB := Aside0.mk (below_alloc HB.out (.cells #[.int .i64 xv, .int .i64 xa, .bool false] 95 (0, 0)))
          clear KD KS HL HW HB
          have KD := nKD; have KS := nKS; have HL := nHL; have HW := nHW; have HB := nHB
          clear nKD nKS nHL nHW nHB
          have z0 := (blk_cell KS.out 0).trans rfl; have z1 := (blk_cell KS.out 1).trans rfl; have y0 := (blk_cell KN.out 0).trans rfl; have y1 := (blk_cell KN.out 1).trans rfl; have y2 := (blk_cell KN.out 2).trans rfl
          gi_wp2_with fail
          refine ⟨trivial, ?_⟩; gi_at_call 57
          obtain ⟨Aw, cw, ev, hcw, hCw⟩ := Kd.R_reads HW.out
          injection ev with e1 e2 e3
          subst e1 e3
          have hwl : ws.length = ws0.length := hah.out.1
          rw [← hwl]
          obtain ⟨r, hr⟩ : ∃ r, bitset_within.f (n : Int) ws xv = some r := by
            unfold bitset_within.f
            split <;> exact ⟨_, rfl⟩
          refine (callsIn_wide.2 (bitset_within.calls (n : Int) _ _ ws xv r _ hCw hcw hr)).mono ?_
          rintro e w4 ⟨rfl, hb⟩
          clear z0 z1 y0 y1 y2 q0 q1 q2 hCw e2
          rw [hwl]
          have mKD := Aside0.mk (blk_below KD.out hb)
          have mKS := Aside0.mk (blk_below KS.out hb)
          have mKN := Aside0.mk (blk_below KN.out hb)
          have mHL := Aside0.mk (Kd.R_below HL.out hb)
          have mHW := Aside0.mk (Kd.R_below HW.out hb)
          have mHB := Aside0.mk (below_step HB.out hb)
          clear KD KS KN HL HW HB
          have KD := mKD
          have KS := mKS
          have KN := mKN
          have HL := mHL
          have HW := mHW
          have HB := mHB
          clear mKD mKS mKN mHL mHW mHB
          clear hb
          have y0 := (blk_cell KN.out 0).trans rfl; have y1 := (blk_cell KN.out 1).trans rfl; have y2 := (blk_cell KN.out 2).trans rfl
          by_cases hv0 : 0 ≤ xv
          · by_cases hv1 : xv < (n : Int)
            · obtain rfl : r = true := by
                have h := hr
                unfold bitset_within.f at h
                rw [if_pos (by omega)] at h
                injection h with h
                rw [← h]
                exact decide_eq_true hv1
              by_cases hlt1 : xv < ah + 2
              · have hcmp : decide (xv < wrap64 (ah + 2)) = true := by rw [HWR.out]; exact decide_eq_true hlt1
                gi_wp2_with fail
                clear y0 y1 y2
                have hmx : Try.prog.follows .mixedOrders = true := by kernel_rfl
                have KD4 := Aside0.mk (blk_drew KD.out)
                have HB4 := Aside0.mk (below_drew1 HB.out)
                have KN4 := Aside0.mk (blk_drew KN.out)
                have hDN : w.heap.size ≠ wr.heap.size := by have := HUr.out; have := HS3.out; have := HS5.out; omega
                refine wpIn_wide.2 ?_
                refine start_ (n := 6) (S := fun w' => w'.cell? ⟨wr.heap.size, 1, none⟩ = some (.int .i64 xa)) (ds := []) #[false, false, false, false, false, false] hmx (by kernel_rfl) rfl ((blk_cell (blk_drew KN.out) 1).trans rfl) (fun hHeld => ?_)
                generalize World.drew w4 = W4 at KD4 HB4 KN4 hHeld ⊢
                refine pure_ (i := 0) (N := some 66) (v := ?_) (a' := ?_) #[true, false, false, false, false, false] rfl rfl (by kernel_rfl) (fun _ _ _ h => h) (Or.inl ⟨by rfl, ?_⟩) ?_ ?_
                rotate_left
                · intro w'
                  go_simp
                  with_reducible rfl
                rotate_left
                · simp only [Act.put, List.setIfInBounds_toArray, List.set_cons_zero, List.set_cons_succ, i64_w, i32_w]
                  rfl
                refine pure_ (i := 1) (N := some 67) (v := ?_) (a' := ?_) #[true, true, false, false, false, false] rfl rfl (by kernel_rfl) (fun _ _ _ h => h) (Or.inl ⟨by rfl, ?_⟩) ?_ ?_
                rotate_left
                · intro w'
                  go_simp
                  with_reducible rfl
                rotate_left
                · simp only [Act.put, List.setIfInBounds_toArray, List.set_cons_zero, List.set_cons_succ, i64_w, i32_w]
                  rfl
                refine take_ (i := 2) (N := some 68) (v := ?_) (a' := ?_) #[true, true, true, false, false, false] rfl rfl (by kernel_rfl) (fun _ _ _ h => h) (Or.inl ⟨by rfl, ?_⟩) hHeld ?_ ?_
                rotate_left
                · intro w' s0
                  go_simp
                  with_reducible rfl
                rotate_left
                · simp only [Act.put, List.setIfInBounds_toArray, List.set_cons_zero, List.set_cons_succ, i64_w, i32_w]
                  rfl
                refine one_ (i := 3) (N := none) #[true, true, true, true, false, false] rfl rfl (by kernel_rfl) (by decide) (fun K hK => ?_)
                have t0 := (blk_cell KD4.out 0).trans rfl
                have t1 := (blk_cell KD4.out 1).trans rfl
                have f0 := blk_frozen KD4.out 0
                have f1 := blk_frozen KD4.out 1
                refine skip_ (w1 := ?_) (by rfl) rfl ?_ ?_
                rotate_left
                · go_simp
                  rfl
                obtain ⟨X, hX⟩ : ∃ X, (W4.setCell ⟨w.heap.size, 0, none⟩ (.int .i64 0)).setCell ⟨w.heap.size, 1, none⟩ (.slice none 0 0) = X := ⟨_, rfl⟩
                rw [hX]
                refine hK.out _ _ ((blk_cell (hX ▸ blk_far (blk_far KN4.out (fun e => hDN e.symm) _) (fun e => hDN e.symm) _) 1).trans rfl) (fun hHeld => ?_)
                clear hK K t0 t1 f0 f1
                refine pure_ (i := 4) (N := some 3) (v := ?_) (a' := ?_) #[true, true, true, true, true, false] rfl rfl (by kernel_rfl) (fun _ _ _ h => h) (Or.inl ⟨by rfl, ?_⟩) ?_ ?_
                rotate_left
                · intro w'
                  go_simp
                  with_reducible rfl
                rotate_left
                · simp only [Act.put, List.setIfInBounds_toArray, List.set_cons_zero, List.set_cons_succ, i64_w, i32_w]
                  rfl
                refine pure_ (i := 5) (N := some 4) (v := ?_) (a' := ?_) #[true, true, true, true, true, true] rfl rfl (by kernel_rfl) (fun _ _ _ h => h) (Or.inl ⟨by rfl, ?_⟩) ?_ ?_
                rotate_left
                · intro w'
                  go_simp
                  with_reducible rfl
                rotate_left
                · simp only [Act.put, List.setIfInBounds_toArray, List.set_cons_zero, List.set_cons_succ, i64_w, i32_w]
                  rfl
                refine done_ (by kernel_rfl) ?_
                have hXg : X.heap[w.heap.size]? = some (.cells #[.int .i64 0, .slice none 0 0] 26 (0, 0)) := hX ▸ blk_put (blk_put KD4.out 0 (Value.int IntKind.i64 0) rfl) 1 (Value.slice none 0 0) rfl
                have hXB : Below w.heap.size w X := hX ▸ below_set (below_set HB4.out (Nat.le_refl _)) (Nat.le_refl _)
                clear hX
                gi_wp2_with fail
                have c0 := (blk_cell hXg 0).trans rfl
                have c1 := (blk_cell hXg 1).trans rfl
                have hA := HA.out
                rw [pgo_low hv0 hv1 (by simpa using hlt1)] at hA
                simp only [Option.some.injEq, Prod.mk.injEq] at hA
                obtain ⟨rfl, rfl, rfl, rfl⟩ := hA
                refine bodyPost_ret (v := .tuple #[.agg #[.int .i64 0, .slice none 0 0], .int .i64 xa, .int .i64 1]) ?_ rfl ⟨_, rfl, Kd.R_nil _ _ _ _ _, hXB⟩
                simp [results, Try.f35, go_sem, c0, c1]
              · have hcmp : decide (xv < wrap64 (ah + 2)) = false := by rw [HWR.out]; exact decide_eq_false hlt1
                gi_wp2_with fail
                clear y0 y1 y2 hcmp
                have hA := HA.out
                rw [pgo_next hv0 hv1 (by simpa using hlt1)] at hA
                simp only [if_true, if_false, Bool.false_eq_true] at hA
                by_cases hf : 0 ≤ xv
                · rw [if_pos hf] at hA
                  obtain ⟨wsF, hF, hA2⟩ := Option.bind_eq_some_iff.1 hA
                  have HA2 := Aside0.mk hA2
                  have HF0 := Aside0.mk hF
                  clear hA hA2 hF HA
                  obtain ⟨Inw, hInw⟩ : ∃ Inw : Act → World → Prop, Inw = (fun a W => ∃ (e : Int) (ws' : List Int) (i11 i12 i44 i45 i46 i47 i48 i49 i50 i51 i52 i53 i54 i55 i56 i57 i61 i62 i63 i64 i65 i69 i70 i71 i72 i73 i74 i75 i76 i77 i78 i79 i80 i81 i82 i83 i84 i85 i86 : Value), a = { tmps := #[.string a0, undef, .pointer (some ⟨w.heap.size, 0, none⟩), .int .i64 0, .int .i64 0, .slice (some ⟨gl, 0, none⟩) (l.length + 1) cl, .int .i64 (-1), .pointer (some ⟨w3.heap.size, 0, none⟩), .int .i64 ah, undef, .pointer (some ⟨wr.heap.size, 0, none⟩), i11, i12, .int .i64 e, .string a0, .int .i64 a0.size, .bool false, undef, .tuple #[.slice (some ⟨gl, 0, none⟩) (l.length + 1) cl, .int .i64 (-1)], .string a0, .tuple #[.slice (some ⟨gl, 0, none⟩) (l.length + 1) cl, .int .i64 (-1)], .slice (some ⟨gl, 0, none⟩) (l.length + 1) cl, .int .i64 (-1), .int .i64 (-1), .bool false, undef, undef, .slice (some ⟨gl, 0, none⟩) (l.length + 1) cl, .pointer (some ⟨gl, 0, none⟩), .pointer (some ⟨gl, 0, none⟩), .int .i64 n, .bool true, .bool false, undef, .slice (some ⟨gl, 0, none⟩) (l.length + 1) cl, .pointer (some ⟨gl, 0, none⟩), .pointer (some ⟨gl, 0, none⟩), .int .i64 n, .agg #[.int .i64 n, .slice As ws0.length cs], .slice (some ⟨gl, 0, none⟩) (l.length + 1) cl, .slice (some ⟨gl, 3, none⟩) l.length (cl - 1), .int .i64 l.length, .int .i64 i, .bool true, i44, i45, i46, i47, i48, i49, i50, i51, i52, i53, i54, i55, i56, i57, undef, undef, undef, i61, i62, i63, i64, i65, undef, undef, undef, i69, i70, i71, i72, i73, i74, i75, i76, i77, i78, i79, i80, i81, i82, i83, i84, i85, i86, undef], defers := [] } ∧ Aside0 (ws'.length = ws0.length ∧ 0 ≤ e) ∧ Aside0 (pfill (n : Int) xv (xv + 1 - e).toNat e ws' = some wsF) ∧
                    Aside0 (W.heap[wr.heap.size]? = some (.cells #[.int .i64 xv, .int .i64 xa, .bool false] 95 (0, 0))) ∧ Aside0 (W.heap[w.heap.size]? = some (.cells #[.int .i64 0, .slice none 0 0] 26 (0, 0))) ∧ Aside0 (W.heap[w3.heap.size]? = some (.cells #[.int .i64 n, .slice As ws0.length cs] 26 (0, 0))) ∧
                Aside0 (Kd.R k95 95 W w.heap.size (fun k_ => w.heap.size + 1 ≤ k_ ∧ k_ < w1.heap.size) (.slice (some ⟨gl, 0, none⟩) (x0 :: l).length cl) (x0 :: l)) ∧ Aside0 (Kd.R (Kd.int .u64) 82 W w.heap.size (fun k_ => w1.heap.size ≤ k_ ∧ k_ < w3.heap.size) (.slice As ws0.length cs) ws') ∧ Aside0 (Below w.heap.size w W)) := ⟨_, rfl⟩
                  refine wpIn_loop Inw (fun a _ => (xv + 1 - intOf (a.tmps.getD 13 undef)).toNat) ?start ?round
                  case start =>
                    rw [hInw]
                    exact ⟨xv, ws, _, _, _, _, _, _, _, _, _, _, _, _, _, _, _, _, _, _, _, _, _, _, _, _, _, _, _, _, _, _, _, _, _, _, _, _, _, _, _, rfl, ⟨hwl, hf⟩, HF0, KN, KD, KS, HL, HW, HB⟩
                  case round =>
                    intro a wx hI
                    rw [hInw] at hI
                    have HInw := Aside0.mk hInw
                    clear hInw KN KD KS HL HW HB HF0
                    obtain ⟨e, ws', i11, i12, i44, i45, i46, i47, i48, i49, i50, i51, i52, i53, i54, i55, i56, i57, i61, i62, i63, i64, i65, i69, i70, i71, i72, i73, i74, i75, i76, i77, i78, i79, i80, i81, i82, i83, i84, i85, i86, rfl, he, HF, KN, KD, KS, HL, HW, HB⟩ := hI
                    have y0 := (blk_cell KN.out 0).trans rfl; have y1 := (blk_cell KN.out 1).trans rfl; have y2 := (blk_cell KN.out 2).trans rfl
                    have z0 := (blk_cell KS.out 0).trans rfl; have z1 := (blk_cell KS.out 1).trans rfl
                    by_cases hle : e ≤ xv
                    · have hd2 : decide (e ≤ xv) = true := decide_eq_true hle
                      have hF := HF.out
                      rw [show (xv + 1 - e).toNat = (xv + 1 - (e + 1)).toNat + 1 from by omega, pfill, if_pos hle] at hF
                      obtain ⟨wp, hp, hF2⟩ := Option.bind_eq_some_iff.1 hF
                      have HP := Aside0.mk hp
                      have HF2 := Aside0.mk hF2
                      have hpl := put_len hp
                      clear hF hF2 hp HF
                      have HWE := Aside0.mk (show wrap64 (e + 1) = e + 1 from by have h := he.out; unfold wrap64; omega)
                      gi_wp2_with fail
                      refine ⟨trivial, ?_⟩; gi_at_call 58
                      refine (callsIn_wide.2 (bitset_put.calls (n : Int) (fun k_ => w1.heap.size ≤ k_ ∧ k_ < w3.heap.size) _ ws' e wp w wx HB.out HW.out HP.out)).mono ?_
                      rintro e' w5 ⟨rfl, hR, hb, hk⟩
                      have mKD := Aside0.mk (blk_kept KD.out hk (fun h => absurd (show w1.heap.size ≤ w.heap.size from h.1) (by have := HS3.out; omega)))
                      have mKS := Aside0.mk (blk_kept KS.out hk (fun h => Nat.lt_irrefl _ h.2))
                      have mKN := Aside0.mk (blk_kept KN.out hk (fun h => absurd (show wr.heap.size < w3.heap.size from h.2) (by have := HUr.out; omega)))
                      have mHL := Aside0.mk (Kd.R_kept HL.out hk (fun k_ hk_ e => absurd hk_.2 (by have : w1.heap.size ≤ k_ := e.1; omega)))
                      have mHW := Aside0.mk (Kd.R_reok (ok := fun k_ => w1.heap.size ≤ k_ ∧ k_ < w3.heap.size) rfl hR (fun k_ hk_ => HW.out.1 k_ hk_))
                      have mHB := Aside0.mk hb
                      clear KD KS KN HL HW HB hR hb hk y0 y1 y2 z0 z1
                      gi_wp2_with fail
                      rw [HWE.out, HInw.out]
                      refine ⟨⟨e + 1, wp, _, _, _, _, _, _, _, _, _, _, _, _, _, _, _, _, _, _, _, _, _, _, _, _, _, _, _, _, _, _, _, _, _, _, _, _, _, _, _, rfl, ⟨by rw [hpl]; exact he.out.1, by have := he.out; omega⟩, HF2, mKN, mKD, mKS, mHL, mHW, mHB⟩, ?_⟩
                      show (xv + 1 - intOf (.int .i64 (e + 1))).toNat < (xv + 1 - intOf (.int .i64 e)).toNat
                      simp only [intOf]
                      omega
                    · have hd2 : decide (e ≤ xv) = false := decide_eq_false hle
                      have hF := HF.out
                      rw [show (xv + 1 - e).toNat = 0 from by omega, pfill, if_neg hle] at hF
                      injection hF with hF
                      subst hF
                      clear HF
                      gi_wp2_with fail
                      rw [show ((i : Int) + 1) = ((i + 1 : Nat) : Int) from by omega]
                      rw [HInv.out]
                      refine ⟨⟨i + 1, xv, ws', _, _, _, _, _, _, _, _, _, _, _, _, _, _, _, _, _, _, _, _, _, _, _, _, _, _, _, _, _, _, _, _, _, _, _, _, _, _, _, _, _, _, rfl, ⟨hlt⟩, ⟨he.out.1, by omega, by omega⟩, HA2, KD, KS, HL, HW, HB⟩, ?_⟩
                      show l.length - (intOf (.int .i64 ((i + 1 : Nat) : Int))).toNat < l.length - (intOf (.int .i64 (i : Int))).toNat
                      simp only [intOf, Int.toNat_natCast]
                      omega
                · first
                    | exact absurd hv0 hf
                    | (rw [if_neg hf] at hA; cases hA)
            · obtain rfl : r = false := by
                have h := hr
                unfold bitset_within.f at h
                rw [if_pos (by omega)] at h
                injection h with h
                rw [← h]
                exact decide_eq_false hv1
              have hlt1 : True := trivial
              gi_wp2_with fail
              clear y0 y1 y2
              have hmx : Try.prog.follows .mixedOrders = true := by kernel_rfl
              have KD4 := Aside0.mk (blk_drew KD.out)
              have HB4 := Aside0.mk (below_drew1 HB.out)
              have KN4 := Aside0.mk (blk_drew KN.out)
              have hDN : w.heap.size ≠ wr.heap.size := by have := HUr.out; have := HS3.out; have := HS5.out; omega
              refine wpIn_wide.2 ?_
              refine start_ (n := 6) (S := fun w' => w'.cell? ⟨wr.heap.size, 1, none⟩ = some (.int .i64 xa)) (ds := []) #[false, false, false, false, false, false] hmx (by kernel_rfl) rfl ((blk_cell (blk_drew KN.out) 1).trans rfl) (fun hHeld => ?_)
              generalize World.drew w4 = W4 at KD4 HB4 KN4 hHeld ⊢
              refine pure_ (i := 0) (N := some 58) (v := ?_) (a' := ?_) #[true, false, false, false, false, false] rfl rfl (by kernel_rfl) (fun _ _ _ h => h) (Or.inl ⟨by rfl, ?_⟩) ?_ ?_
              rotate_left
              · intro w'
                go_simp
                with_reducible rfl
              rotate_left
              · simp only [Act.put, List.setIfInBounds_toArray, List.set_cons_zero, List.set_cons_succ, i64_w, i32_w]
                rfl
              refine pure_ (i := 1) (N := some 59) (v := ?_) (a' := ?_) #[true, true, false, false, false, false] rfl rfl (by kernel_rfl) (fun _ _ _ h => h) (Or.inl ⟨by rfl, ?_⟩) ?_ ?_
              rotate_left
              · intro w'
                go_simp
                with_reducible rfl
              rotate_left
              · simp only [Act.put, List.setIfInBounds_toArray, List.set_cons_zero, List.set_cons_succ, i64_w, i32_w]
                rfl
              refine take_ (i := 2) (N := some 60) (v := ?_) (a' := ?_) #[true, true, true, false, false, false] rfl rfl (by kernel_rfl) (fun _ _ _ h => h) (Or.inl ⟨by rfl, ?_⟩) hHeld ?_ ?_
              rotate_left
              · intro w' s0
                go_simp
                with_reducible rfl
              rotate_left
              · simp only [Act.put, List.setIfInBounds_toArray, List.set_cons_zero, List.set_cons_succ, i64_w, i32_w]
                rfl
              refine one_ (i := 3) (N := none) #[true, true, true, true, false, false] rfl rfl (by kernel_rfl) (by decide) (fun K hK => ?_)
              have t0 := (blk_cell KD4.out 0).trans rfl
              have t1 := (blk_cell KD4.out 1).trans rfl
              have f0 := blk_frozen KD4.out 0
              have f1 := blk_frozen KD4.out 1
              refine skip_ (w1 := ?_) (by rfl) rfl ?_ ?_
              rotate_left
              · go_simp
                rfl
              obtain ⟨X, hX⟩ : ∃ X, (W4.setCell ⟨w.heap.size, 0, none⟩ (.int .i64 0)).setCell ⟨w.heap.size, 1, none⟩ (.slice none 0 0) = X := ⟨_, rfl⟩
              rw [hX]
              refine hK.out _ _ ((blk_cell (hX ▸ blk_far (blk_far KN4.out (fun e => hDN e.symm) _) (fun e => hDN e.symm) _) 1).trans rfl) (fun hHeld => ?_)
              clear hK K t0 t1 f0 f1
              refine pure_ (i := 4) (N := some 3) (v := ?_) (a' := ?_) #[true, true, true, true, true, false] rfl rfl (by kernel_rfl) (fun _ _ _ h => h) (Or.inl ⟨by rfl, ?_⟩) ?_ ?_
              rotate_left
              · intro w'
                go_simp
                with_reducible rfl
              rotate_left
              · simp only [Act.put, List.setIfInBounds_toArray, List.set_cons_zero, List.set_cons_succ, i64_w, i32_w]
                rfl
              refine pure_ (i := 5) (N := some 4) (v := ?_) (a' := ?_) #[true, true, true, true, true, true] rfl rfl (by kernel_rfl) (fun _ _ _ h => h) (Or.inl ⟨by rfl, ?_⟩) ?_ ?_
              rotate_left
              · intro w'
                go_simp
                with_reducible rfl
              rotate_left
              · simp only [Act.put, List.setIfInBounds_toArray, List.set_cons_zero, List.set_cons_succ, i64_w, i32_w]
                rfl
              refine done_ (by kernel_rfl) ?_
              have hXg : X.heap[w.heap.size]? = some (.cells #[.int .i64 0, .slice none 0 0] 26 (0, 0)) := hX ▸ blk_put (blk_put KD4.out 0 (Value.int IntKind.i64 0) rfl) 1 (Value.slice none 0 0) rfl
              have hXB : Below w.heap.size w X := hX ▸ below_set (below_set HB4.out (Nat.le_refl _)) (Nat.le_refl _)
              clear hX
              gi_wp2_with fail
              have c0 := (blk_cell hXg 0).trans rfl
              have c1 := (blk_cell hXg 1).trans rfl
              have hA := HA.out
              rw [pgo_far (Or.inr (show ¬ xv < (n : Int) from by omega))] at hA
              simp only [Option.some.injEq, Prod.mk.injEq] at hA
              obtain ⟨rfl, rfl, rfl, rfl⟩ := hA
              refine bodyPost_ret (v := .tuple #[.agg #[.int .i64 0, .slice none 0 0], .int .i64 xa, .int .i64 62]) ?_ rfl ⟨_, rfl, Kd.R_nil _ _ _ _ _, hXB⟩
              simp [results, Try.f35, go_sem, c0, c1]
          · obtain rfl : r = false := by
              have h := hr
              unfold bitset_within.f at h
              rw [if_neg (by omega)] at h
              injection h with h
              exact h.symm
            have hlt1 : True := trivial
            have hv1 : True := trivial
            gi_wp2_with fail
            clear y0 y1 y2
            have hmx : Try.prog.follows .mixedOrders = true := by kernel_rfl
            have KD4 := Aside0.mk (blk_drew KD.out)
            have HB4 := Aside0.mk (below_drew1 HB.out)
            have KN4 := Aside0.mk (blk_drew KN.out)
            have hDN : w.heap.size ≠ wr.heap.size := by have := HUr.out; have := HS3.out; have := HS5.out; omega
            refine wpIn_wide.2 ?_
            refine start_ (n := 6) (S := fun w' => w'.cell? ⟨wr.heap.size, 1, none⟩ = some (.int .i64 xa)) (ds := []) #[false, false, false, false, false, false] hmx (by kernel_rfl) rfl ((blk_cell (blk_drew KN.out) 1).trans rfl) (fun hHeld => ?_)
            generalize World.drew w4 = W4 at KD4 HB4 KN4 hHeld ⊢
            refine pure_ (i := 0) (N := some 58) (v := ?_) (a' := ?_) #[true, false, false, false, false, false] rfl rfl (by kernel_rfl) (fun _ _ _ h => h) (Or.inl ⟨by rfl, ?_⟩) ?_ ?_
            rotate_left
            · intro w'
              go_simp
              with_reducible rfl
            rotate_left
            · simp only [Act.put, List.setIfInBounds_toArray, List.set_cons_zero, List.set_cons_succ, i64_w, i32_w]
              rfl
            refine pure_ (i := 1) (N := some 59) (v := ?_) (a' := ?_) #[true, true, false, false, false, false] rfl rfl (by kernel_rfl) (fun _ _ _ h => h) (Or.inl ⟨by rfl, ?_⟩) ?_ ?_
            rotate_left
            · intro w'
              go_simp
              with_reducible rfl
            rotate_left
            · simp only [Act.put, List.setIfInBounds_toArray, List.set_cons_zero, List.set_cons_succ, i64_w, i32_w]
              rfl
            refine take_ (i := 2) (N := some 60) (v := ?_) (a' := ?_) #[true, true, true, false, false, false] rfl rfl (by kernel_rfl) (fun _ _ _ h => h) (Or.inl ⟨by rfl, ?_⟩) hHeld ?_ ?_
            rotate_left
            · intro w' s0
              go_simp
              with_reducible rfl
            rotate_left
            · simp only [Act.put, List.setIfInBounds_toArray, List.set_cons_zero, List.set_cons_succ, i64_w, i32_w]
              rfl
            refine one_ (i := 3) (N := none) #[true, true, true, true, false, false] rfl rfl (by kernel_rfl) (by decide) (fun K hK => ?_)
            have t0 := (blk_cell KD4.out 0).trans rfl
            have t1 := (blk_cell KD4.out 1).trans rfl
            have f0 := blk_frozen KD4.out 0
            have f1 := blk_frozen KD4.out 1
            refine skip_ (w1 := ?_) (by rfl) rfl ?_ ?_
            rotate_left
            · go_simp
              rfl
            obtain ⟨X, hX⟩ : ∃ X, (W4.setCell ⟨w.heap.size, 0, none⟩ (.int .i64 0)).setCell ⟨w.heap.size, 1, none⟩ (.slice none 0 0) = X := ⟨_, rfl⟩
            rw [hX]
            refine hK.out _ _ ((blk_cell (hX ▸ blk_far (blk_far KN4.out (fun e => hDN e.symm) _) (fun e => hDN e.symm) _) 1).trans rfl) (fun hHeld => ?_)
            clear hK K t0 t1 f0 f1
            refine pure_ (i := 4) (N := some 3) (v := ?_) (a' := ?_) #[true, true, true, true, true, false] rfl rfl (by kernel_rfl) (fun _ _ _ h => h) (Or.inl ⟨by rfl, ?_⟩) ?_ ?_
            rotate_left
            · intro w'
              go_simp
              with_reducible rfl
            rotate_left
            · simp only [Act.put, List.setIfInBounds_toArray, List.set_cons_zero, List.set_cons_succ, i64_w, i32_w]
              rfl
            refine pure_ (i := 5) (N := some 4) (v := ?_) (a' := ?_) #[true, true, true, true, true, true] rfl rfl (by kernel_rfl) (fun _ _ _ h => h) (Or.inl ⟨by rfl, ?_⟩) ?_ ?_
            rotate_left
            · intro w'
              go_simp
              with_reducible rfl
            rotate_left
            · simp only [Act.put, List.setIfInBounds_toArray, List.set_cons_zero, List.set_cons_succ, i64_w, i32_w]
              rfl
            refine done_ (by kernel_rfl) ?_
            have hXg : X.heap[w.heap.size]? = some (.cells #[.int .i64 0, .slice none 0 0] 26 (0, 0)) := hX ▸ blk_put (blk_put KD4.out 0 (Value.int IntKind.i64 0) rfl) 1 (Value.slice none 0 0) rfl
            have hXB : Below w.heap.size w X := hX ▸ below_set (below_set HB4.out (Nat.le_refl _)) (Nat.le_refl _)
            clear hX
            gi_wp2_with fail
            have c0 := (blk_cell hXg 0).trans rfl
            have c1 := (blk_cell hXg 1).trans rfl
            have hA := HA.out
            rw [pgo_far (Or.inl (show ¬ 0 ≤ xv from by omega))] at hA
            simp only [Option.some.injEq, Prod.mk.injEq] at hA
            obtain ⟨rfl, rfl, rfl, rfl⟩ := hA
            refine bodyPost_ret (v := .tuple #[.agg #[.int .i64 0, .slice none 0 0], .int .i64 xa, .int .i64 62]) ?_ rfl ⟨_, rfl, Kd.R_nil _ _ _ _ _, hXB⟩
            simp [results, Try.f35, go_sem, c0, c1]
        | true =>
          have HUr := Aside0.mk (blk_lt KS.out)
          have HWR := Aside0.mk (show wrap64 (ah + 1) = ah + 1 from by have h := hah.out; unfold wrap64; omega)
          have KN := Aside0.mk (blk_new wr (.cells #[.int .i64 xv, .int .i64 xa, .bool true] 95 (0, 0)))
          have nKD := Aside0.mk (blk_alloc KD.out (.cells #[.int .i64 xv, .int .i64 xa, .bool true] 95 (0, 0))); have nKS := Aside0.mk (blk_alloc KS.out (.cells #[.int .i64 xv, .int .i64 xa, .bool true] 95 (0, 0))); have nHL := Aside0.mk (Kd.R_alloc HL.out (.cells #[.int .i64 xv, .int .i64 xa, .bool true] 95 (0, 0))); have nHW := Aside0.mk (Kd.R_alloc HW.out (.cells #[.int .i64 xv, .int .i64 xa, .bool true] 95 (0, 0))); have nHB := Aside0.mk (below_alloc HB.out (.cells #[.int .i64 xv, .int .i64 xa, .bool true] 95 (0, 0)))
          clear KD KS HL HW HB
          have KD := nKD; have KS := nKS; have HL := nHL; have HW := nHW; have HB := nHB
          clear nKD nKS nHL nHW nHB
          have z0 := (blk_cell KS.out 0).trans rfl; have z1 := (blk_cell KS.out 1).trans rfl; have y0 := (blk_cell KN.out 0).trans rfl; have y1 := (blk_cell KN.out 1).trans rfl; have y2 := (blk_cell KN.out 2).trans rfl
          gi_wp2_with fail
          refine ⟨trivial, ?_⟩; gi_at_call 57
          obtain ⟨Aw, cw, ev, hcw, hCw⟩ := Kd.R_reads HW.out
          injection ev with e1 e2 e3
          subst e1 e3
          have hwl : ws.length = ws0.length := hah.out.1
          rw [← hwl]
          obtain ⟨r, hr⟩ : ∃ r, bitset_within.f (n : Int) ws xv = some r := by
            unfold bitset_within.f
            split <;> exact ⟨_, rfl⟩
          refine (callsIn_wide.2 (bitset_within.calls (n : Int) _ _ ws xv r _ hCw hcw hr)).mono ?_
          rintro e w4 ⟨rfl, hb⟩
          clear z0 z1 y0 y1 y2 q0 q1 q2 hCw e2
          rw [hwl]
          have mKD := Aside0.mk (blk_below KD.out hb)
          have mKS := Aside0.mk (blk_below KS.out hb)
          have mKN := Aside0.mk (blk_below KN.out hb)
          have mHL := Aside0.mk (Kd.R_below HL.out hb)
          have mHW := Aside0.mk (Kd.R_below HW.out hb)
          have mHB := Aside0.mk (below_step HB.out hb)
          clear KD KS KN HL HW HB
          have KD := mKD
          have KS := mKS
          have KN := mKN
          have HL := mHL
          have HW := mHW
          have HB := mHB
          clear mKD mKS mKN mHL mHW mHB
          clear hb
          have y0 := (blk_cell KN.out 0).trans rfl; have y1 := (blk_cell KN.out 1).trans rfl; have y2 := (blk_cell KN.out 2).trans rfl
          by_cases hv0 : 0 ≤ xv
          · by_cases hv1 : xv < (n : Int)
            · obtain rfl : r = true := by
                have h := hr
                unfold bitset_within.f at h
                rw [if_pos (by omega)] at h
                injection h with h
                rw [← h]
                exact decide_eq_true hv1
              by_cases hlt1 : xv < ah + 1
              · have hcmp : decide (xv < wrap64 (ah + 1)) = true := by rw [HWR.out]; exact decide_eq_true hlt1
                gi_wp2_with fail
                clear y0 y1 y2
                have hmx : Try.prog.follows .mixedOrders = true := by kernel_rfl
                have KD4 := Aside0.mk (blk_drew KD.out)
                have HB4 := Aside0.mk (below_drew1 HB.out)
                have KN4 := Aside0.mk (blk_drew KN.out)
                have hDN : w.heap.size ≠ wr.heap.size := by have := HUr.out; have := HS3.out; have := HS5.out; omega
                refine wpIn_wide.2 ?_
                refine start_ (n := 6) (S := fun w' => w'.cell? ⟨wr.heap.size, 1, none⟩ = some (.int .i64 xa)) (ds := []) #[false, false, false, false, false, false] hmx (by kernel_rfl) rfl ((blk_cell (blk_drew KN.out) 1).trans rfl) (fun hHeld => ?_)
                generalize World.drew w4 = W4 at KD4 HB4 KN4 hHeld ⊢
                refine pure_ (i := 0) (N := some 66) (v := ?_) (a' := ?_) #[true, false, false, false, false, false] rfl rfl (by kernel_rfl) (fun _ _ _ h => h) (Or.inl ⟨by rfl, ?_⟩) ?_ ?_
                rotate_left
                · intro w'
                  go_simp
                  with_reducible rfl
                rotate_left
                · simp only [Act.put, List.setIfInBounds_toArray, List.set_cons_zero, List.set_cons_succ, i64_w, i32_w]
                  rfl
                refine pure_ (i := 1) (N := some 67) (v := ?_) (a' := ?_) #[true, true, false, false, false, false] rfl rfl (by kernel_rfl) (fun _ _ _ h => h) (Or.inl ⟨by rfl, ?_⟩) ?_ ?_
                rotate_left
                · intro w'
                  go_simp
                  with_reducible rfl
                rotate_left
                · simp only [Act.put, List.setIfInBounds_toArray, List.set_cons_zero, List.set_cons_succ, i64_w, i32_w]
                  rfl
                refine take_ (i := 2) (N := some 68) (v := ?_) (a' := ?_) #[true, true, true, false, false, false] rfl rfl (by kernel_rfl) (fun _ _ _ h => h) (Or.inl ⟨by rfl, ?_⟩) hHeld ?_ ?_
                rotate_left
                · intro w' s0
                  go_simp
                  with_reducible rfl
                rotate_left
                · simp only [Act.put, List.setIfInBounds_toArray, List.set_cons_zero, List.set_cons_succ, i64_w, i32_w]
                  rfl
                refine one_ (i := 3) (N := none) #[true, true, true, true, false, false] rfl rfl (by kernel_rfl) (by decide) (fun K hK => ?_)
                have t0 := (blk_cell KD4.out 0).trans rfl
                have t1 := (blk_cell KD4.out 1).trans rfl
                have f0 := blk_frozen KD4.out 0
                have f1 := blk_frozen KD4.out 1
                refine skip_ (w1 := ?_) (by rfl) rfl ?_ ?_
                rotate_left
                · go_simp
                  rfl
                obtain ⟨X, hX⟩ : ∃ X, (W4.setCell ⟨w.heap.size, 0, none⟩ (.int .i64 0)).setCell ⟨w.heap.size, 1, none⟩ (.slice none 0 0) = X := ⟨_, rfl⟩
                rw [hX]
                refine hK.out _ _ ((blk_cell (hX ▸ blk_far (blk_far KN4.out (fun e => hDN e.symm) _) (fun e => hDN e.symm) _) 1).trans rfl) (fun hHeld => ?_)
                clear hK K t0 t1 f0 f1
                refine pure_ (i := 4) (N := some 3) (v := ?_) (a' := ?_) #[true, true, true, true, true, false] rfl rfl (by kernel_rfl) (fun _ _ _ h => h) (Or.inl ⟨by rfl, ?_⟩) ?_ ?_
                rotate_left
                · intro w'
                  go_simp
                  with_reducible rfl
                rotate_left
                · simp only [Act.put, List.setIfInBounds_toArray, List.set_cons_zero, List.set_cons_succ, i64_w, i32_w]
                  rfl
                refine pure_ (i := 5) (N := some 4) (v := ?_) (a' := ?_) #[true, true, true, true, true, true] rfl rfl (by kernel_rfl) (fun _ _ _ h => h) (Or.inl ⟨by rfl, ?_⟩) ?_ ?_
                rotate_left
                · intro w'
                  go_simp
                  with_reducible rfl
                rotate_left
                · simp only [Act.put, List.setIfInBounds_toArray, List.set_cons_zero, List.set_cons_succ, i64_w, i32_w]
                  rfl
                refine done_ (by kernel_rfl) ?_
                have hXg : X.heap[w.heap.size]? = some (.cells #[.int .i64 0, .slice none 0 0] 26 (0, 0)) := hX ▸ blk_put (blk_put KD4.out 0 (Value.int IntKind.i64 0) rfl) 1 (Value.slice none 0 0) rfl
                have hXB : Below w.heap.size w X := hX ▸ below_set (below_set HB4.out (Nat.le_refl _)) (Nat.le_refl _)
                clear hX
                gi_wp2_with fail
                have c0 := (blk_cell hXg 0).trans rfl
                have c1 := (blk_cell hXg 1).trans rfl
                have hA := HA.out
                rw [pgo_low hv0 hv1 (by simpa using hlt1)] at hA
                simp only [Option.some.injEq, Prod.mk.injEq] at hA
                obtain ⟨rfl, rfl, rfl, rfl⟩ := hA
                refine bodyPost_ret (v := .tuple #[.agg #[.int .i64 0, .slice none 0 0], .int .i64 xa, .int .i64 1]) ?_ rfl ⟨_, rfl, Kd.R_nil _ _ _ _ _, hXB⟩
                simp [results, Try.f35, go_sem, c0, c1]
              · have hcmp : decide (xv < wrap64 (ah + 1)) = false := by rw [HWR.out]; exact decide_eq_false hlt1
                gi_wp2_with fail
                clear y0 y1 y2 hcmp
                have hA := HA.out
                rw [pgo_next hv0 hv1 (by simpa using hlt1)] at hA
                simp only [if_true, if_false, Bool.false_eq_true] at hA
                by_cases hf : 0 ≤ ah
                · rw [if_pos hf] at hA
                  obtain ⟨wsF, hF, hA2⟩ := Option.bind_eq_some_iff.1 hA
                  have HA2 := Aside0.mk hA2
                  have HF0 := Aside0.mk hF
                  clear hA hA2 hF HA
                  obtain ⟨Inw, hInw⟩ : ∃ Inw : Act → World → Prop, Inw = (fun a W => ∃ (e : Int) (ws' : List Int) (i11 i12 i44 i45 i46 i47 i48 i49 i50 i51 i52 i53 i54 i55 i56 i57 i61 i62 i63 i64 i65 i69 i70 i71 i72 i73 i74 i75 i76 i77 i78 i79 i80 i81 i82 i83 i84 i85 i86 : Value), a = { tmps := #[.string a0, undef, .pointer (some ⟨w.heap.size, 0, none⟩), .int .i64 0, .int .i64 0, .slice (some ⟨gl, 0, none⟩) (l.length + 1) cl, .int .i64 (-1), .pointer (some ⟨w3.heap.size, 0, none⟩), .int .i64 ah, undef, .pointer (some ⟨wr.heap.size, 0, none⟩), i11, i12, .int .i64 e, .string a0, .int .i64 a0.size, .bool false, undef, .tuple #[.slice (some ⟨gl, 0, none⟩) (l.length + 1) cl, .int .i64 (-1)], .string a0, .tuple #[.slice (some ⟨gl, 0, none⟩) (l.length + 1) cl, .int .i64 (-1)], .slice (some ⟨gl, 0, none⟩) (l.length + 1) cl, .int .i64 (-1), .int .i64 (-1), .bool false, undef, undef, .slice (some ⟨gl, 0, none⟩) (l.length + 1) cl, .pointer (some ⟨gl, 0, none⟩), .pointer (some ⟨gl, 0, none⟩), .int .i64 n, .bool true, .bool false, undef, .slice (some ⟨gl, 0, none⟩) (l.length + 1) cl, .pointer (some ⟨gl, 0, none⟩), .pointer (some ⟨gl, 0, none⟩), .int .i64 n, .agg #[.int .i64 n, .slice As ws0.length cs], .slice (some ⟨gl, 0, none⟩) (l.length + 1) cl, .slice (some ⟨gl, 3, none⟩) l.length (cl - 1), .int .i64 l.length, .int .i64 i, .bool true, i44, i45, i46, i47, i48, i49, i50, i51, i52, i53, i54, i55, i56, i57, undef, undef, undef, i61, i62, i63, i64, i65, undef, undef, undef, i69, i70, i71, i72, i73, i74, i75, i76, i77, i78, i79, i80, i81, i82, i83, i84, i85, i86, undef], defers := [] } ∧ Aside0 (ws'.length = ws0.length ∧ 0 ≤ e) ∧ Aside0 (pfill (n : Int) xv (xv + 1 - e).toNat e ws' = some wsF) ∧
                    Aside0 (W.heap[wr.heap.size]? = some (.cells #[.int .i64 xv, .int .i64 xa, .bool true] 95 (0, 0))) ∧ Aside0 (W.heap[w.heap.size]? = some (.cells #[.int .i64 0, .slice none 0 0] 26 (0, 0))) ∧ Aside0 (W.heap[w3.heap.size]? = some (.cells #[.int .i64 n, .slice As ws0.length cs] 26 (0, 0))) ∧
                Aside0 (Kd.R k95 95 W w.heap.size (fun k_ => w.heap.size + 1 ≤ k_ ∧ k_ < w1.heap.size) (.slice (some ⟨gl, 0, none⟩) (x0 :: l).length cl) (x0 :: l)) ∧ Aside0 (Kd.R (Kd.int .u64) 82 W w.heap.size (fun k_ => w1.heap.size ≤ k_ ∧ k_ < w3.heap.size) (.slice As ws0.length cs) ws') ∧ Aside0 (Below w.heap.size w W)) := ⟨_, rfl⟩
                  refine wpIn_loop Inw (fun a _ => (xv + 1 - intOf (a.tmps.getD 13 undef)).toNat) ?start ?round
                  case start =>
                    rw [hInw]
                    exact ⟨ah, ws, _, _, _, _, _, _, _, _, _, _, _, _, _, _, _, _, _, _, _, _, _, _, _, _, _, _, _, _, _, _, _, _, _, _, _, _, _, _, _, rfl, ⟨hwl, hf⟩, HF0, KN, KD, KS, HL, HW, HB⟩
                  case round =>
                    intro a wx hI
                    rw [hInw] at hI
                    have HInw := Aside0.mk hInw
                    clear hInw KN KD KS HL HW HB HF0
                    obtain ⟨e, ws', i11, i12, i44, i45, i46, i47, i48, i49, i50, i51, i52, i53, i54, i55, i56, i57, i61, i62, i63, i64, i65, i69, i70, i71, i72, i73, i74, i75, i76, i77, i78, i79, i80, i81, i82, i83, i84, i85, i86, rfl, he, HF, KN, KD, KS, HL, HW, HB⟩ := hI
                    have y0 := (blk_cell KN.out 0).trans rfl; have y1 := (blk_cell KN.out 1).trans rfl; have y2 := (blk_cell KN.out 2).trans rfl
                    have z0 := (blk_cell KS.out 0).trans rfl; have z1 := (blk_cell KS.out 1).trans rfl
                    by_cases hle : e ≤ xv
                    · have hd2 : decide (e ≤ xv) = true := decide_eq_true hle
                      have hF := HF.out
                      rw [show (xv + 1 - e).toNat = (xv + 1 - (e + 1)).toNat + 1 from by omega, pfill, if_pos hle] at hF
                      obtain ⟨wp, hp, hF2⟩ := Option.bind_eq_some_iff.1 hF
                      have HP := Aside0.mk hp
                      have HF2 := Aside0.mk hF2
                      have hpl := put_len hp
                      clear hF hF2 hp HF
                      have HWE := Aside0.mk (show wrap64 (e + 1) = e + 1 from by have h := he.out; unfold wrap64; omega)
                      gi_wp2_with fail
                      refine ⟨trivial, ?_⟩; gi_at_call 58
                      refine (callsIn_wide.2 (bitset_put.calls (n : Int) (fun k_ => w1.heap.size ≤ k_ ∧ k_ < w3.heap.size) _ ws' e wp w wx HB.out HW.out HP.out)).mono ?_
                      rintro e' w5 ⟨rfl, hR, hb, hk⟩
                      have mKD := Aside0.mk (blk_kept KD.out hk (fun h => absurd (show w1.heap.size ≤ w.heap.size from h.1) (by have := HS3.out; omega)))
                      have mKS := Aside0.mk (blk_kept KS.out hk (fun h => Nat.lt_irrefl _ h.2))
                      have mKN := Aside0.mk (blk_kept KN.out hk (fun h => absurd (show wr.heap.size < w3.heap.size from h.2) (by have := HUr.out; omega)))
                      have mHL := Aside0.mk (Kd.R_kept HL.out hk (fun k_ hk_ e => absurd hk_.2 (by have : w1.heap.size ≤ k_ := e.1; omega)))
                      have mHW := Aside0.mk (Kd.R_reok (ok := fun k_ => w1.heap.size ≤ k_ ∧ k_ < w3.heap.size) rfl hR (fun k_ hk_ => HW.out.1 k_ hk_))
                      have mHB := Aside0.mk hb
                      clear KD KS KN HL HW HB hR hb hk y0 y1 y2 z0 z1
                      gi_wp2_with fail
                      rw [HWE.out, HInw.out]
                      refine ⟨⟨e + 1, wp, _, _, _, _, _, _, _, _, _, _, _, _, _, _, _, _, _, _, _, _, _, _, _, _, _, _, _, _, _, _, _, _, _, _, _, _, _, _, _, rfl, ⟨by rw [hpl]; exact he.out.1, by have := he.out; omega⟩, HF2, mKN, mKD, mKS, mHL, mHW, mHB⟩, ?_⟩
                      show (xv + 1 - intOf (.int .i64 (e + 1))).toNat < (xv + 1 - intOf (.int .i64 e)).toNat
                      simp only [intOf]
                      omega
                    · have hd2 : decide (e ≤ xv) = false := decide_eq_false hle
                      have hF := HF.out
                      rw [show (xv + 1 - e).toNat = 0 from by omega, pfill, if_neg hle] at hF
                      injection hF with hF
                      subst hF
                      clear HF
                      gi_wp2_with fail
                      rw [show ((i : Int) + 1) = ((i + 1 : Nat) : Int) from by omega]
                      rw [HInv.out]
                      refine ⟨⟨i + 1, xv, ws', _, _, _, _, _, _, _, _, _, _, _, _, _, _, _, _, _, _, _, _, _, _, _, _, _, _, _, _, _, _, _, _, _, _, _, _, _, _, _, _, _, _, rfl, ⟨hlt⟩, ⟨he.out.1, by omega, by omega⟩, HA2, KD, KS, HL, HW, HB⟩, ?_⟩
                      show l.length - (intOf (.int .i64 ((i + 1 : Nat) : Int))).toNat < l.length - (intOf (.int .i64 (i : Int))).toNat
                      simp only [intOf, Int.toNat_natCast]
                      omega
                · first
                    | exact absurd hv0 hf
                    | (rw [if_neg hf] at hA; cases hA)
            · obtain rfl : r = false := by
                have h := hr
                unfold bitset_within.f at h
                rw [if_pos (by omega)] at h
                injection h with h
                rw [← h]
                exact decide_eq_false hv1
              have hlt1 : True := trivial
              gi_wp2_with fail
              clear y0 y1 y2
              have hmx : Try.prog.follows .mixedOrders = true := by kernel_rfl
              have KD4 := Aside0.mk (blk_drew KD.out)
              have HB4 := Aside0.mk (below_drew1 HB.out)
              have KN4 := Aside0.mk (blk_drew KN.out)
              have hDN : w.heap.size ≠ wr.heap.size := by have := HUr.out; have := HS3.out; have := HS5.out; omega
              refine wpIn_wide.2 ?_
              refine start_ (n := 6) (S := fun w' => w'.cell? ⟨wr.heap.size, 1, none⟩ = some (.int .i64 xa)) (ds := []) #[false, false, false, false, false, false] hmx (by kernel_rfl) rfl ((blk_cell (blk_drew KN.out) 1).trans rfl) (fun hHeld => ?_)
              generalize World.drew w4 = W4 at KD4 HB4 KN4 hHeld ⊢
              refine pure_ (i := 0) (N := some 58) (v := ?_) (a' := ?_) #[true, false, false, false, false, false] rfl rfl (by kernel_rfl) (fun _ _ _ h => h) (Or.inl ⟨by rfl, ?_⟩) ?_ ?_
              rotate_left
              · intro w'
                go_simp
                with_reducible rfl
              rotate_left
              · simp only [Act.put, List.setIfInBounds_toArray, List.set_cons_zero, List.set_cons_succ, i64_w, i32_w]
                rfl
              refine pure_ (i := 1) (N := some 59) (v := ?_) (a' := ?_) #[true, true, false, false, false, false] rfl rfl (by kernel_rfl) (fun _ _ _ h => h) (Or.inl ⟨by rfl, ?_⟩) ?_ ?_
              rotate_left
              · intro w'
                go_simp
                with_reducible rfl
              rotate_left
              · simp only [Act.put, List.setIfInBounds_toArray, List.set_cons_zero, List.set_cons_succ, i64_w, i32_w]
                rfl
              refine take_ (i := 2) (N := some 60) (v := ?_) (a' := ?_) #[true, true, true, false, false, false] rfl rfl (by kernel_rfl) (fun _ _ _ h => h) (Or.inl ⟨by rfl, ?_⟩) hHeld ?_ ?_
              rotate_left
              · intro w' s0
                go_simp
                with_reducible rfl
              rotate_left
              · simp only [Act.put, List.setIfInBounds_toArray, List.set_cons_zero, List.set_cons_succ, i64_w, i32_w]
                rfl
              refine one_ (i := 3) (N := none) #[true, true, true, true, false, false] rfl rfl (by kernel_rfl) (by decide) (fun K hK => ?_)
              have t0 := (blk_cell KD4.out 0).trans rfl
              have t1 := (blk_cell KD4.out 1).trans rfl
              have f0 := blk_frozen KD4.out 0
              have f1 := blk_frozen KD4.out 1
              refine skip_ (w1 := ?_) (by rfl) rfl ?_ ?_
              rotate_left
              · go_simp
                rfl
              obtain ⟨X, hX⟩ : ∃ X, (W4.setCell ⟨w.heap.size, 0, none⟩ (.int .i64 0)).setCell ⟨w.heap.size, 1, none⟩ (.slice none 0 0) = X := ⟨_, rfl⟩
              rw [hX]
              refine hK.out _ _ ((blk_cell (hX ▸ blk_far (blk_far KN4.out (fun e => hDN e.symm) _) (fun e => hDN e.symm) _) 1).trans rfl) (fun hHeld => ?_)
              clear hK K t0 t1 f0 f1
              refine pure_ (i := 4) (N := some 3) (v := ?_) (a' := ?_) #[true, true, true, true, true, false] rfl rfl (by kernel_rfl) (fun _ _ _ h => h) (Or.inl ⟨by rfl, ?_⟩) ?_ ?_
              rotate_left
              · intro w'
                go_simp
                with_reducible rfl
              rotate_left
              · simp only [Act.put, List.setIfInBounds_toArray, List.set_cons_zero, List.set_cons_succ, i64_w, i32_w]
                rfl
              refine pure_ (i := 5) (N := some 4) (v := ?_) (a' := ?_) #[true, true, true, true, true, true] rfl rfl (by kernel_rfl) (fun _ _ _ h => h) (Or.inl ⟨by rfl, ?_⟩) ?_ ?_
              rotate_left
              · intro w'
                go_simp
                with_reducible rfl
              rotate_left
              · simp only [Act.put, List.setIfInBounds_toArray, List.set_cons_zero, List.set_cons_succ, i64_w, i32_w]
                rfl
              refine done_ (by kernel_rfl) ?_
              have hXg : X.heap[w.heap.size]? = some (.cells #[.int .i64 0, .slice none 0 0] 26 (0, 0)) := hX ▸ blk_put (blk_put KD4.out 0 (Value.int IntKind.i64 0) rfl) 1 (Value.slice none 0 0) rfl
              have hXB : Below w.heap.size w X := hX ▸ below_set (below_set HB4.out (Nat.le_refl _)) (Nat.le_refl _)
              clear hX
              gi_wp2_with fail
              have c0 := (blk_cell hXg 0).trans rfl
              have c1 := (blk_cell hXg 1).trans rfl
              have hA := HA.out
              rw [pgo_far (Or.inr (show ¬ xv < (n : Int) from by omega))] at hA
              simp only [Option.some.injEq, Prod.mk.injEq] at hA
              obtain ⟨rfl, rfl, rfl, rfl⟩ := hA
              refine bodyPost_ret (v := .tuple #[.agg #[.int .i64 0, .slice none 0 0], .int .i64 xa, .int .i64 62]) ?_ rfl ⟨_, rfl, Kd.R_nil _ _ _ _ _, hXB⟩
              simp [results, Try.f35, go_sem, c0, c1]
          · obtain rfl : r = false := by
              have h := hr
              unfold bitset_within.f at h
              rw [if_neg (by omega)] at h
              injection h with h
              exact h.symm
            have hlt1 : True := trivial
            have hv1 : True := trivial
            gi_wp2_with fail
            clear y0 y1 y2
            have hmx : Try.prog.follows .mixedOrders = true := by kernel_rfl
            have KD4 := Aside0.mk (blk_drew KD.out)
            have HB4 := Aside0.mk (below_drew1 HB.out)
            have KN4 := Aside0.mk (blk_drew KN.out)
            have hDN : w.heap.size ≠ wr.heap.size := by have := HUr.out; have := HS3.out; have := HS5.out; omega
            refine wpIn_wide.2 ?_
            refine start_ (n := 6) (S := fun w' => w'.cell? ⟨wr.heap.size, 1, none⟩ = some (.int .i64 xa)) (ds := []) #[false, false, false, false, false, false] hmx (by kernel_rfl) rfl ((blk_cell (blk_drew KN.out) 1).trans rfl) (fun hHeld => ?_)
            generalize World.drew w4 = W4 at KD4 HB4 KN4 hHeld ⊢
            refine pure_ (i := 0) (N := some 58) (v := ?_) (a' := ?_) #[true, false, false, false, false, false] rfl rfl (by kernel_rfl) (fun _ _ _ h => h) (Or.inl ⟨by rfl, ?_⟩) ?_ ?_
            rotate_left
            · intro w'
              go_simp
              with_reducible rfl
            rotate_left
            · simp only [Act.put, List.setIfInBounds_toArray, List.set_cons_zero, List.set_cons_succ, i64_w, i32_w]
              rfl
            refine pure_ (i := 1) (N := some 59) (v := ?_) (a' := ?_) #[true, true, false, false, false, false] rfl rfl (by kernel_rfl) (fun _ _ _ h => h) (Or.inl ⟨by rfl, ?_⟩) ?_ ?_
            rotate_left
            · intro w'
              go_simp
              with_reducible rfl
            rotate_left
            · simp only [Act.put, List.setIfInBounds_toArray, List.set_cons_zero, List.set_cons_succ, i64_w, i32_w]
              rfl
            refine take_ (i := 2) (N := some 60) (v := ?_) (a' := ?_) #[true, true, true, false, false, false] rfl rfl (by kernel_rfl) (fun _ _ _ h => h) (Or.inl ⟨by rfl, ?_⟩) hHeld ?_ ?_
            rotate_left
            · intro w' s0
              go_simp
              with_reducible rfl
            rotate_left
            · simp only [Act.put, List.setIfInBounds_toArray, List.set_cons_zero, List.set_cons_succ, i64_w, i32_w]
              rfl
            refine one_ (i := 3) (N := none) #[true, true, true, true, false, false] rfl rfl (by kernel_rfl) (by decide) (fun K hK => ?_)
            have t0 := (blk_cell KD4.out 0).trans rfl
            have t1 := (blk_cell KD4.out 1).trans rfl
            have f0 := blk_frozen KD4.out 0
            have f1 := blk_frozen KD4.out 1
            refine skip_ (w1 := ?_) (by rfl) rfl ?_ ?_
            rotate_left
            · go_simp
              rfl
            obtain ⟨X, hX⟩ : ∃ X, (W4.setCell ⟨w.heap.size, 0, none⟩ (.int .i64 0)).setCell ⟨w.heap.size, 1, none⟩ (.slice none 0 0) = X := ⟨_, rfl⟩
            rw [hX]
            refine hK.out _ _ ((blk_cell (hX ▸ blk_far (blk_far KN4.out (fun e => hDN e.symm) _) (fun e => hDN e.symm) _) 1).trans rfl) (fun hHeld => ?_)
            clear hK K t0 t1 f0 f1
            refine pure_ (i := 4) (N := some 3) (v := ?_) (a' := ?_) #[true, true, true, true, true, false] rfl rfl (by kernel_rfl) (fun _ _ _ h => h) (Or.inl ⟨by rfl, ?_⟩) ?_ ?_
            rotate_left
            · intro w'
              go_simp
              with_reducible rfl
            rotate_left
            · simp only [Act.put, List.setIfInBounds_toArray, List.set_cons_zero, List.set_cons_succ, i64_w, i32_w]
              rfl
            refine pure_ (i := 5) (N := some 4) (v := ?_) (a' := ?_) #[true, true, true, true, true, true] rfl rfl (by kernel_rfl) (fun _ _ _ h => h) (Or.inl ⟨by rfl, ?_⟩) ?_ ?_
            rotate_left
            · intro w'
              go_simp
              with_reducible rfl
            rotate_left
            · simp only [Act.put, List.setIfInBounds_toArray, List.set_cons_zero, List.set_cons_succ, i64_w, i32_w]
              rfl
            refine done_ (by kernel_rfl) ?_
            have hXg : X.heap[w.heap.size]? = some (.cells #[.int .i64 0, .slice none 0 0] 26 (0, 0)) := hX ▸ blk_put (blk_put KD4.out 0 (Value.int IntKind.i64 0) rfl) 1 (Value.slice none 0 0) rfl
            have hXB : Below w.heap.size w X := hX ▸ below_set (below_set HB4.out (Nat.le_refl _)) (Nat.le_refl _)
            clear hX
            gi_wp2_with fail
            have c0 := (blk_cell hXg 0).trans rfl
            have c1 := (blk_cell hXg 1).trans rfl
            have hA := HA.out
            rw [pgo_far (Or.inl (show ¬ 0 ≤ xv from by omega))] at hA
            simp only [Option.some.injEq, Prod.mk.injEq] at hA
            obtain ⟨rfl, rfl, rfl, rfl⟩ := hA
            refine bodyPost_ret (v := .tuple #[.agg #[.int .i64 0, .slice none 0 0], .int .i64 xa, .int .i64 62]) ?_ rfl ⟨_, rfl, Kd.R_nil _ _ _ _ _, hXB⟩
            simp [results, Try.f35, go_sem, c0, c1]
      · have hie : i = l.length := by have := hi.out; omega
        subst hie
        have hd : decide (l.length < l.length) = false := by simp
        have hA := HA.out
        rw [List.drop_length] at hA
        simp only [pgo, Option.some.injEq, Prod.mk.injEq] at hA
        clear HA
        have HA0 := Aside0.mk hA
        clear hA
        have q0 := (blk_cell KS.out 0).trans rfl
        have q1 := (blk_cell KS.out 1).trans rfl
        have q2 := (blk_cell KD.out 0).trans rfl
        have q3 := (blk_cell KD.out 1).trans rfl
        have z0 := blk_frozen KD.out 0
        have z1 := blk_frozen KD.out 1
        gi_wp2_with fail
        obtain ⟨X, hX⟩ : ∃ X, (wr.setCell ⟨w.heap.size, 0, none⟩ (Value.int IntKind.i64 n)).setCell ⟨w.heap.size, 1, none⟩ (Value.slice As ws0.length cs) = X := ⟨_, rfl⟩
        have hKX : Kept wr X (fun k_ => k_ = w.heap.size) := by
          refine ⟨by rw [← hX, World.size_setCell, World.size_setCell]; exact Nat.le_refl _, fun k_ hk_ hn_ => ?_⟩
          rw [← hX, Below.heap_setCell _ _ _ _ hn_, Below.heap_setCell _ _ _ _ hn_]
        have hXg : X.heap[w.heap.size]? = some (.cells #[.int .i64 n, .slice As ws0.length cs] 26 (0, 0)) := hX ▸ blk_put (blk_put KD.out 0 (Value.int IntKind.i64 n) rfl) 1 (Value.slice As ws0.length cs) rfl
        have hXB : Below w.heap.size w X := hX ▸ below_set (below_set HB.out (Nat.le_refl _)) (Nat.le_refl _)
        have hXS := Kd.R_kept HW.out hKX (fun k_ hk_ e => absurd hk_.1 (by have := HS3.out; have : k_ = w.heap.size := e; omega))
        subst hX
        have c0 := (blk_cell hXg 0).trans rfl
        have c1 := (blk_cell hXg 1).trans rfl
        obtain ⟨rfl, rfl, rfl, rfl⟩ := HA0.out
        refine bodyPost_ret (v := .tuple #[.agg #[.int .i64 n, .slice As ws0.length cs], .int .i64 0, .int .i64 0]) ?_ rfl ⟨_, rfl, Kd.R_mono hXS (fun _ _ => trivial), hXB⟩
        simp [results, Try.f35, go_sem, c0, c1]
end Go.Proofs.Ytjmkhdhffmlhiaa.PAll
end
section
namespace Go.Proofs.Ytjmkhdhffmlhiaa.PAll
set_option linter.unusedVariables false
set_option linter.unusedSimpArgs false
open Go.RowKit Go.Proofs.YtjmkhdhffmlhiaaW.PrintWords Go.Proofs.YtjmkhdhffmlhiaaW.PrintLast Go.Proofs.YtjmkhdhffmlhiaaW.PrintMore
attribute [local go_sem] Oper.semAt_some
set_option maxHeartbeats 8000000 in
set_option maxRecDepth 100000 in
theorem Parse_long (a0 : ByteArray) (w : World) (hsz : (65536 : Int) < (a0.size : Int)) :
    Calls Try.prog 35 #[.string a0] w fun e w' => ∃ v : Value, e = .returned (.tuple #[.agg #[.int .i64 0, v], .int .i64 65536, .int .i64 4]) ∧ Kd.R (Kd.int .u64) 82 w' w.heap.size (fun _ => True) v [] ∧ Below w.heap.size w w' := by
  have hu24 := Try.underlying26
  have hu95 := Try.underlying95
  obtain ⟨o2, ho2⟩ : ∃ o2 : Obj, o2 = .cells #[.int .i64 0, .slice none 0 0] 26 (0, 0) := ⟨_, rfl⟩
  have K1 : (w.alloc o2).heap[w.heap.size]? = some o2 := blk_new w o2
  have HB0 : Below w.heap.size w (w.alloc o2) := below_alloc (Below.refl _ _) _
  rw [ho2] at K1 HB0
  clear ho2 o2
  have KD := Aside0.mk K1
  have HB := Aside0.mk HB0
  clear K1 HB0
  refine (callsIn_wide (n := 6)).1 ?_
  refine callsIn_of_wp Try.func35 rfl trivial ?_ rfl
  simp only [Try.ntmps35, List.size_toArray, List.length_cons, List.length_nil, Nat.reduceAdd, Nat.reduceSub, Array.replicate_succ, Array.replicate_zero, List.push_toArray, List.append_toArray, List.nil_append, List.cons_append]
  have hgd : decide ((65536 : Int) < (a0.size : Int)) = true := decide_eq_true hsz
  have q2 := (blk_cell KD.out 0).trans rfl
  have q3 := (blk_cell KD.out 1).trans rfl
  have z0 := blk_frozen KD.out 0
  have z1 := blk_frozen KD.out 1
  gi_wp2_with fail
  refine bodyPost_ret (v := .tuple #[.agg #[.int .i64 0, .slice none 0 0], .int .i64 65536, .int .i64 4]) ?_ rfl ⟨_, rfl, Kd.R_nil _ _ _ _ _, HB.out⟩
  simp [results, Try.f35, go_sem, q2, q3]
set_option maxHeartbeats 8000000 in
set_option maxRecDepth 100000 in
theorem Parse_digit (a0 : ByteArray) (w : World) (kn : Nat) (l : List S95) (q : Int) (hsz : (a0.size : Int) ≤ 65536) (hl : bitset_numbers.f kn a0 = some (l, q)) (hq : 0 ≤ q) :
    Calls Try.prog 35 #[.string a0] w fun e w' => ∃ v : Value, e = .returned (.tuple #[.agg #[.int .i64 0, v], .int .i64 q, .int .i64 5]) ∧ Kd.R (Kd.int .u64) 82 w' w.heap.size (fun _ => True) v [] ∧ Below w.heap.size w w' := by
  have hu24 := Try.underlying26
  have hu95 := Try.underlying95
  have HL0 := Aside0.mk hl
  clear hl
  obtain ⟨o2, ho2⟩ : ∃ o2 : Obj, o2 = .cells #[.int .i64 0, .slice none 0 0] 26 (0, 0) := ⟨_, rfl⟩
  have K1 : (w.alloc o2).heap[w.heap.size]? = some o2 := blk_new w o2
  have HB0 : Below w.heap.size w (w.alloc o2) := below_alloc (Below.refl _ _) _
  rw [ho2] at K1 HB0
  clear ho2 o2
  have KD := Aside0.mk K1
  have HB := Aside0.mk HB0
  clear K1 HB0
  refine (callsIn_wide (n := 6)).1 ?_
  refine callsIn_of_wp Try.func35 rfl trivial ?_ rfl
  simp only [Try.ntmps35, List.size_toArray, List.length_cons, List.length_nil, Nat.reduceAdd, Nat.reduceSub, Array.replicate_succ, Array.replicate_zero, List.push_toArray, List.append_toArray, List.nil_append, List.cons_append]
  have hgt : ¬ ((65536 : Int) < (a0.size : Int)) := by omega
  have hgd : decide ((65536 : Int) < (a0.size : Int)) = false := decide_eq_false hgt
  gi_wp2_with fail
  refine ⟨trivial, ?_⟩; gi_at_call 72
  refine (callsIn_wide.2 (bitset_numbers.calls kn a0 l q _ HL0.out)).mono ?_
  rintro e w1 ⟨vl, rfl, ho, hb⟩
  obtain ⟨Al, cl, et⟩ := Kd.R_slice ho
  subst et
  have mKD := Aside0.mk (blk_below KD.out hb); have mHB := Aside0.mk (below_step HB.out hb)
  clear KD HB hb
  have KD := mKD; have HB := mHB
  clear mKD mHB
  have hqd : decide (0 ≤ q) = true := decide_eq_true hq
  have q2 := (blk_cell KD.out 0).trans rfl
  have q3 := (blk_cell KD.out 1).trans rfl
  have z0 := blk_frozen KD.out 0
  have z1 := blk_frozen KD.out 1
  gi_wp2_with fail
  obtain ⟨X, hX⟩ : ∃ X, (w1.setCell ⟨w.heap.size, 0, none⟩ (.int .i64 0)).setCell ⟨w.heap.size, 1, none⟩ (.slice none 0 0) = X := ⟨_, rfl⟩
  have hXg : X.heap[w.heap.size]? = some (.cells #[.int .i64 0, .slice none 0 0] 26 (0, 0)) := hX ▸ blk_put (blk_put KD.out 0 (Value.int IntKind.i64 0) rfl) 1 (Value.slice none 0 0) rfl
  have hXB : Below w.heap.size w X := hX ▸ below_set (below_set HB.out (Nat.le_refl _)) (Nat.le_refl _)
  subst hX
  have c0 := (blk_cell hXg 0).trans rfl
  have c1 := (blk_cell hXg 1).trans rfl
  refine bodyPost_ret (v := .tuple #[.agg #[.int .i64 0, .slice none 0 0], .int .i64 q, .int .i64 5]) ?_ rfl ⟨_, rfl, Kd.R_nil _ _ _ _ _, hXB⟩
  simp [results, Try.f35, go_sem, c0, c1]
set_option maxHeartbeats 8000000 in
set_option maxRecDepth 100000 in
theorem Parse_wide (a0 : ByteArray) (w : World) (kn : Nat) (x0 : S95) (l : List S95) (hsz : (a0.size : Int) ≤ 65536) (hl : bitset_numbers.f kn a0 = some (x0 :: l, -1)) (hS : bitset_sized.f x0.f0 = some false) :
    Calls Try.prog 35 #[.string a0] w fun e w' => ∃ v : Value, e = .returned (.tuple #[.agg #[.int .i64 0, v], .int .i64 0, .int .i64 60]) ∧ Kd.R (Kd.int .u64) 82 w' w.heap.size (fun _ => True) v [] ∧ Below w.heap.size w w' := by
  have hu24 := Try.underlying26
  have hu95 := Try.underlying95
  have HL0 := Aside0.mk hl
  have HS0 := Aside0.mk hS
  clear hl hS
  obtain ⟨o2, ho2⟩ : ∃ o2 : Obj, o2 = .cells #[.int .i64 0, .slice none 0 0] 26 (0, 0) := ⟨_, rfl⟩
  have K1 : (w.alloc o2).heap[w.heap.size]? = some o2 := blk_new w o2
  have HB0 : Below w.heap.size w (w.alloc o2) := below_alloc (Below.refl _ _) _
  rw [ho2] at K1 HB0
  clear ho2 o2
  have KD := Aside0.mk K1
  have HB := Aside0.mk HB0
  clear K1 HB0
  refine (callsIn_wide (n := 6)).1 ?_
  refine callsIn_of_wp Try.func35 rfl trivial ?_ rfl
  simp only [Try.ntmps35, List.size_toArray, List.length_cons, List.length_nil, Nat.reduceAdd, Nat.reduceSub, Array.replicate_succ, Array.replicate_zero, List.push_toArray, List.append_toArray, List.nil_append, List.cons_append]
  have hgt : ¬ ((65536 : Int) < (a0.size : Int)) := by omega
  have hgd : decide ((65536 : Int) < (a0.size : Int)) = false := decide_eq_false hgt
  gi_wp2_with fail
  refine ⟨trivial, ?_⟩; gi_at_call 72
  refine (callsIn_wide.2 (bitset_numbers.calls kn a0 (x0 :: l) (-1) _ HL0.out)).mono ?_
  rintro e w1 ⟨vl, rfl, ho, hb⟩
  obtain ⟨Al, cl, et⟩ := Kd.R_slice ho
  subst et
  obtain ⟨Al', cl', ev, hcl, hCl⟩ := Kd.R_reads ho
  injection ev with e1 e2 e3
  subst e1 e3
  clear e2
  obtain ⟨ad, eA, q0, q1, q2⟩ := at_T95 hCl 0 (by omega) (by simp only [List.length_cons]; omega)
  subst eA
  obtain ⟨gl, rfl⟩ := Kd.R_head ho
  have hrd : rd_T95 (x0 :: l) 0 = x0 := rfl
  rw [hrd] at q0
  replace q0 := (show w1.cell? ⟨gl, 0, none⟩ = some (.int .i64 x0.f0) from q0)
  clear q1 q2 hCl ho
  have mKD := Aside0.mk (blk_below KD.out hb); have mHB := Aside0.mk (below_step HB.out hb)
  clear KD HB hb
  have KD := mKD; have HB := mHB
  clear mKD mHB
  gi_wp2_with fail
  refine ⟨trivial, ?_⟩; gi_at_call 55
  refine (callsIn_wide.2 (bitset_sized.calls x0.f0 false _ HS0.out)).mono ?_
  rintro e w2 ⟨rfl, hd⟩
  have hb := hd.below
  clear q0 hd
  have mKD := Aside0.mk (blk_below KD.out hb); have mHB := Aside0.mk (below_step HB.out hb)
  clear KD HB hb
  have KD := mKD; have HB := mHB
  clear mKD mHB
  have q2 := (blk_cell KD.out 0).trans rfl
  have q3 := (blk_cell KD.out 1).trans rfl
  have z0 := blk_frozen KD.out 0
  have z1 := blk_frozen KD.out 1
  gi_wp2_with fail
  obtain ⟨X, hX⟩ : ∃ X, (w2.setCell ⟨w.heap.size, 0, none⟩ (.int .i64 0)).setCell ⟨w.heap.size, 1, none⟩ (.slice none 0 0) = X := ⟨_, rfl⟩
  have hXg : X.heap[w.heap.size]? = some (.cells #[.int .i64 0, .slice none 0 0] 26 (0, 0)) := hX ▸ blk_put (blk_put KD.out 0 (Value.int IntKind.i64 0) rfl) 1 (Value.slice none 0 0) rfl
  have hXB : Below w.heap.size w X := hX ▸ below_set (below_set HB.out (Nat.le_refl _)) (Nat.le_refl _)
  subst hX
  have c0 := (blk_cell hXg 0).trans rfl
  have c1 := (blk_cell hXg 1).trans rfl
  refine bodyPost_ret (v := .tuple #[.agg #[.int .i64 0, .slice none 0 0], .int .i64 0, .int .i64 60]) ?_ rfl ⟨_, rfl, Kd.R_nil _ _ _ _ _, hXB⟩
  simp [results, Try.f35, go_sem, c0, c1]
end Go.Proofs.Ytjmkhdhffmlhiaa.PAll
end
section
namespace Go.Proofs.Ytjmkhdhffmlhiaa.PAll
set_option linter.unusedVariables false
set_option linter.unusedSimpArgs false
open Go.RowKit Go.Proofs.YtjmkhdhffmlhiaaW.PrintWords Go.Proofs.YtjmkhdhffmlhiaaW.PrintLast Go.Proofs.YtjmkhdhffmlhiaaW.PrintMore
def isD (t : ByteArray) (i : Nat) : Prop := i < t.size ∧ 48 ≤ bt t (i : Int) ∧ bt t (i : Int) ≤ 57
instance (t : ByteArray) (i : Nat) : Decidable (isD t i) := by unfold isD; exact inferInstance
def dgo (t : ByteArray) (s : Nat) : Nat → Nat → Int → Int × Nat
  | 0, i, v => (v, i)
  | f + 1, i, v =>
    if isD t i then
      if i = s ∧ bt t (s : Int) = 48 then (mn (v * 10 + (bt t (i : Int) - 48)) 1048576, i + 1)
      else dgo t s f (i + 1) (mn (v * 10 + (bt t (i : Int) - 48)) 1048576)
    else (v, i)
theorem mn_le (a : Int) : mn a 1048576 ≤ 1048576 := by unfold mn; split <;> omega
theorem mn_nn {a : Int} (h : 0 ≤ a) : 0 ≤ mn a 1048576 := by unfold mn; split <;> omega
theorem digits_l0 (t : ByteArray) (hsz : t.size ≤ 65536) (s : Nat) : ∀ (f i : Nat) (v : Int), s ≤ i → i ≤ t.size → t.size - i < f → 0 ≤ v → v ≤ 1048576 → ∀ k, 2 * f ≤ k →
    bitset_digits.l0 k t (s : Int) (i : Int) v (s : Int) false = some ((dgo t s f i v).1, (s : Int), false, ((dgo t s f i v).2 : Int), decide (((dgo t s f i v).2 : Int) > (s : Int)))
  | 0, i, v, _, _, h, _, _, _, _ => absurd h (Nat.not_lt_zero _)
  | f + 1, i, v, h1, h2, h3, h4, h5, k, hk => by
    obtain ⟨k, rfl⟩ : ∃ k', k = k' + 2 := ⟨k - 2, by omega⟩
    have hw : wrap64 ((i : Int) + 1) = ((i + 1 : Nat) : Int) := by unfold wrap64; omega
    have hs : wrap64 ((s : Int) + 1) = ((s + 1 : Nat) : Int) := by unfold wrap64; omega
    unfold dgo
    rw [show k + 2 = (k + 1) + 1 from rfl, bitset_digits.l0]
    by_cases hd : isD t i
    · obtain ⟨d1, d2, d3⟩ := id hd
      have hv : wrap64 (wrap64 (v * 10) + ((bt t (i : Int) - 48) % 256)) = v * 10 + (bt t (i : Int) - 48) := by unfold wrap64; omega
      rw [if_pos hd, if_pos (by omega), if_pos (by omega), if_pos (by omega), decide_eq_true d3, bitset_digits.j1, if_pos rfl, if_pos (by omega), if_pos (by omega), hw, hs, hv]
      by_cases he : i = s
      · subst he
        rw [if_pos rfl, if_pos (by omega), if_pos (by omega)]
        by_cases h0 : bt t (i : Int) = 48
        · rw [if_pos h0, if_pos ⟨rfl, h0⟩]
        · rw [if_neg h0, if_neg (fun h => h0 h.2)]
          exact digits_l0 t hsz i f (i + 1) _ (by omega) (by omega) (by omega) (mn_nn (by omega)) (mn_le _) k (by omega)
      · rw [if_neg (by omega), if_neg (fun h => he h.1)]
        exact digits_l0 t hsz s f (i + 1) _ (by omega) (by omega) (by omega) (mn_nn (by omega)) (mn_le _) k (by omega)
    · rw [if_neg hd]
      have hj : bitset_digits.j1 (k + 1) t (s : Int) (i : Int) false v (s : Int) false = some (v, (s : Int), false, (i : Int), decide ((i : Int) > (s : Int))) := by
        rw [bitset_digits.j1]; simp
      by_cases hl : i < t.size
      · rw [if_pos (by omega), if_pos (by omega)]
        by_cases h8 : bt t (i : Int) ≥ 48
        · have h9 : ¬ bt t (i : Int) ≤ 57 := fun h => hd ⟨hl, h8, h⟩
          rw [if_pos h8, decide_eq_false h9, hj]
        · rw [if_neg h8, hj]
      · rw [if_neg (by omega), hj]
def dend (t : ByteArray) (s : Nat) : Nat := (dgo t s (t.size - s + 1) s 0).2
def dnum (t : ByteArray) (s : Nat) : Int := (dgo t s (t.size - s + 1) s 0).1
theorem digits_f (t : ByteArray) (hsz : t.size ≤ 65536) (s : Nat) (h : s ≤ t.size) (k : Nat) (hk : 2 * (t.size + 1) ≤ k) : bitset_digits.f k t (s : Int) = some (dnum t s, (s : Int), false, (dend t s : Int), decide ((dend t s : Int) > (s : Int))) := by
  unfold bitset_digits.f
  exact digits_l0 t hsz s _ s 0 (Nat.le_refl _) h (by omega) (by omega) (by omega) k (by omega)
theorem dgo_end (t : ByteArray) (s : Nat) : ∀ (f i : Nat) (v : Int), i ≤ t.size → i ≤ (dgo t s f i v).2 ∧ (dgo t s f i v).2 ≤ t.size
  | 0, i, v, h => ⟨Nat.le_refl _, h⟩
  | f + 1, i, v, h => by
    unfold dgo
    split
    · rename_i hd
      have := hd.1
      split
      · exact ⟨Nat.le_succ _, this⟩
      · have h2 := dgo_end t s f (i + 1) (mn (v * 10 + (bt t (i : Int) - 48)) 1048576) this
        exact ⟨by omega, h2.2⟩
    · exact ⟨Nat.le_refl _, h⟩
theorem dend_le {t : ByteArray} {s : Nat} (h : s ≤ t.size) : s ≤ dend t s ∧ dend t s ≤ t.size := dgo_end t s _ s 0 h
end Go.Proofs.Ytjmkhdhffmlhiaa.PAll
end
section
namespace Go.Proofs.Ytjmkhdhffmlhiaa.PAll
set_option linter.unusedVariables false
set_option linter.unusedSimpArgs false
open Go.RowKit Go.Proofs.YtjmkhdhffmlhiaaW.PrintWords Go.Proofs.YtjmkhdhffmlhiaaW.PrintLast Go.Proofs.YtjmkhdhffmlhiaaW.PrintMore
def lastAt (t : ByteArray) (l : List S95) (i : Nat) : Bool := decide (1 < l.length) && (bt t ((i : Int) - 1) == 45)
def ngo (t : ByteArray) : Nat → List S95 → Nat → List S95 × Int
  | 0, _, i => ([], (i : Int))
  | f + 1, l, i =>
    if i < t.size ∨ 1 < l.length then
      if i < dend t i then
        if dend t i = t.size then (l ++ [⟨dnum t i, (i : Int), lastAt t l i⟩], -1)
        else if bt t (dend t i : Int) = 44 ∨ (bt t (dend t i : Int) = 45 ∧ lastAt t l i = false) then ngo t f (l ++ [⟨dnum t i, (i : Int), lastAt t l i⟩]) (dend t i + 1)
        else ([], (dend t i : Int))
      else ([], (dend t i : Int))
    else (l, -1)
theorem numbers_l0 (t : ByteArray) (hsz : t.size ≤ 65536) : ∀ (f : Nat) (l : List S95) (i : Nat), 1 ≤ i → i ≤ t.size → t.size - i < f → l.length ≤ i → ∀ k, 3 * f + 2 * (t.size + 1) ≤ k →
    bitset_numbers.l0 k t l (i : Int) = some (ngo t f l i)
  | 0, l, i, _, _, h, _, _, _ => absurd h (Nat.not_lt_zero _)
  | f + 1, l, i, h1, h2, h3, h4, k, hk => by
    obtain ⟨k, rfl⟩ : ∃ k', k = k' + 3 := ⟨k - 3, by omega⟩
    have hle := dend_le h2
    have hw : wrap64 ((i : Int) - 1) = (i : Int) - 1 := by unfold wrap64; omega
    have hwe : wrap64 ((dend t i : Int) + 1) = ((dend t i + 1 : Nat) : Int) := by unfold wrap64; omega
    have j3 : ∀ b : Bool, b = lastAt t l i → (i < t.size ∨ 1 < l.length) → bitset_numbers.j3 (k + 1) t l (i : Int) b = some (ngo t (f + 1) l i) := by
      intro b hb hc
      rw [bitset_numbers.j3, digits_f t hsz i h2 k (by omega), Option.bind_some]
      simp only
      unfold ngo
      rw [if_pos hc]
      by_cases he : i < dend t i
      · rw [if_pos he, if_pos (by simpa using he), if_pos (by omega), Option.bind_some, ← hb]
        by_cases hz : dend t i = t.size
        · rw [if_pos (by omega), if_pos hz]
        · rw [if_neg (by omega), if_neg hz, if_pos (by omega), if_pos (by omega)]
          have ih := numbers_l0 t hsz f (l ++ [⟨dnum t i, (i : Int), b⟩]) (dend t i + 1) (by omega) (by omega) (by omega) (by simp only [List.length_append, List.length_cons, List.length_nil]; omega) k (by omega)
          by_cases h44 : bt t (dend t i : Int) = 44
          · rw [if_pos h44, if_pos (Or.inl h44), hwe, ih]
          · rw [if_neg h44]
            by_cases h45 : bt t (dend t i : Int) = 45
            · rw [if_pos h45]
              cases b with
              | true => rw [if_pos rfl, if_neg (by simp [h44])]
              | false => rw [if_neg (by decide), if_pos (Or.inr ⟨h45, rfl⟩), hwe, ih]
            · rw [if_neg h45, if_neg (by simp [h44, h45])]
      · rw [if_neg he, if_neg (by simpa using he)]
    rw [show k + 3 = (k + 2) + 1 from rfl, bitset_numbers.l0]
    by_cases hc : i < t.size ∨ 1 < l.length
    · have hj2 : bitset_numbers.j2 (k + 2) t l (i : Int) true = some (ngo t (f + 1) l i) := by
        rw [show k + 2 = (k + 1) + 1 from rfl, bitset_numbers.j2, if_pos rfl]
        by_cases hl : 1 < l.length
        · rw [if_pos (by omega), hw, if_pos (by omega), if_pos (by omega)]
          exact j3 _ (by unfold lastAt; rw [decide_eq_true hl, Bool.true_and]) hc
        · rw [if_neg (by omega)]
          exact j3 _ (by unfold lastAt; rw [decide_eq_false hl, Bool.false_and]) hc
      by_cases hi : i < t.size
      · rw [if_pos (by omega), hj2]
      · have hl : 1 < l.length := by omega
        rw [if_neg (by omega), decide_eq_true (show (l.length : Int) > 1 by omega), hj2]
    · have hi : ¬ i < t.size := fun h => hc (Or.inl h)
      have hl : ¬ 1 < l.length := fun h => hc (Or.inr h)
      rw [if_neg (by omega), decide_eq_false (show ¬ (l.length : Int) > 1 by omega), show k + 2 = (k + 1) + 1 from rfl, bitset_numbers.j2, if_neg (by decide)]
      unfold ngo
      rw [if_neg hc]
def nums (t : ByteArray) : List S95 × Int :=
  if 0 < dend t 0 ∧ dend t 0 < t.size ∧ bt t (dend t 0 : Int) = 58 then ngo t (t.size + 1) [⟨dnum t 0, 0, false⟩] (dend t 0 + 1) else ([], (dend t 0 : Int))
theorem numbers_f (t : ByteArray) (hsz : t.size ≤ 65536) (k : Nat) (hk : 3 * (t.size + 1) + 2 * (t.size + 1) + 1 ≤ k) : bitset_numbers.f k t = some (nums t) := by
  obtain ⟨k, rfl⟩ : ∃ k', k = k' + 1 := ⟨k - 1, by omega⟩
  have hle := dend_le (t := t) (s := 0) (Nat.zero_le _)
  have hwe : wrap64 ((dend t 0 : Int) + 1) = ((dend t 0 + 1 : Nat) : Int) := by unfold wrap64; omega
  have hd := digits_f t hsz 0 (Nat.zero_le _) (k + 1) (by omega)
  have hj : ∀ b : Bool, b = true → bitset_numbers.j0 (k + 1) t [] (dend t 0 : Int) b (dnum t 0) ((0 : Nat) : Int) false = some ([], (dend t 0 : Int)) := by
    intro b hb
    rw [bitset_numbers.j0, if_pos hb]
  unfold bitset_numbers.f
  rw [show (0 : Int) = ((0 : Nat) : Int) from rfl, hd, Option.bind_some]
  simp only
  unfold nums
  by_cases h0 : 0 < dend t 0
  · rw [if_pos (by simpa using h0)]
    by_cases hz : dend t 0 = t.size
    · rw [if_pos (by omega), hj _ rfl, if_neg (by omega)]
    · rw [if_neg (by omega), if_pos (by omega), if_pos (by omega)]
      by_cases h58 : bt t (dend t 0 : Int) = 58
      · rw [if_pos ⟨h0, by omega, h58⟩, bitset_numbers.j0, if_neg (by simp [h58]), if_pos (by simp), hwe]
        exact numbers_l0 t hsz _ _ _ (by omega) (by omega) (by omega) (by simp) k (by omega)
      · rw [hj _ (by simp [h58]), if_neg (fun h => h58 h.2.2)]
  · rw [if_neg (by simpa using h0), hj _ rfl, if_neg (fun h => h0 h.1)]
end Go.Proofs.Ytjmkhdhffmlhiaa.PAll
end
section
namespace Go.Proofs.Ytjmkhdhffmlhiaa.PAll
open Go.RowKit Go.Proofs.YtjmkhdhffmlhiaaW.PrintWords Go.Proofs.YtjmkhdhffmlhiaaW.PrintLast Go.Proofs.YtjmkhdhffmlhiaaW.PrintMore
attribute [local go_sem] max2_int min2_int max_two min_two max_three min_three max_four min_four w64_u8 w64_mod256   -- for this text's walks alone
set_option linter.unusedVariables false
set_option linter.unusedSimpArgs false
end Go.Proofs.Ytjmkhdhffmlhiaa.PAll
end
