/- What Make, Range and the document's answers to them come to: plain laws. -/
import Derived.Test.YtjmkhdhffmlhiaaPAllxPsets
import Derived.Test.YtjmkhdhffmlhiaaPAllxQbitsetXMake
import Derived.Test.YtjmkhdhffmlhiaaPAllxQsloperef3XMake
import Derived.Test.YtjmkhdhffmlhiaaPAllxQslopelaw3Xsame
namespace Go.Proofs.Ytjmkhdhffmlhiaa.PAll
open Go.RowKit Go.Proofs.YtjmkhdhffmlhiaaW.PrintWords Go.Proofs.YtjmkhdhffmlhiaaW.PrintMore

theorem Ev.const {α : Type} {g : Nat → Option α} {r : α} (h : ∀ k, g k = some r) : Ev g r := ⟨0, fun k _ => h k⟩
theorem sized_yes {n : Nat} (h : n ≤ 4096) : bitset_sized.f (n : Int) = some true := by
  unfold bitset_sized.f
  rw [if_pos (by omega), decide_eq_true (by omega)]
theorem sized_no {n : Int} (h : n < 0 ∨ 4096 < n) : bitset_sized.f n = some false := by
  unfold bitset_sized.f
  by_cases h0 : n ≥ 0
  · rw [if_pos h0, decide_eq_false (by omega)]
  · rw [if_neg h0]
theorem rsized_yes {n : Nat} (h : n ≤ 4096) : sloperef3_sized.f (n : Int) = some true := by
  unfold sloperef3_sized.f
  rw [if_pos (by omega), decide_eq_true (by omega)]
theorem rsized_no {n : Int} (h : n < 0 ∨ 4096 < n) : sloperef3_sized.f n = some false := by
  unfold sloperef3_sized.f
  by_cases h0 : n ≥ 0
  · rw [if_pos h0, decide_eq_false (by omega)]
  · rw [if_neg h0]
theorem words_eq {n : Nat} (h : n ≤ 4096) : bitset_words.f (n : Int) = some (((n + 63) / 64 : Nat) : Int) := by
  unfold bitset_words.f
  have h1 : wrap64 (wrap64 ((n : Int) + 64) - 1) = ((n + 63 : Nat) : Int) := by unfold wrap64; omega
  rw [h1, tdiv_nat]
  congr 1
  apply w64_nat <;> omega
theorem blank_eq {n : Nat} (h : n ≤ 4096) : bitset_blank.f (n : Int) = some ((n : Int), List.replicate ((n + 63) / 64) 0) := by
  unfold bitset_blank.f
  rw [words_eq h]
  simp only [Option.bind_some, Int.toNat_natCast]
  rw [if_pos (by omega), if_pos (by omega)]
theorem within_yes {n e : Nat} (ws : List Int) (h : e < n) : bitset_within.f (n : Int) ws (e : Int) = some true := by
  unfold bitset_within.f
  rw [if_pos (by omega), decide_eq_true (by omega)]
theorem within_no {n : Nat} (ws : List Int) {e : Int} (h : e < 0 ∨ (n : Int) ≤ e) : bitset_within.f (n : Int) ws e = some false := by
  unfold bitset_within.f
  by_cases h0 : e ≥ 0
  · rw [if_pos h0, decide_eq_false (by omega)]
  · rw [if_neg h0]
theorem put_eq {n : Int} {ws : List Int} {e : Nat} (he : e / 64 < ws.length) (hb : e < 1000000) : bitset_put.f n ws (e : Int) = some (putw ws e) := by
  unfold bitset_put.f
  rw [tdiv_nat, tmod_nat, w64_nat (by omega) (by omega), if_pos (by omega), if_pos (by omega), if_pos (by omega)]
  simp only [Int.toNat_natCast, putw, rd_nat]

theorem Make_loop (n : Nat) (hn : n ≤ 4096) (l : List Int) (hl : l.length ≤ 9223372036854775807) : ∀ (d i : Nat) (p : Nat → Bool) (ws : List Int), i + d = l.length → Is n p ws →
    (∃ ws', Is n (fun e => p e || decide ((e : Int) ∈ l.drop i)) ws' ∧ (∀ x ∈ l.drop i, 0 ≤ x ∧ x < n) ∧ Ev (fun k => bitset_Make.l0 k l (l.length : Int) (i : Int) (n : Int) ws) ((n : Int), ws', 0)) ∨
    ((∃ x ∈ l.drop i, x < 0 ∨ (n : Int) ≤ x) ∧ Ev (fun k => bitset_Make.l0 k l (l.length : Int) (i : Int) (n : Int) ws) (0, [], 62)) := by
  intro d
  induction d with
  | zero =>
    intro i p ws hi h
    refine .inl ⟨ws, ?_, ?_, ⟨1, fun k hk => ?_⟩⟩
    · rw [List.drop_eq_nil_of_le (by omega)]; simpa using h
    · rw [List.drop_eq_nil_of_le (by omega)]; intro x hx; cases hx
    · obtain ⟨k, rfl⟩ : ∃ m, k = m + 1 := ⟨k - 1, by omega⟩
      simp only [bitset_Make.l0]
      rw [if_neg (by omega)]
  | succ d ih =>
    intro i p ws hi h
    have hlt : i < l.length := by omega
    have hr : rd l (i : Int) = l[i] := by simp [rd, List.getD_eq_getElem?_getD, List.getElem?_eq_getElem hlt]
    rw [List.drop_eq_getElem_cons hlt]
    by_cases hx : 0 ≤ l[i] ∧ l[i] < n
    · obtain ⟨e, he⟩ := Int.eq_ofNat_of_zero_le hx.1
      have hen : e < n := by omega
      have hstep : ∀ k, bitset_Make.l0 (k + 1) l (l.length : Int) (i : Int) (n : Int) ws = bitset_Make.l0 k l (l.length : Int) ((i + 1 : Nat) : Int) (n : Int) (putw ws e) := by
        intro k
        conv => lhs; rw [bitset_Make.l0]
        rw [if_pos (by omega), if_pos (by omega), if_pos (by omega), hr, he, within_yes ws hen, Option.bind_some, if_pos rfl, put_eq (h.lt hen) (by omega), Option.bind_some]
        rw [show wrap64 ((i : Int) + 1) = ((i + 1 : Nat) : Int) by unfold wrap64; omega]
      rcases ih (i + 1) _ (putw ws e) (by omega) (h.put hen) with ⟨ws', h1, h2, h3⟩ | ⟨h2, h3⟩
      · refine .inl ⟨ws', h1.congr fun a _ => ?_, ?_, Ev.step hstep h3⟩
        · rw [he]
          by_cases ha : a = e
          · subst ha; simp
          · have : ¬ ((a : Int) = (e : Int)) := by omega
            simp [ha, this]
        · intro x hx'
          rcases List.mem_cons.1 hx' with rfl | h4
          · exact hx
          · exact h2 x h4
      · obtain ⟨x, h4, h5⟩ := h2
        exact .inr ⟨⟨x, List.mem_cons_of_mem _ h4, h5⟩, Ev.step hstep h3⟩
    · refine .inr ⟨⟨l[i], List.mem_cons_self, by omega⟩, ⟨1, fun k hk => ?_⟩⟩
      obtain ⟨k, rfl⟩ : ∃ m, k = m + 1 := ⟨k - 1, by omega⟩
      simp only [bitset_Make.l0]
      rw [if_pos (by omega), if_pos (by omega), if_pos (by omega), hr, within_no ws (by omega)]
      simp
/-- What Make answers. -/
def MakeSays (size : Int) (l : List Int) (r : Int × List Int × Int) : Prop :=
  ((size < 0 ∨ 4096 < size) ∧ r = (0, [], 60)) ∨ (0 ≤ size ∧ size ≤ 4096 ∧ (((∃ x ∈ l, x < 0 ∨ size ≤ x) ∧ r = (0, [], 62)) ∨
    ((∀ x ∈ l, 0 ≤ x ∧ x < size) ∧ ∃ ws, Is size.toNat (fun e => decide ((e : Int) ∈ l)) ws ∧ r = (size, ws, 0))))
theorem MakeSays.eq {size : Int} {l : List Int} {r q : Int × List Int × Int} (h : MakeSays size l r) (k : MakeSays size l q) : r = q := by
  rcases h with ⟨h1, rfl⟩ | ⟨h1, h2, ⟨⟨x, h3, h4⟩, rfl⟩ | ⟨h3, ws, h4, rfl⟩⟩ <;> rcases k with ⟨k1, rfl⟩ | ⟨k1, k2, ⟨⟨y, k3, k4⟩, rfl⟩ | ⟨k3, vs, k4, rfl⟩⟩
  · rfl
  · omega
  · omega
  · omega
  · rfl
  · have := k3 x h3; omega
  · omega
  · have := h3 y k3; omega
  · rw [h4.eq k4 (fun _ _ => rfl)]
theorem Make_eq (size : Int) (l : List Int) (hl : l.length ≤ 9223372036854775807) : ∃ r, MakeSays size l r ∧ Ev (fun k => bitset_Make.f k size l) r := by
  by_cases hs : 0 ≤ size ∧ size ≤ 4096
  · obtain ⟨n, rfl⟩ := Int.eq_ofNat_of_zero_le hs.1
    have hn : n ≤ 4096 := by omega
    have he : ∀ k, bitset_Make.f k (n : Int) l = bitset_Make.l0 k l (l.length : Int) ((0 : Nat) : Int) (n : Int) (List.replicate ((n + 63) / 64) 0) := by
      intro k
      unfold bitset_Make.f
      rw [sized_yes hn, blank_eq hn]
      simp
    rcases Make_loop n hn l hl l.length 0 _ _ (by omega) (Is.none n) with ⟨ws, h1, h2, h3⟩ | ⟨h2, h3⟩
    · rw [List.drop_zero] at h2
      exact ⟨_, .inr ⟨by omega, by omega, .inr ⟨h2, ws, by simpa using h1, rfl⟩⟩, Ev.congr he h3⟩
    · rw [List.drop_zero] at h2
      exact ⟨_, .inr ⟨by omega, by omega, .inl ⟨h2, rfl⟩⟩, Ev.congr he h3⟩
  · refine ⟨_, .inl ⟨by omega, rfl⟩, Ev.const fun k => ?_⟩
    unfold bitset_Make.f
    rw [sized_no (by omega), Option.bind_some, if_neg (by simp)]

theorem Of_loop (inb : List Bool) (n : Nat) (hn : inb.length = n) (hb : n ≤ 4096) : ∀ (d i : Nat) (p : Nat → Bool) (ws : List Int), i + d = n → Is n p ws → (∀ e, p e = (decide (e < i) && inb.getD e false)) →
    ∃ ws', Is n (fun e => inb.getD e false) ws' ∧ Ev (fun k => sloperef3_Of.l0 k inb (i : Int) (n : Int) ws) ((n : Int), ws') := by
  intro d
  induction d with
  | zero =>
    intro i p ws hi h hp
    refine ⟨ws, h.congr fun e he => ?_, ⟨1, fun k hk => ?_⟩⟩
    · rw [hp]; simp; intro _; omega
    · obtain ⟨k, rfl⟩ : ∃ m, k = m + 1 := ⟨k - 1, by omega⟩
      simp only [sloperef3_Of.l0]
      rw [if_neg (by omega)]
  | succ d ih =>
    intro i p ws hi h hp
    have hr : rdOf false inb (i : Int) = inb.getD i false := by simp [rdOf]
    by_cases hx : inb.getD i false = true
    · obtain ⟨ws', h1, h2⟩ := ih (i + 1) _ (putw ws i) (by omega) (h.put (e := i) (by omega)) (fun e => by
        rw [hp]
        by_cases he : e = i
        · subst he; simp at hx; simp [hx]
        · have : (e < i + 1) = (e < i) := by simp; omega
          simp [he, this])
      refine ⟨ws', h1, Ev.step (fun k => ?_) h2⟩
      conv => lhs; rw [sloperef3_Of.l0]
      have hu : IntKind.u64.wrap ((i % 64 : Nat) : Int) = ((i % 64 : Nat) : Int) := wraps_u64 _ (by unfold Wd; omega)
      have hlt := h.lt (e := i) (by omega)
      rw [if_pos (by omega), if_pos (by omega), hr, if_pos hx, tdiv_nat, tmod_nat, w64_nat (by omega) (by omega), hu, if_pos (by omega), if_pos (by omega), if_pos (by omega)]
      rw [show wrap64 ((i : Int) + 1) = ((i + 1 : Nat) : Int) by unfold wrap64; omega]
      simp only [Int.toNat_natCast, putw, rd_nat]
    · obtain ⟨ws', h1, h2⟩ := ih (i + 1) p ws (by omega) h (fun e => by
        rw [hp]
        by_cases he : e = i
        · subst he; simp at hx; simp [hx]
        · have : (e < i + 1) = (e < i) := by simp; omega
          simp [this])
      refine ⟨ws', h1, Ev.step (fun k => ?_) h2⟩
      conv => lhs; rw [sloperef3_Of.l0]
      rw [if_pos (by omega), if_pos (by omega), hr, if_neg hx]
      rw [show wrap64 ((i : Int) + 1) = ((i + 1 : Nat) : Int) by unfold wrap64; omega]
/-- Of: the set of these. -/
theorem Of_eq (inb : List Bool) (hb : inb.length ≤ 4096) : ∃ ws, Is inb.length (fun e => inb.getD e false) ws ∧ Ev (fun k => sloperef3_Of.f k inb) ((inb.length : Int), ws) := by
  obtain ⟨ws, h1, h2⟩ := Of_loop inb inb.length rfl hb inb.length 0 _ _ (by omega) (Is.none inb.length) (fun e => by simp)
  refine ⟨ws, h1, Ev.congr (fun k => ?_) h2⟩
  unfold sloperef3_Of.f
  have h3 : wrap64 ((inb.length : Int) + 63) = ((inb.length + 63 : Nat) : Int) := by unfold wrap64; omega
  rw [h3, tdiv_nat, w64_nat (by omega) (by omega), if_pos (by omega), Int.toNat_natCast, if_pos (by omega)]
  rfl

theorem rMake_loop (n : Nat) (hn : n ≤ 4096) (l : List Int) (hl : l.length ≤ 9223372036854775807) : ∀ (d i : Nat) (inb : List Bool), i + d = l.length → inb.length = n →
    (∃ r, (∀ x ∈ l.drop i, 0 ≤ x ∧ x < n) ∧ (∃ ws, Is n (fun e => inb.getD e false || decide ((e : Int) ∈ l.drop i)) ws ∧ r = ((n : Int), ws, 0)) ∧ Ev (fun k => sloperef3_Make.l0 k (n : Int) l inb (i : Int)) r) ∨
    ((∃ x ∈ l.drop i, x < 0 ∨ (n : Int) ≤ x) ∧ Ev (fun k => sloperef3_Make.l0 k (n : Int) l inb (i : Int)) (0, [], 62)) := by
  intro d
  induction d with
  | zero =>
    intro i inb hi h
    obtain ⟨ws, h1, h2⟩ := Of_eq inb (by omega)
    rw [h] at h1 h2
    refine .inl ⟨_, ?_, ⟨ws, ?_, rfl⟩, ?_⟩
    · rw [List.drop_eq_nil_of_le (by omega)]; intro x hx; cases hx
    · rw [List.drop_eq_nil_of_le (by omega)]; simpa using h1
    · refine Ev.step (f := fun k => (sloperef3_Of.f k inb).bind fun b => some (b.1, b.2, 0)) (fun k => ?_) (Ev.bind (f := fun _ b => some (b.1, b.2, 0)) h2 (Ev.now _))
      conv => lhs; rw [sloperef3_Make.l0]
      rw [if_neg (by omega)]
  | succ d ih =>
    intro i inb hi h
    have hlt : i < l.length := by omega
    have hr : rd l (i : Int) = l[i] := by simp [rd, List.getD_eq_getElem?_getD, List.getElem?_eq_getElem hlt]
    rw [List.drop_eq_getElem_cons hlt]
    by_cases hx : 0 ≤ l[i] ∧ l[i] < n
    · obtain ⟨e, he⟩ := Int.eq_ofNat_of_zero_le hx.1
      have hen : e < n := by omega
      have hstep : ∀ k, sloperef3_Make.l0 (k + 1) (n : Int) l inb (i : Int) = sloperef3_Make.l0 k (n : Int) l (inb.set e true) ((i + 1 : Nat) : Int) := by
        intro k
        conv => lhs; rw [sloperef3_Make.l0]
        rw [if_pos (by omega), if_pos (by omega), hr, if_neg (by omega), if_neg (by omega), if_pos (by omega), if_pos (by omega), he, Int.toNat_natCast]
        rw [show wrap64 ((i : Int) + 1) = ((i + 1 : Nat) : Int) by unfold wrap64; omega]
      rcases ih (i + 1) (inb.set e true) (by omega) (by simpa using h) with ⟨r, h2, ⟨ws', h1, rfl⟩, h3⟩ | ⟨h2, h3⟩
      · refine .inl ⟨_, ?_, ⟨ws', h1.congr fun a ha => ?_, rfl⟩, Ev.step hstep h3⟩
        · intro x hx'
          rcases List.mem_cons.1 hx' with rfl | h4
          · exact hx
          · exact h2 x h4
        · rw [he, List.getD_eq_getElem?_getD, List.getElem?_set, List.getD_eq_getElem?_getD]
          by_cases ha2 : a = e
          · subst ha2; simp [h, hen]
          · have h5 : ¬ ((a : Int) = (e : Int)) := by omega
            have h6 : ¬ e = a := fun h => ha2 h.symm
            simp [h5, h6]
      · obtain ⟨x, h4, h5⟩ := h2
        exact .inr ⟨⟨x, List.mem_cons_of_mem _ h4, h5⟩, Ev.step hstep h3⟩
    · refine .inr ⟨⟨l[i], List.mem_cons_self, by omega⟩, ⟨1, fun k hk => ?_⟩⟩
      obtain ⟨k, rfl⟩ : ∃ m, k = m + 1 := ⟨k - 1, by omega⟩
      simp only [sloperef3_Make.l0]
      rw [if_pos (by omega), if_pos (by omega), hr]
      by_cases h0 : l[i] < 0
      · rw [if_pos h0]; rfl
      · rw [if_neg h0, if_pos (by omega)]; rfl
theorem rMake_eq (size : Int) (l : List Int) (hl : l.length ≤ 9223372036854775807) : ∃ r, MakeSays size l r ∧ Ev (fun k => sloperef3_Make.f k size l) r := by
  by_cases hs : 0 ≤ size ∧ size ≤ 4096
  · obtain ⟨n, rfl⟩ := Int.eq_ofNat_of_zero_le hs.1
    have hn : n ≤ 4096 := by omega
    have he : ∀ k, sloperef3_Make.f k (n : Int) l = sloperef3_Make.l0 k (n : Int) l (List.replicate n false) ((0 : Nat) : Int) := by
      intro k
      unfold sloperef3_Make.f
      rw [rsized_yes hn, Option.bind_some, if_pos rfl, if_pos (by omega), Int.toNat_natCast, if_pos (by omega)]
      rfl
    rcases rMake_loop n hn l hl l.length 0 (List.replicate n false) (by omega) (by simp) with ⟨r, h2, ⟨ws, h1, rfl⟩, h3⟩ | ⟨h2, h3⟩
    · rw [List.drop_zero] at h2
      refine ⟨_, .inr ⟨by omega, by omega, .inr ⟨h2, ws, ?_, rfl⟩⟩, Ev.congr he h3⟩
      rw [Int.toNat_natCast]
      refine h1.congr fun e _ => ?_
      rw [List.drop_zero, List.getD_eq_getElem?_getD, List.getElem?_replicate]
      by_cases h0 : e < n <;> simp [h0]
    · rw [List.drop_zero] at h2
      exact ⟨_, .inr ⟨by omega, by omega, .inl ⟨h2, rfl⟩⟩, Ev.congr he h3⟩
  · refine ⟨_, .inl ⟨by omega, rfl⟩, Ev.const fun k => ?_⟩
    unfold sloperef3_Make.f
    rw [rsized_no (by omega), Option.bind_some, if_neg (by simp)]
    rfl

/-- The bits from f on, below t. -/
theorem span_tb {f t : Nat} (h1 : f < t) (h2 : t ≤ 64) (j : Nat) :
    tb (shl .u64 (shr .u64 18446744073709551615 (64 - ((t : Int) - (f : Int)))) (f : Int)) j = (decide (f ≤ j) && decide (j < t)) ∧ Wd (shl .u64 (shr .u64 18446744073709551615 (64 - ((t : Int) - (f : Int)))) (f : Int)) := by
  have hone : Wd 18446744073709551615 := by unfold Wd; omega
  have hs : (64 - ((t : Int) - (f : Int))) = ((64 - (t - f) : Nat) : Int) := by omega
  have h3 : shr .u64 18446744073709551615 (64 - ((t : Int) - (f : Int))) = ((2 ^ (t - f) - 1 : Nat) : Int) := by
    rw [hs, shr_eq hone (by omega) (by omega), Int.toNat_natCast]
    congr 1
    rw [show (18446744073709551615 : Int).toNat = 2 ^ 64 - 1 by decide]
    apply Nat.eq_of_testBit_eq
    intro i
    rw [Nat.testBit_shiftRight, Nat.testBit_two_pow_sub_one, Nat.testBit_two_pow_sub_one]
    congr 1
    simp only [eq_iff_iff]
    omega
  have hp : 0 < 2 ^ (t - f) := Nat.two_pow_pos _
  have hlt : (2 ^ (t - f) - 1) * 2 ^ f < 2 ^ 64 := by
    have h4 : 2 ^ (t - f) * 2 ^ f = 2 ^ t := by rw [← Nat.pow_add]; congr 1; omega
    have h5 : 2 ^ t ≤ 2 ^ 64 := Nat.pow_le_pow_right (by decide) h2
    have h6 : 0 < 2 ^ f := Nat.two_pow_pos _
    rw [Nat.sub_mul, h4]
    omega
  have hw : Wd (((2 ^ (t - f) - 1) * 2 ^ f : Nat) : Int) := Wd.of hlt
  have h7 : shl .u64 ((2 ^ (t - f) - 1 : Nat) : Int) (f : Int) = (((2 ^ (t - f) - 1) * 2 ^ f : Nat) : Int) := by
    unfold shl
    rw [show min (f : Int).toNat IntKind.u64.bits = f by simp [IntKind.bits]; omega]
    have : ((2 ^ (t - f) - 1 : Nat) : Int) * 2 ^ f = (((2 ^ (t - f) - 1) * 2 ^ f : Nat) : Int) := by rw [Int.natCast_mul]; simp
    rw [this, wraps_u64 _ hw]
  rw [h3, h7]
  refine ⟨?_, hw⟩
  unfold tb
  rw [Int.toNat_natCast, ← Nat.shiftLeft_eq, Nat.testBit_shiftLeft, Nat.testBit_two_pow_sub_one]
  by_cases h8 : f ≤ j
  · simp only [h8, decide_true, Bool.true_and]
    congr 1
    simp only [eq_iff_iff]
    omega
  · simp [h8]
theorem hb_set (ws : List Int) (i : Nat) (x : Int) (hi : i < ws.length) (e : Nat) : hb (ws.set i x) e = if i = e / 64 then tb x (e % 64) else hb ws e := by
  unfold hb
  rw [getD_set _ _ _ _ hi]
  split <;> rfl
end Go.Proofs.Ytjmkhdhffmlhiaa.PAll
