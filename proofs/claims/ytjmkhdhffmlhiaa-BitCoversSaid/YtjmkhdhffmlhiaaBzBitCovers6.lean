import Derived.Test.YtjmkhdhffmlhiaaBzBitCovers5
import Derived.Test.YtjmkhdhffmlhiaaBzBitCovers3
import Derived.Test.YtjmkhdhffmlhiaaBzBitCovers2
import Derived.Test.YtjmkhdhffmlhiaaBzBitCovers4
section
namespace Go.Proofs.Ytjmkhdhffmlhiaa.PAll
set_option linter.unusedVariables false
open Go.RowKit Go.Proofs.YtjmkhdhffmlhiaaW.PrintWords Go.Proofs.YtjmkhdhffmlhiaaW.PrintMore
def cnt (ws : List Int) : Nat := (ws.map (fun x => pc x.toNat)).sum
theorem cnt_cons (x : Int) (l : List Int) : cnt (x :: l) = pc x.toNat + cnt l := by unfold cnt; rw [List.map_cons, List.sum_cons]
theorem cnt_drop {ws : List Int} {i z : Nat} (h : i < ws.length) (hz : pc (ws[i]).toNat = z) : cnt (ws.drop i) = z + cnt (ws.drop (i + 1)) := by rw [List.drop_eq_getElem_cons h, cnt_cons, hz]
theorem sum_le (f : Nat → Nat) (h : ∀ j, f j ≤ 1) : ∀ n, ((List.range n).map f).sum ≤ n
  | 0 => by simp
  | n + 1 => by
    rw [List.range_succ, List.map_append, List.sum_append]
    have := sum_le f h n
    have := h n
    simp only [List.map_cons, List.map_nil, List.sum_cons, List.sum_nil]
    omega
theorem pc_le (x : Nat) : pc x ≤ 64 := by
  rw [pc_bits]
  exact sum_le _ (fun j => by cases Nat.testBit x j <;> simp) 64
theorem sum_zero (l : List Nat) : l.sum = 0 ↔ ∀ x ∈ l, x = 0 := by
  induction l with
  | nil => simp
  | cons a l ih =>
    rw [List.sum_cons]
    constructor
    · intro h x hx
      rcases List.mem_cons.1 hx with rfl | hx
      · omega
      · exact ih.1 (by omega) x hx
    · intro h
      have h1 := h a (by simp)
      have h2 := ih.2 (fun x hx => h x (by simp [hx]))
      omega
theorem pc_zero {x : Int} (hx : Wd x) : pc x.toNat = 0 ↔ ∀ j, tb x j = false := by
  rw [pc_bits, sum_zero]
  constructor
  · intro h j
    rcases Nat.lt_or_ge j 64 with hj | hj
    · have := h _ (List.mem_map.2 ⟨j, List.mem_range.2 hj, rfl⟩)
      unfold tb
      cases h2 : x.toNat.testBit j
      · rfl
      · rw [h2] at this; simp at this
    · exact tb_high hx hj
  · intro h y hy
    obtain ⟨j, _, rfl⟩ := List.mem_map.1 hy
    have := h j
    unfold tb at this
    rw [this]; rfl
theorem cnt_zero {ws : List Int} (hw : Wds ws) : cnt ws = 0 ↔ ∀ e, hb ws e = false := by
  unfold cnt
  rw [sum_zero]
  constructor
  · intro h e
    unfold hb
    rcases Nat.lt_or_ge (e / 64) ws.length with h1 | h1
    · rw [List.getD_eq_getElem?_getD, List.getElem?_eq_getElem h1]
      exact (pc_zero (hw _ (List.getElem_mem h1))).1 (h _ (List.mem_map.2 ⟨_, List.getElem_mem h1, rfl⟩)) _
    · rw [List.getD_eq_getElem?_getD, List.getElem?_eq_none h1]; exact tb_zero _
  · intro h y hy
    obtain ⟨x, hx, rfl⟩ := List.mem_map.1 hy
    obtain ⟨i, hi, rfl⟩ := List.getElem_of_mem hx
    refine (pc_zero (hw _ hx)).2 fun j => ?_
    rcases Nat.lt_or_ge j 64 with hj | hj
    · have := h (64 * i + j)
      unfold hb at this
      rw [show (64 * i + j) / 64 = i by omega, show (64 * i + j) % 64 = j by omega, List.getD_eq_getElem?_getD, List.getElem?_eq_getElem hi] at this
      exact this
    · exact tb_high (hw _ hx) hj
theorem Count_l0 (n : Int) (ws : List Int) (hw : Wds ws) (hl : ws.length ≤ 64) : ∀ d i c : Nat, i + d = ws.length → c ≤ 64 * i → Ev (fun k => bitset_Count.l0 k (c : Int) ws (ws.length : Int) (i : Int)) (((c + cnt (ws.drop i) : Nat) : Int)) := by
  intro d
  induction d with
  | zero =>
    intro i c hi hc
    refine ⟨1, fun k hk => ?_⟩
    obtain ⟨k, rfl⟩ : ∃ m, k = m + 1 := ⟨k - 1, by omega⟩
    simp only [bitset_Count.l0]
    rw [if_neg (by omega), List.drop_eq_nil_of_le (by omega)]
    simp [cnt]
  | succ d ih =>
    intro i c hi hc
    have hlt : i < ws.length := by omega
    have h4 : rd ws (i : Int) = ws[i] := by rw [rd_nat, List.getD_eq_getElem?_getD, List.getElem?_eq_getElem hlt]; rfl
    have h6 := ones_eq (hw _ (List.getElem_mem hlt))
    obtain ⟨z, h2, h3, h6⟩ : ∃ z, z ≤ 64 ∧ cnt (ws.drop i) = z + cnt (ws.drop (i + 1)) ∧ bits_OnesCount64.f ws[i] = some (z : Int) := ⟨_, pc_le _, cnt_drop hlt rfl, h6⟩
    have h5 := ih (i + 1) (c + z) (by omega) (by omega)
    rw [h3, ← Nat.add_assoc]
    refine Ev.step (fun k => ?_) h5
    conv => lhs; rw [bitset_Count.l0]
    rw [if_pos (by omega), if_pos (by omega), if_pos (by omega), h4, h6, Option.bind_some, show wrap64 ((i : Int) + 1) = ((i + 1 : Nat) : Int) by unfold wrap64; omega, ← Int.natCast_add, w64_nat (by omega) (by omega)]
theorem Count_eq {n : Int} {ws : List Int} (hw : Wds ws) (h : MayP n ws) : Ev (fun k => bitset_Count.f k n ws) (cnt ws : Int) := by
  have hlen : ws.length ≤ 64 := by have h1 := h.2.1; have h2 := h.2.2.1; omega
  refine Ev.congr (f := fun k => bitset_Count.l0 k ((0 : Nat) : Int) ws (ws.length : Int) ((0 : Nat) : Int)) (fun k => ?_) (by simpa using Count_l0 n ws hw hlen ws.length 0 0 (by omega) (by omega))
  unfold bitset_Count.f
  rw [May_eq n ws hw (by omega), may_true.2 h, Option.bind_some, if_pos rfl]; rfl
def TwoSays (f : Bool → Bool → Bool) (a : Int) (la : List Int) (b : Int) (lb : List Int) (r : Int × List Int × Int) : Prop :=
  (¬ (MayP a la ∧ MayP b lb) ∧ r = (0, [], 61)) ∨ (MayP a la ∧ MayP b lb ∧ ((a ≠ b ∧ r = (0, [], 60)) ∨ (a = b ∧ ∃ vs, Is a.toNat (fun d => f (hb la d) (hb lb d)) vs ∧ r = (a, vs, 0))))
theorem TwoSays.eq {f : Bool → Bool → Bool} {a b : Int} {la lb : List Int} {r q : Int × List Int × Int} (h : TwoSays f a la b lb r) (k : TwoSays f a la b lb q) : r = q := by
  rcases h with ⟨h1, rfl⟩ | ⟨h1, h2, ⟨h3, rfl⟩ | ⟨h3, vs, h4, rfl⟩⟩ <;> rcases k with ⟨k1, rfl⟩ | ⟨k1, k2, ⟨k3, rfl⟩ | ⟨k3, us, k4, rfl⟩⟩
  · rfl
  · exact absurd ⟨k1, k2⟩ h1
  · exact absurd ⟨k1, k2⟩ h1
  · exact absurd ⟨h1, h2⟩ k1
  · rfl
  · exact absurd k3 h3
  · exact absurd ⟨h1, h2⟩ k1
  · exact absurd h3 k3
  · rw [h4.eq k4 (fun _ _ => rfl)]
theorem TwoSays.bound {f : Bool → Bool → Bool} {a b : Int} {la lb : List Int} {s : Int} {vs : List Int} {c : Int} (h : TwoSays f a la b lb (s, vs, c)) : vs.length ≤ 9223372036854775807 := by
  rcases h with ⟨_, e⟩ | ⟨h1, _, ⟨_, e⟩ | ⟨_, us, h4, e⟩⟩
  · cases e; simp
  · cases e; simp
  · cases e; have := h1.2.1; rw [h4.len]; omega
def NoneP (f : Bool → Bool → Bool) (a : Int) (la : List Int) (b : Int) (lb : List Int) : Prop := MayP a la ∧ MayP b lb ∧ a = b ∧ ∀ d, f (hb la d) (hb lb d) = false
noncomputable def nonep (f : Bool → Bool → Bool) (a : Int) (la : List Int) (b : Int) (lb : List Int) : Bool := @decide (NoneP f a la b lb) (Classical.propDecidable _)
theorem nonep_true {f : Bool → Bool → Bool} {a b : Int} {la lb : List Int} : nonep f a la b lb = true ↔ NoneP f a la b lb := by unfold nonep; exact @decide_eq_true_iff _ (Classical.propDecidable _)
theorem nonep_of {f : Bool → Bool → Bool} {a b : Int} {la lb : List Int} {x : Bool} (h : x = true ↔ NoneP f a la b lb) : x = nonep f a la b lb := by rw [Bool.eq_iff_iff, h, nonep_true]
theorem two_and_eq (a : Int) (la : List Int) (b : Int) (lb : List Int) (hwa : Wds la) (hwb : Wds lb) (hla : la.length ≤ 9223372036854775807) (hlb : lb.length ≤ 9223372036854775807) :
    ∃ r, TwoSays (fun x y => x && y) a la b lb r ∧ Ev (fun k => bitset_two_and.f k a la b lb ()) r := by
  have ma := May_eq a la hwa hla
  have mb := May_eq b lb hwb hlb
  by_cases h : MayP a la ∧ MayP b lb
  · obtain ⟨h1, h2⟩ := h
    rw [may_true.2 h1] at ma
    rw [may_true.2 h2] at mb
    have e0 : ∀ k, bitset_two_and.f k a la b lb () = bitset_two_and.j0 k () false a la b lb := by
      intro k
      unfold bitset_two_and.f
      rw [ma, Option.bind_some, if_pos rfl, mb, Option.bind_some]; rfl
    by_cases hab : a = b
    · subst hab
      have i1 := h1.is hwa
      have i2 := h2.is hwb
      obtain ⟨c, h3, h4⟩ := foldw_is bitly_and i1 i2
      refine ⟨(a, c, 0), .inr ⟨h1, h2, .inr ⟨rfl, c, h4, rfl⟩⟩, Ev.congr e0 (Ev.step (f := fun _ => some (a, c, 0)) (fun k => ?_) (Ev.now _))⟩
      rw [bitset_two_and.j0]
      rw [if_neg (by simp), if_pos rfl, own_eq h1 hwa, Option.bind_some]
      unfold bitset_fold_and.f
      rw [folds, h3, Option.bind_some, folds]; rfl
    · refine ⟨(0, [], 60), .inr ⟨h1, h2, .inl ⟨hab, rfl⟩⟩, Ev.congr e0 (Ev.step (f := fun _ => some (0, [], 60)) (fun k => ?_) (Ev.now _))⟩
      rw [bitset_two_and.j0]
      rw [if_neg (by simp), if_neg hab]
  · refine ⟨(0, [], 61), .inl ⟨h, rfl⟩, Ev.congr (f := fun k => bitset_two_and.j0 k () true a la b lb) (fun k => ?_) (Ev.step (f := fun _ => some (0, [], 61)) (fun k => ?_) (Ev.now _))⟩
    · unfold bitset_two_and.f
      rw [ma, Option.bind_some]
      by_cases h1 : MayP a la
      · rw [may_true.2 h1, if_pos rfl, mb, Option.bind_some, may_false.2 (fun h2 => h ⟨h1, h2⟩)]; rfl
      · rw [may_false.2 h1, if_neg (by simp)]
    · rw [bitset_two_and.j0]
      rw [if_pos rfl]
theorem two_andNot_eq (a : Int) (la : List Int) (b : Int) (lb : List Int) (hwa : Wds la) (hwb : Wds lb) (hla : la.length ≤ 9223372036854775807) (hlb : lb.length ≤ 9223372036854775807) :
    ∃ r, TwoSays (fun x y => x && !y) a la b lb r ∧ Ev (fun k => bitset_two_andNot.f k a la b lb ()) r := by
  have ma := May_eq a la hwa hla
  have mb := May_eq b lb hwb hlb
  by_cases h : MayP a la ∧ MayP b lb
  · obtain ⟨h1, h2⟩ := h
    rw [may_true.2 h1] at ma
    rw [may_true.2 h2] at mb
    have e0 : ∀ k, bitset_two_andNot.f k a la b lb () = bitset_two_andNot.j0 k () false a la b lb := by
      intro k
      unfold bitset_two_andNot.f
      rw [ma, Option.bind_some, if_pos rfl, mb, Option.bind_some]; rfl
    by_cases hab : a = b
    · subst hab
      have i1 := h1.is hwa
      have i2 := h2.is hwb
      obtain ⟨c, h3, h4⟩ := foldw_is bitly_andNot i1 i2
      refine ⟨(a, c, 0), .inr ⟨h1, h2, .inr ⟨rfl, c, h4, rfl⟩⟩, Ev.congr e0 (Ev.step (f := fun _ => some (a, c, 0)) (fun k => ?_) (Ev.now _))⟩
      rw [bitset_two_andNot.j0]
      rw [if_neg (by simp), if_pos rfl, own_eq h1 hwa, Option.bind_some]
      unfold bitset_fold_andNot.f
      rw [folds, h3, Option.bind_some, folds]; rfl
    · refine ⟨(0, [], 60), .inr ⟨h1, h2, .inl ⟨hab, rfl⟩⟩, Ev.congr e0 (Ev.step (f := fun _ => some (0, [], 60)) (fun k => ?_) (Ev.now _))⟩
      rw [bitset_two_andNot.j0]
      rw [if_neg (by simp), if_neg hab]
  · refine ⟨(0, [], 61), .inl ⟨h, rfl⟩, Ev.congr (f := fun k => bitset_two_andNot.j0 k () true a la b lb) (fun k => ?_) (Ev.step (f := fun _ => some (0, [], 61)) (fun k => ?_) (Ev.now _))⟩
    · unfold bitset_two_andNot.f
      rw [ma, Option.bind_some]
      by_cases h1 : MayP a la
      · rw [may_true.2 h1, if_pos rfl, mb, Option.bind_some, may_false.2 (fun h2 => h ⟨h1, h2⟩)]; rfl
      · rw [may_false.2 h1, if_neg (by simp)]
    · rw [bitset_two_andNot.j0]
      rw [if_pos rfl]
theorem none_andNot_eq (a : Int) (la : List Int) (b : Int) (lb : List Int) (hwa : Wds la) (hwb : Wds lb) (hla : la.length ≤ 9223372036854775807) (hlb : lb.length ≤ 9223372036854775807) :
    Ev (fun k => bitset_none_andNot.f k a la b lb ()) (nonep (fun x y => x && !y) a la b lb) := by
  obtain ⟨r, h1, h2⟩ := two_andNot_eq a la b lb hwa hwb hla hlb
  have key : ∀ v, Ev (fun k => if r.2.2 = 0 then ((bitset_Count.f k r.1 r.2.1).bind fun t109 => (some (t109 == 0))) else (some false)) v → Ev (fun k => bitset_none_andNot.f k a la b lb ()) v :=
    fun v hv => Ev.bind (f := fun k (bt103 : Int × List Int × Int) => (if bt103.2.2 = 0 then ((bitset_Count.f k bt103.1 bt103.2.1).bind fun t109 => (some (t109 == 0))) else (some false))) h2 hv
  apply key
  rcases h1 with ⟨h1, rfl⟩ | ⟨h1, k1, ⟨h3, rfl⟩ | ⟨h3, vs, h4, rfl⟩⟩
  · rw [← nonep_of (x := false) ⟨fun h => (by cases h), fun h => absurd ⟨h.1, h.2.1⟩ h1⟩]
    exact Ev.const fun k => by rw [if_neg (by decide)]
  · rw [← nonep_of (x := false) ⟨fun h => (by cases h), fun h => absurd h.2.2.1 h3⟩]
    exact Ev.const fun k => by rw [if_neg (by decide)]
  · obtain ⟨n, rfl⟩ := Int.eq_ofNat_of_zero_le h1.1
    rw [Int.toNat_natCast] at h4
    have h5 := h4.may (by have := h1.2.1; omega)
    have h6 : ((cnt vs : Int) == 0) = nonep (fun x y => x && !y) (n : Int) la b lb := by
      refine nonep_of ?_
      have h7 : ∀ d, ((hb la d && hb lb d) = (hb la d && hb lb d)) := fun _ => rfl
      rw [beq_iff_eq]
      constructor
      · intro h
        refine ⟨h1, k1, h3, fun d => ?_⟩
        have h8 := (cnt_zero h4.wds).1 (by omega) d
        rw [h4.has] at h8
        by_cases hd : d < n
        · simpa [hd] using h8
        · have ha := h1.2.2.2 d (by rw [Int.toNat_natCast]; omega)
          have hb' := k1.2.2.2 d (by rw [← h3, Int.toNat_natCast]; omega)
          simp [ha, hb']
      · intro h
        have h8 : cnt vs = 0 := (cnt_zero h4.wds).2 fun d => by rw [h4.has, h.2.2.2 d]; simp
        omega
    rw [← h6]
    refine Ev.congr (f := fun k => (bitset_Count.f k (n : Int) vs).bind fun t109 => (some (t109 == 0))) (fun k => by rw [if_pos rfl]) (Ev.bind (f := fun _ t109 => some (t109 == 0)) (Count_eq h4.wds h5) (Ev.now _))
theorem Subset_eq (a : Int) (la : List Int) (b : Int) (lb : List Int) (hwa : Wds la) (hwb : Wds lb) (hla : la.length ≤ 9223372036854775807) (hlb : lb.length ≤ 9223372036854775807) : Ev (fun k => bitset_Subset.f k a la b lb) (nonep (fun x y => x && !y) a la b lb) := by
  refine Ev.congr (fun k => ?_) (none_andNot_eq a la b lb hwa hwb hla hlb)
  unfold bitset_Subset.f
  cases bitset_none_andNot.f k a la b lb () <;> rfl
theorem Minus_eq (a : Int) (la : List Int) (b : Int) (lb : List Int) (hwa : Wds la) (hwb : Wds lb) (hla : la.length ≤ 9223372036854775807) (hlb : lb.length ≤ 9223372036854775807) : ∃ r, TwoSays (fun x y => x && !y) a la b lb r ∧ Ev (fun k => bitset_Minus.f k a la b lb) r := by
  obtain ⟨r, h1, h2⟩ := two_andNot_eq a la b lb hwa hwb hla hlb
  refine ⟨r, h1, Ev.congr (fun k => ?_) h2⟩
  unfold bitset_Minus.f
  cases bitset_two_andNot.f k a la b lb () <;> rfl
end Go.Proofs.Ytjmkhdhffmlhiaa.PAll
end
section
namespace Go.Proofs.Ytjmkhdhffmlhiaa.PAll
set_option linter.unusedVariables false
open Go.RowKit Go.Proofs.YtjmkhdhffmlhiaaW.PrintWords Go.Proofs.YtjmkhdhffmlhiaaW.PrintMore
theorem sum_countP (p : Nat → Bool) : ∀ l : List Nat, (l.map (fun j => (p j).toNat)).sum = l.countP p
  | [] => rfl
  | a :: l => by
    rw [List.map_cons, List.sum_cons, List.countP_cons, sum_countP p l]
    cases p a <;> simp
    omega
theorem pc_countP (x : Int) : pc x.toNat = (List.range 64).countP (tb x) := by
  rw [pc_bits, ← sum_countP]
  rfl
theorem hb_cons (x : Int) (l : List Int) (e : Nat) : hb (x :: l) (64 + e) = hb l e := by
  unfold hb
  rw [show (64 + e) / 64 = e / 64 + 1 by omega, show (64 + e) % 64 = e % 64 by omega]
  rfl
theorem hb_head (x : Int) (l : List Int) {e : Nat} (h : e < 64) : hb (x :: l) e = tb x e := by
  unfold hb
  rw [show e / 64 = 0 by omega, show e % 64 = e by omega]
  rfl
theorem cnt_countP : ∀ ws : List Int, cnt ws = (List.range (64 * ws.length)).countP (hb ws)
  | [] => rfl
  | x :: l => by
    have h1 : (List.range 64).countP (tb x) = (List.range 64).countP (hb (x :: l)) := by
      apply List.countP_congr
      intro e he
      rw [hb_head x l (List.mem_range.1 he)]
    have h2 : (List.range (64 * l.length)).countP (hb l) = (List.range (64 * l.length)).countP (hb (x :: l) ∘ fun e => 64 + e) := by
      apply List.countP_congr
      intro e _
      simp only [Function.comp]
      rw [hb_cons]
    rw [cnt_cons, pc_countP, cnt_countP l, List.length_cons, show 64 * (l.length + 1) = 64 + 64 * l.length by omega, List.range_add, List.countP_append, List.countP_map, h1, h2]
theorem Is.cnt {n : Nat} {p : Nat → Bool} {ws : List Int} (h : Is n p ws) : cnt ws = (List.range n).countP p := by
  have hl := h.len
  rw [cnt_countP, show 64 * ws.length = n + (64 * ws.length - n) by omega, List.range_add, List.countP_append]
  have h1 : ((List.range (64 * ws.length - n)).map (n + ·)).countP (hb ws) = 0 := by
    rw [List.countP_eq_zero]
    intro e he
    obtain ⟨d, _, rfl⟩ := List.mem_map.1 he
    have h2 : ¬ n + d < n := by omega
    rw [h.has]; simp [h2]
  rw [h1, Nat.add_zero]
  apply List.countP_congr
  intro e he
  rw [h.has]
  simp [List.mem_range.1 he]
end Go.Proofs.Ytjmkhdhffmlhiaa.PAll
end
section
namespace Go.Proofs.Ytjmkhdhffmlhiaa.PAll
open Go.RowKit Go.Proofs.YtjmkhdhffmlhiaaW.PrintWords Go.Proofs.YtjmkhdhffmlhiaaW.PrintLast Go.Proofs.YtjmkhdhffmlhiaaW.PrintMore
attribute [local go_sem] max2_int min2_int max_two min_two max_three min_three max_four min_four w64_u8 w64_mod256   -- for this text's walks alone
set_option linter.unusedVariables false
set_option linter.unusedSimpArgs false
end Go.Proofs.Ytjmkhdhffmlhiaa.PAll
end
section
namespace Go.Proofs.Ytjmkhdhffmlhiaa.PAll
open Go.RowKit Go.Proofs.YtjmkhdhffmlhiaaW.PrintWords Go.Proofs.YtjmkhdhffmlhiaaW.PrintLast Go.Proofs.YtjmkhdhffmlhiaaW.PrintMore
attribute [local go_sem] max2_int min2_int max_two min_two max_three min_three max_four min_four w64_u8 w64_mod256   -- for this text's walks alone
set_option linter.unusedVariables false
set_option linter.unusedSimpArgs false
end Go.Proofs.Ytjmkhdhffmlhiaa.PAll
end
section
namespace Go.Proofs.Ytjmkhdhffmlhiaa.PAll
open Go.RowKit Go.Proofs.YtjmkhdhffmlhiaaW.PrintWords Go.Proofs.YtjmkhdhffmlhiaaW.PrintMore
def RangeSays (size lo hi : Int) (r : Int × List Int × Int) : Prop :=
  ((size < 0 ∨ 4096 < size) ∧ r = (0, [], 60)) ∨ (0 ≤ size ∧ size ≤ 4096 ∧ ∃ ws, Is size.toNat (fun e => decide (lo ≤ (e : Int)) && decide ((e : Int) < hi)) ws ∧ r = (size, ws, 0))
theorem RangeSays.eq {size lo hi : Int} {r q : Int × List Int × Int} (h : RangeSays size lo hi r) (k : RangeSays size lo hi q) : r = q := by
  rcases h with ⟨h1, rfl⟩ | ⟨h1, h2, ws, h4, rfl⟩ <;> rcases k with ⟨k1, rfl⟩ | ⟨k1, k2, vs, k4, rfl⟩
  · rfl
  · omega
  · omega
  · rw [h4.eq k4 (fun _ _ => rfl)]
end Go.Proofs.Ytjmkhdhffmlhiaa.PAll
end
section
namespace Go.Proofs.Ytjmkhdhffmlhiaa.PAll
open Go.RowKit Go.Proofs.YtjmkhdhffmlhiaaW.PrintWords Go.Proofs.YtjmkhdhffmlhiaaW.PrintLast Go.Proofs.YtjmkhdhffmlhiaaW.PrintMore
attribute [local go_sem] max2_int min2_int max_two min_two max_three min_three max_four min_four w64_u8 w64_mod256   -- for this text's walks alone
set_option linter.unusedVariables false
set_option linter.unusedSimpArgs false
end Go.Proofs.Ytjmkhdhffmlhiaa.PAll
end
section
namespace Go.Proofs.Ytjmkhdhffmlhiaa.PAll
open Go.RowKit Go.Proofs.YtjmkhdhffmlhiaaW.PrintWords Go.Proofs.YtjmkhdhffmlhiaaW.PrintLast Go.Proofs.YtjmkhdhffmlhiaaW.PrintMore
attribute [local go_sem] max2_int min2_int max_two min_two max_three min_three max_four min_four w64_u8 w64_mod256   -- for this text's walks alone
set_option linter.unusedVariables false
set_option linter.unusedSimpArgs false
end Go.Proofs.Ytjmkhdhffmlhiaa.PAll
end
section
namespace Go.Proofs.Ytjmkhdhffmlhiaa.PAll
open Go.RowKit Go.Proofs.YtjmkhdhffmlhiaaW.PrintWords Go.Proofs.YtjmkhdhffmlhiaaW.PrintMore
def manyb (all : Bool) (l : List S26) (d : Nat) : Bool := if all then l.all (fun x => hb x.f1 d) else l.any (fun x => hb x.f1 d)
def ManySays (n : Int) (l : List S26) (all : Bool) (r : Int × List Int × Int) : Prop :=
  (∃ e, e ≠ 0 ∧ FitSays n l e ∧ r = (0, [], e)) ∨ (FitSays n l 0 ∧ ∃ ws, Is n.toNat (manyb all l) ws ∧ r = (n, ws, 0))
theorem ManySays.eq {n : Int} {l : List S26} {all : Bool} {r q : Int × List Int × Int} (h : ManySays n l all r) (k : ManySays n l all q) : r = q := by
  rcases h with ⟨e, h1, h2, rfl⟩ | ⟨h1, ws, h2, rfl⟩ <;> rcases k with ⟨e2, k1, k2, rfl⟩ | ⟨k1, vs, k2, rfl⟩
  · rw [h2.eq k2]
  · exact absurd (h2.eq k1) h1
  · exact absurd (k2.eq h1) k1
  · rw [h2.eq k2 (fun _ _ => rfl)]
theorem ManySays.bound {n : Int} {l : List S26} {all : Bool} {s : Int} {vs : List Int} {c : Int} (h : ManySays n l all (s, vs, c)) : vs.length ≤ 9223372036854775807 := by
  rcases h with ⟨e, h1, h2, h3⟩ | ⟨h1, ws, h2, h3⟩
  · cases h3; simp
  · cases h3
    rcases h1 with ⟨h1, _⟩ | ⟨h1, _⟩ | ⟨_, _, _, h3, h4⟩
    · omega
    · omega
    · rw [h2.len]; omega
theorem FitSays.zero {n : Int} {l : List S26} (h : FitSays n l 0) : (∀ x ∈ l, MayS x ∧ x.f0 = n) ∧ 0 ≤ n ∧ n ≤ 4096 := by
  rcases h with ⟨h1, _⟩ | ⟨h1, _⟩ | ⟨_, h1, h2, h3⟩
  · omega
  · omega
  · exact ⟨fun x hx => ⟨h1 x hx, h2 x hx⟩, h3⟩
theorem Union_eq (n : Int) (l : List S26) (hl : l.length ≤ 9223372036854775807) (hg : Goods l) : ∃ r, ManySays n l false r ∧ Ev (fun k => bitset_Union.f k n l) r := by
  obtain ⟨e, h1, h2⟩ := fit_eq n l hl hg
  by_cases he : e = 0
  · subst he
    obtain ⟨h3, h4, h5⟩ := h1.zero
    obtain ⟨m, rfl⟩ := Int.eq_ofNat_of_zero_le h4
    obtain ⟨c, h6, h7⟩ := folds_is bitly_or l (fun x hx => ⟨(h3 x hx).1, (h3 x hx).2, (hg x hx).1⟩) (Is.none m)
    refine ⟨((m : Int), c, 0), .inr ⟨h1, c, ?_, rfl⟩, ?_⟩
    · rw [Int.toNat_natCast]
      refine h7.congr fun d _ => ?_
      rw [foldl_any]; simp [manyb]
    · unfold bitset_Union.f
      refine Ev.bind (f := fun _ t102 => (if t102 = 0 then ((bitset_blank.f (m : Int)).bind fun bt103 => ((bitset_fold_or.f bt103.1 bt103.2 l ()).bind fun bt107 => (some (bt107.1, bt107.2, 0)))) else (some (0, ([] : List Int), t102)))) h2 (Ev.const fun k => ?_)
      rw [if_pos rfl, blank_eq (by omega), Option.bind_some]
      unfold bitset_fold_or.f
      rw [h6]; rfl
  · refine ⟨(0, [], e), .inl ⟨e, he, h1, rfl⟩, ?_⟩
    unfold bitset_Union.f
    refine Ev.bind (f := fun _ t102 => (if t102 = 0 then ((bitset_blank.f n).bind fun bt103 => ((bitset_fold_or.f bt103.1 bt103.2 l ()).bind fun bt107 => (some (bt107.1, bt107.2, 0)))) else (some (0, ([] : List Int), t102)))) h2 (Ev.const fun k => ?_)
    rw [if_neg he]
end Go.Proofs.Ytjmkhdhffmlhiaa.PAll
end
section
namespace Go.Proofs.Ytjmkhdhffmlhiaa.PAll
set_option linter.unusedVariables false
open Go.RowKit Go.Proofs.YtjmkhdhffmlhiaaW.PrintWords Go.Proofs.YtjmkhdhffmlhiaaW.PrintMore
def gain (n : Nat) (p : Nat → Bool) (x : S26) : Nat := (List.range n).countP (fun e => p e && hb x.f1 e)
def size_ (n : Nat) (p : Nat → Bool) : Nat := (List.range n).countP p
def scan (n : Nat) (p : Nat → Bool) : List S26 → Nat → Int → Nat → Int × Nat
  | [], _, b, m => (b, m)
  | x :: l, i, b, m => if m < gain n p x then scan n p l (i + 1) (i : Int) (gain n p x) else scan n p l (i + 1) b m
theorem scan_two (n : Nat) (p : Nat → Bool) : ∀ (l : List S26) (i : Nat) (b c : Int) (m : Nat), (scan n p l i b m = scan n p l i c m) ∨ (scan n p l i b m = (b, m) ∧ scan n p l i c m = (c, m))
  | [], _, _, _, _ => .inr ⟨rfl, rfl⟩
  | x :: l, i, b, c, m => by
    unfold scan
    by_cases h : m < gain n p x
    · rw [if_pos h, if_pos h]; exact .inl rfl
    · rw [if_neg h, if_neg h]; exact scan_two n p l (i + 1) b c m
theorem scan_says (n : Nat) (p : Nat → Bool) : ∀ (l : List S26) (i : Nat) (b : Int) (m : Nat),
    (scan n p l i b m = (b, m) ∧ ∀ x ∈ l, gain n p x ≤ m) ∨ (∃ j, ∃ h : j < l.length, scan n p l i b m = (((i + j : Nat) : Int), gain n p l[j]) ∧ m < gain n p l[j])
  | [], _, _, _ => .inl ⟨rfl, fun x hx => (by cases hx)⟩
  | x :: l, i, b, m => by
    unfold scan
    by_cases h : m < gain n p x
    · rw [if_pos h]
      rcases scan_says n p l (i + 1) (i : Int) (gain n p x) with ⟨h1, h2⟩ | ⟨j, hj, h1, h2⟩
      · exact .inr ⟨0, by simp, h1, h⟩
      · refine .inr ⟨j + 1, by simp; omega, ?_, ?_⟩
        · rw [h1, List.getElem_cons_succ, show i + 1 + j = i + (j + 1) by omega]
        · rw [List.getElem_cons_succ]; omega
    · rw [if_neg h]
      rcases scan_says n p l (i + 1) b m with ⟨h1, h2⟩ | ⟨j, hj, h1, h2⟩
      · refine .inl ⟨h1, fun y hy => ?_⟩
        rcases List.mem_cons.1 hy with rfl | hy
        · omega
        · exact h2 y hy
      · refine .inr ⟨j + 1, by simp; omega, ?_, ?_⟩
        · rw [h1, List.getElem_cons_succ, show i + 1 + j = i + (j + 1) by omega]
        · rw [List.getElem_cons_succ]; exact h2
theorem size_split (p q : Nat → Bool) : ∀ l : List Nat, l.countP p = l.countP (fun e => p e && q e) + l.countP (fun e => p e && !q e)
  | [] => rfl
  | a :: l => by
    rw [List.countP_cons, List.countP_cons, List.countP_cons, size_split p q l]
    cases p a <;> cases q a <;> simp <;> omega
theorem size_less (n : Nat) (p : Nat → Bool) (x : S26) : size_ n p = gain n p x + size_ n (fun e => p e && !hb x.f1 e) := size_split p (hb x.f1) (List.range n)
theorem fresh_l0 (n : Nat) (hn : n ≤ 4096) (p : Nat → Bool) (ws : List Int) (hw : Wds ws) (hl : ws.length = (n + 63) / 64) : ∀ d i c : Nat, i + d = n → c ≤ i → ∃ c' : Nat, c' = c + ((List.range d).map (fun e => i + e)).countP (fun e => p e && hb ws e) ∧ Ev (fun k => sloperef3_fresh.l0 k ((List.range n).map p) (c : Int) (i : Int) (n : Int) ws) (c' : Int) := by
  intro d
  induction d with
  | zero =>
    intro i c hi hc
    refine ⟨c, by simp, ⟨1, fun k hk => ?_⟩⟩
    obtain ⟨k, rfl⟩ : ∃ m, k = m + 1 := ⟨k - 1, by omega⟩
    simp only [sloperef3_fresh.l0]
    rw [if_neg (by omega)]
  | succ d ih =>
    intro i c hi hc
    have hr : rdOf false ((List.range n).map p) (i : Int) = p i := by
      unfold rdOf
      rw [Int.toNat_natCast, List.getD_eq_getElem?_getD, List.getElem?_map, List.getElem?_range (by omega)]
      rfl
    have hIn := In_eq (n := (n : Int)) (e := i) hw (by omega) (by omega)
    have hsp : ((List.range (d + 1)).map (fun e => i + e)).countP (fun e => p e && hb ws e) = (if (p i && hb ws i) = true then 1 else 0) + ((List.range d).map (fun e => i + 1 + e)).countP (fun e => p e && hb ws e) := by
      rw [List.range_succ_eq_map, List.map_cons, List.countP_cons, List.map_map, Nat.add_zero]
      have : ((fun e => i + e) ∘ Nat.succ) = (fun e => i + 1 + e) := by funext e; simp only [Function.comp]; omega
      rw [this]
      by_cases h0 : (p i && hb ws i) = true
      · rw [if_pos h0]; omega
      · rw [if_neg h0]; omega
    rw [hsp]
    have hlen : (((List.range n).map p).length : Int) = (n : Int) := by simp
    by_cases hp : p i = true
    · by_cases hb1 : hb ws i = true
      · obtain ⟨c', h1, h2⟩ := ih (i + 1) (c + 1) (by omega) (by omega)
        refine ⟨c', by rw [if_pos (by rw [hp, hb1]; rfl)]; omega, Ev.step (fun k => ?_) h2⟩
        conv => lhs; rw [sloperef3_fresh.l0]
        rw [if_pos (by omega), if_pos (by omega), if_pos (by omega), hr, if_pos hp, hIn, Option.bind_some, if_pos hb1, show wrap64 ((i : Int) + 1) = ((i + 1 : Nat) : Int) by unfold wrap64; omega, show wrap64 ((c : Int) + 1) = ((c + 1 : Nat) : Int) by unfold wrap64; omega]
      · obtain ⟨c', h1, h2⟩ := ih (i + 1) c (by omega) (by omega)
        refine ⟨c', by rw [if_neg (by rw [hp]; simpa using hb1)]; omega, Ev.step (fun k => ?_) h2⟩
        conv => lhs; rw [sloperef3_fresh.l0]
        rw [if_pos (by omega), if_pos (by omega), if_pos (by omega), hr, if_pos hp, hIn, Option.bind_some, if_neg hb1, show wrap64 ((i : Int) + 1) = ((i + 1 : Nat) : Int) by unfold wrap64; omega]
    · obtain ⟨c', h1, h2⟩ := ih (i + 1) c (by omega) (by omega)
      refine ⟨c', by rw [if_neg (by simp [hp])]; omega, Ev.step (fun k => ?_) h2⟩
      conv => lhs; rw [sloperef3_fresh.l0]
      rw [if_pos (by omega), if_pos (by omega), if_pos (by omega), hr, if_neg hp, show wrap64 ((i : Int) + 1) = ((i + 1 : Nat) : Int) by unfold wrap64; omega]
theorem fresh_eq (n : Nat) (hn : n ≤ 4096) (p : Nat → Bool) (x : S26) (hw : Wds x.f1) (hl : x.f1.length = (n + 63) / 64) (hx : x.f0 = (n : Int)) : Ev (fun k => sloperef3_fresh.f k x.f0 x.f1 ((List.range n).map p)) (gain n p x : Int) := by
  obtain ⟨c', h1, h2⟩ := fresh_l0 n hn p x.f1 hw hl n 0 0 (by omega) (by omega)
  have h3 : c' = gain n p x := by
    rw [h1, gain]
    have : (fun e => 0 + e) = (fun e : Nat => e) := by funext e; omega
    rw [this, List.map_id', Nat.zero_add]
  rw [← h3, hx]
  exact Ev.congr (fun k => by unfold sloperef3_fresh.f; rfl) h2
def Tab (n : Nat) (l : List S26) : Prop := ∀ x ∈ l, x.f0 = (n : Int) ∧ Wds x.f1 ∧ x.f1.length = (n + 63) / 64 ∧ MayP (n : Int) x.f1
theorem cover_l1 (n : Nat) (hn : n ≤ 4096) (l : List S26) (ht : Tab n l) (hl : l.length ≤ 9223372036854775807) (p : Nat → Bool) (ws : List Int) (hp : Is n p ws) (acc : List Int) (r : List Int × Int) :
    ∀ (d i m : Nat) (b : Int), i + d = l.length → (∀ b' m', scan n p (l.drop i) i b m = (b', m') → Ev (fun k => if acc.length < 17592186044416 then (if 0 ≤ b' then (if b' < (l.length : Int) then ((bitset_Minus.f k (n : Int) ws ((rd_T26 l b').f0) ((rd_T26 l b').f1)).bind fun bt118 => (bitset_Cover.l0 k (acc ++ [b']) (n : Int) l bt118.1 bt118.2.1)) else (none)) else (none)) else (none)) r) →
      Ev (fun k => bitset_Cover.l1 k acc b (m : Int) l (l.length : Int) (i : Int) (n : Int) l (n : Int) ws) r := by
  intro d
  induction d with
  | zero =>
    intro i m b hi hr
    rw [List.drop_eq_nil_of_le (by omega)] at hr
    refine Ev.step (fun k => ?_) (hr b m rfl)
    conv => lhs; rw [bitset_Cover.l1]
    rw [if_neg (by omega)]
  | succ d ih =>
    intro i m b hi hr
    have hlt : i < l.length := by omega
    rw [List.drop_eq_getElem_cons hlt, scan] at hr
    obtain ⟨h0, h1, h2, h3⟩ := ht l[i] (List.getElem_mem hlt)
    obtain ⟨q, t1, t2⟩ := two_and_eq (n : Int) ws (n : Int) l[i].f1 hp.wds h1 (by have := hp.len; omega) (by omega)
    obtain ⟨vs, v1, rfl⟩ : ∃ vs, Is n (fun e => p e && hb l[i].f1 e) vs ∧ q = ((n : Int), vs, 0) := by
      rcases t1 with ⟨t1, _⟩ | ⟨_, _, ⟨t1, _⟩ | ⟨_, us, u1, rfl⟩⟩
      · exact absurd ⟨hp.may hn, h3⟩ t1
      · exact absurd rfl t1
      · refine ⟨us, ?_, rfl⟩
        rw [Int.toNat_natCast] at u1
        refine u1.congr fun e he => ?_
        rw [hp.has]; simp [he]
    have hc := Count_eq v1.wds (v1.may hn)
    have hg : cnt vs = gain n p l[i] := v1.cnt
    rw [hg] at hc
    have hs : ∀ k, bitset_Cover.l1 (k + 1) acc b (m : Int) l (l.length : Int) (i : Int) (n : Int) l (n : Int) ws = (bitset_two_and.f k (n : Int) ws (n : Int) l[i].f1 ()).bind fun bt126 => ((bitset_Count.f k bt126.1 bt126.2.1).bind fun t132 => (if t132 > (m : Int) then (bitset_Cover.l1 k acc (i : Int) t132 l (l.length : Int) ((i + 1 : Nat) : Int) (n : Int) l (n : Int) ws) else (bitset_Cover.l1 k acc b (m : Int) l (l.length : Int) ((i + 1 : Nat) : Int) (n : Int) l (n : Int) ws))) := by
      intro k
      conv => lhs; rw [bitset_Cover.l1]
      rw [if_pos (by omega), if_pos (by omega), if_pos (by omega), rd26 hlt, h0, show wrap64 ((i : Int) + 1) = ((i + 1 : Nat) : Int) by unfold wrap64; omega]
    refine Ev.step hs (Ev.bind (f := fun k bt126 => ((bitset_Count.f k bt126.1 bt126.2.1).bind fun t132 => (if t132 > (m : Int) then (bitset_Cover.l1 k acc (i : Int) t132 l (l.length : Int) ((i + 1 : Nat) : Int) (n : Int) l (n : Int) ws) else (bitset_Cover.l1 k acc b (m : Int) l (l.length : Int) ((i + 1 : Nat) : Int) (n : Int) l (n : Int) ws)))) t2 (Ev.bind (f := fun k t132 => (if t132 > (m : Int) then (bitset_Cover.l1 k acc (i : Int) t132 l (l.length : Int) ((i + 1 : Nat) : Int) (n : Int) l (n : Int) ws) else (bitset_Cover.l1 k acc b (m : Int) l (l.length : Int) ((i + 1 : Nat) : Int) (n : Int) l (n : Int) ws))) hc ?_))
    by_cases hm : m < gain n p l[i]
    · refine Ev.congr (fun k => by rw [if_pos (by omega)]) (ih (i + 1) (gain n p l[i]) (i : Int) (by omega) (fun b' m' h => hr b' m' ?_))
      rw [if_pos hm]; exact h
    · refine Ev.congr (fun k => by rw [if_neg (by omega)]) (ih (i + 1) m b (by omega) (fun b' m' h => hr b' m' ?_))
      rw [if_neg hm]; exact h
theorem rcover_l1 (n : Nat) (hn : n ≤ 4096) (l : List S26) (ht : Tab n l) (hl : l.length ≤ 9223372036854775807) (p : Nat → Bool) (acc : List Int) (c : Int) (r : List Int × Int) :
    ∀ (d i m : Nat) (b : Int), i + d = l.length → (∀ b' m', scan n p (l.drop i) i b m = (b', m') → Ev (fun k => if b' < 0 then (some (([] : List Int), 321)) else (if acc.length < 17592186044416 then (sloperef3_Cover.l2 k (acc ++ [b']) ((List.range n).map p) (wrap64 (c - (m' : Int))) b' 0 (n : Int) l) else (none))) r) →
      Ev (fun k => sloperef3_Cover.l1 k acc ((List.range n).map p) c b (m : Int) (i : Int) (n : Int) l) r := by
  intro d
  induction d with
  | zero =>
    intro i m b hi hr
    rw [List.drop_eq_nil_of_le (by omega)] at hr
    refine Ev.step (fun k => ?_) (hr b m rfl)
    conv => lhs; rw [sloperef3_Cover.l1]
    rw [if_neg (by omega)]
  | succ d ih =>
    intro i m b hi hr
    have hlt : i < l.length := by omega
    rw [List.drop_eq_getElem_cons hlt, scan] at hr
    obtain ⟨h0, h1, h2, h3⟩ := ht l[i] (List.getElem_mem hlt)
    have hf := fresh_eq n hn p l[i] h1 h2 h0
    have hs : ∀ k, sloperef3_Cover.l1 (k + 1) acc ((List.range n).map p) c b (m : Int) (i : Int) (n : Int) l = (sloperef3_fresh.f k l[i].f0 l[i].f1 ((List.range n).map p)).bind fun t112 => (if t112 > (m : Int) then (sloperef3_Cover.l1 k acc ((List.range n).map p) c (i : Int) t112 ((i + 1 : Nat) : Int) (n : Int) l) else (sloperef3_Cover.l1 k acc ((List.range n).map p) c b (m : Int) ((i + 1 : Nat) : Int) (n : Int) l)) := by
      intro k
      conv => lhs; rw [sloperef3_Cover.l1]
      rw [if_pos (by omega), if_pos (by omega), rd26 hlt, show wrap64 ((i : Int) + 1) = ((i + 1 : Nat) : Int) by unfold wrap64; omega]
    refine Ev.step hs (Ev.bind (f := fun k t112 => (if t112 > (m : Int) then (sloperef3_Cover.l1 k acc ((List.range n).map p) c (i : Int) t112 ((i + 1 : Nat) : Int) (n : Int) l) else (sloperef3_Cover.l1 k acc ((List.range n).map p) c b (m : Int) ((i + 1 : Nat) : Int) (n : Int) l))) hf ?_)
    by_cases hm : m < gain n p l[i]
    · refine Ev.congr (fun k => by rw [if_pos (by omega)]) (ih (i + 1) (gain n p l[i]) (i : Int) (by omega) (fun b' m' h => hr b' m' ?_))
      rw [if_pos hm]; exact h
    · refine Ev.congr (fun k => by rw [if_neg (by omega)]) (ih (i + 1) m b (by omega) (fun b' m' h => hr b' m' ?_))
      rw [if_neg hm]; exact h
theorem rcover_l2 (n : Nat) (hn : n ≤ 4096) (l : List S26) (hl : l.length ≤ 9223372036854775807) {j : Nat} (hj : j < l.length) (ht : Tab n l) (p : Nat → Bool) (acc : List Int) (c : Int) (r : List Int × Int)
    (hr : Ev (fun k => sloperef3_Cover.l0 k acc ((List.range n).map (fun e => p e && !hb l[j].f1 e)) c (n : Int) l) r) :
    Ev (fun k => sloperef3_Cover.l2 k acc ((List.range n).map p) c (j : Int) 0 (n : Int) l) r := by
  obtain ⟨h0, h1, h2, h3⟩ := ht l[j] (List.getElem_mem hj)
  have key : ∀ d i : Nat, i + d = n → Ev (fun k => sloperef3_Cover.l2 k acc ((List.range n).map (fun e => if e < i then p e && !hb l[j].f1 e else p e)) c (j : Int) (i : Int) (n : Int) l) r := by
    intro d
    induction d with
    | zero =>
      intro i hi
      have e1 : (List.range n).map (fun e => if e < i then p e && !hb l[j].f1 e else p e) = (List.range n).map (fun e => p e && !hb l[j].f1 e) := by
        apply List.map_congr_left
        intro e he
        have := List.mem_range.1 he
        rw [if_pos (by omega)]
      rw [e1]
      refine Ev.step (fun k => ?_) hr
      conv => lhs; rw [sloperef3_Cover.l2]
      rw [if_neg (by omega)]
    | succ d ih =>
      intro i hi
      have h4 := ih (i + 1) (by omega)
      have hIn := In_eq (n := (n : Int)) (e := i) h1 (by omega) (by omega)
      refine Ev.step (fun k => ?_) h4
      conv => lhs; rw [sloperef3_Cover.l2]
      rw [if_pos (by omega), if_pos (by omega), if_pos (by omega), rd26 hj, h0, hIn, Option.bind_some, show wrap64 ((i : Int) + 1) = ((i + 1 : Nat) : Int) by unfold wrap64; omega]
      by_cases hx : hb l[j].f1 i = true
      · rw [if_pos hx, if_pos (by omega), if_pos (by simp; omega), Int.toNat_natCast]
        congr 1
        apply List.ext_getElem (by simp)
        intro e h5 h6
        rw [List.getElem_set]
        simp only [List.getElem_map, List.getElem_range]
        by_cases he : i = e
        · subst he; rw [if_pos rfl, if_pos (by omega), hx]; simp
        · rw [if_neg he]
          by_cases h7 : e < i
          · rw [if_pos h7, if_pos (by omega)]
          · rw [if_neg h7, if_neg (by omega)]
      · rw [if_neg hx]
        congr 1
        apply List.map_congr_left
        intro e he
        by_cases h7 : e < i
        · rw [if_pos h7, if_pos (by omega)]
        · rw [if_neg h7]
          by_cases h8 : e < i + 1
          · have h9 : e = i := by omega
            subst h9
            rw [if_pos h8]
            cases h10 : hb l[j].f1 e
            · simp
            · exact absurd h10 hx
          · rw [if_neg h8]
  have h4 := key n 0 (by omega)
  have e1 : (List.range n).map (fun e => if e < 0 then p e && !hb l[j].f1 e else p e) = (List.range n).map p := by
    apply List.map_congr_left
    intro e _
    rw [if_neg (by omega)]
  rw [e1] at h4
  exact h4
theorem gain_pos {n : Nat} {p : Nat → Bool} {x : S26} {e : Nat} (he : e < n) (hp : p e = true) (hx : hb x.f1 e = true) : 0 < gain n p x := by
  unfold gain
  rw [List.countP_pos_iff]
  exact ⟨e, List.mem_range.2 he, by rw [hp, hx]; rfl⟩
theorem size_pos {n : Nat} {p : Nat → Bool} : 0 < size_ n p ↔ ∃ e, e < n ∧ p e = true := by
  unfold size_
  rw [List.countP_pos_iff]
  exact ⟨fun ⟨e, h1, h2⟩ => ⟨e, List.mem_range.1 h1, h2⟩, fun ⟨e, h1, h2⟩ => ⟨e, List.mem_range.2 h1, h2⟩⟩
theorem cover_loops (n : Nat) (hn : n ≤ 4096) (l : List S26) (ht : Tab n l) (hl : l.length ≤ 9223372036854775807) : ∀ (c : Nat) (p : Nat → Bool) (acc : List Int), size_ n p = c → acc.length + c ≤ 4096 →
    ∃ r, Ev (fun k => sloperef3_Cover.l0 k acc ((List.range n).map p) (c : Int) (n : Int) l) r ∧
      ((∀ e, e < n → p e = true → ∃ x ∈ l, hb x.f1 e = true) → r.2 = 0 ∧ ∀ ws, Is n p ws → Ev (fun k => bitset_Cover.l0 k acc (n : Int) l (n : Int) ws) r) ∧
      ((∃ e, e < n ∧ p e = true ∧ ∀ x ∈ l, hb x.f1 e = false) → r = ([], 321)) := by
  intro c
  induction c using Nat.strongRecOn with
  | _ c ih =>
    intro p acc hc ha
    by_cases h0 : c = 0
    · refine ⟨(acc, 0), Ev.step (f := fun _ => some (acc, 0)) (fun k => ?_) (Ev.now _), fun _ => ⟨rfl, fun ws hws => ?_⟩, fun ⟨e, h1, h2, _⟩ => ?_⟩
      · conv => lhs; rw [sloperef3_Cover.l0]
        rw [if_neg (by omega)]
      · have h1 := Count_eq hws.wds (hws.may hn)
        have h2 : cnt ws = 0 := by rw [hws.cnt]; exact hc.trans h0
        rw [h2] at h1
        refine Ev.step (f := fun k => (bitset_Count.f k (n : Int) ws).bind fun t113 => (if t113 > 0 then (bitset_Cover.l1 k acc 0 0 l (l.length : Int) 0 (n : Int) l (n : Int) ws) else (some (acc, 0)))) (fun k => ?_) (Ev.bind (f := fun k t113 => (if t113 > 0 then (bitset_Cover.l1 k acc 0 0 l (l.length : Int) 0 (n : Int) l (n : Int) ws) else (some (acc, 0)))) h1 (Ev.const fun k => ?_))
        · rw [bitset_Cover.l0]
        · rw [if_neg (by omega)]
      · have := size_pos.2 ⟨e, h1, h2⟩
        omega
    · have hs : ∀ r, (∀ b' m', scan n p (l.drop 0) 0 (-1) 0 = (b', m') → Ev (fun k => if b' < 0 then (some (([] : List Int), 321)) else (if acc.length < 17592186044416 then (sloperef3_Cover.l2 k (acc ++ [b']) ((List.range n).map p) (wrap64 ((c : Int) - (m' : Int))) b' 0 (n : Int) l) else (none))) r) → Ev (fun k => sloperef3_Cover.l0 k acc ((List.range n).map p) (c : Int) (n : Int) l) r := by
        intro r hr
        refine Ev.step (fun k => ?_) (rcover_l1 n hn l ht hl p acc (c : Int) r l.length 0 0 (-1) (by omega) hr)
        conv => lhs; rw [sloperef3_Cover.l0]
        rw [if_pos (by omega)]; rfl
      rw [List.drop_zero] at hs
      rcases scan_says n p l 0 (-1) 0 with ⟨h1, h2⟩ | ⟨j, hj, h1, h2⟩
      · refine ⟨([], 321), hs _ (fun b' m' h => ?_), fun hcov => ?_, fun _ => rfl⟩
        · rw [h1] at h
          cases h
          exact Ev.const fun k => by rw [if_pos (by omega)]
        · obtain ⟨e, h3, h4⟩ := size_pos.1 (show 0 < size_ n p by omega)
          obtain ⟨x, h5, h6⟩ := hcov e h3 h4
          have := gain_pos h3 h4 h6
          have := h2 x h5
          omega
      · have hsz := size_less n p l[j]
        obtain ⟨r, h3, h4, h5⟩ := ih (size_ n (fun e => p e && !hb l[j].f1 e)) (by omega) (fun e => p e && !hb l[j].f1 e) (acc ++ [((j : Nat) : Int)]) rfl (by rw [List.length_append]; simp only [List.length_cons, List.length_nil]; omega)
        rw [Nat.zero_add] at h1
        refine ⟨r, hs r (fun b' m' h => ?_), fun hcov => ?_, fun ⟨e, k1, k2, k3⟩ => h5 ⟨e, k1, by rw [k2, k3 _ (List.getElem_mem hj)]; rfl, k3⟩⟩
        · rw [h1] at h
          cases h
          refine Ev.congr (f := fun k => sloperef3_Cover.l2 k (acc ++ [((j : Nat) : Int)]) ((List.range n).map p) ((size_ n (fun e => p e && !hb l[j].f1 e) : Nat) : Int) ((j : Nat) : Int) 0 (n : Int) l) (fun k => ?_) (rcover_l2 n hn l hl hj ht p _ _ r h3)
          rw [if_neg (by omega), if_pos (by omega)]
          congr 1
          rw [w64_nat (by omega) (by omega)]; omega
        · obtain ⟨k1, k2⟩ := h4 (fun e he hp => hcov e he (by revert hp; cases p e <;> simp))
          refine ⟨k1, fun ws hws => ?_⟩
          have g1 := Count_eq hws.wds (hws.may hn)
          have g2 : cnt ws = c := by rw [hws.cnt]; exact hc
          rw [g2] at g1
          refine Ev.step (f := fun k => (bitset_Count.f k (n : Int) ws).bind fun t113 => (if t113 > 0 then (bitset_Cover.l1 k acc 0 0 l (l.length : Int) 0 (n : Int) l (n : Int) ws) else (some (acc, 0)))) (fun k => ?_) (Ev.bind (f := fun k t113 => (if t113 > 0 then (bitset_Cover.l1 k acc 0 0 l (l.length : Int) 0 (n : Int) l (n : Int) ws) else (some (acc, 0)))) g1
            (Ev.congr (f := fun k => bitset_Cover.l1 k acc 0 ((0 : Nat) : Int) l (l.length : Int) ((0 : Nat) : Int) (n : Int) l (n : Int) ws) (fun k => ?_) (cover_l1 n hn l ht hl p ws hws acc r l.length 0 0 0 (by omega) (fun b' m' h => ?_))))
          · rw [bitset_Cover.l0]
          · rw [if_pos (by omega)]; rfl
          · rw [List.drop_zero] at h
            have h6 : scan n p l 0 0 0 = (((j : Nat) : Int), gain n p l[j]) := by
              rcases scan_two n p l 0 0 (-1) 0 with g3 | ⟨_, g3⟩
              · rw [g3, h1]
              · rw [h1] at g3
                cases g3
            rw [h6] at h
            cases h
            obtain ⟨u0, u1, u2, u3⟩ := ht l[j] (List.getElem_mem hj)
            obtain ⟨q, t1, t2⟩ := Minus_eq (n : Int) ws (n : Int) l[j].f1 hws.wds u1 (by have := hws.len; omega) (by omega)
            obtain ⟨vs, v1, rfl⟩ : ∃ vs, Is n (fun e => p e && !hb l[j].f1 e) vs ∧ q = ((n : Int), vs, 0) := by
              rcases t1 with ⟨t1, _⟩ | ⟨_, _, ⟨t1, _⟩ | ⟨_, us, w1, rfl⟩⟩
              · exact absurd ⟨hws.may hn, u3⟩ t1
              · exact absurd rfl t1
              · refine ⟨us, ?_, rfl⟩
                rw [Int.toNat_natCast] at w1
                refine w1.congr fun e he => ?_
                rw [hws.has]; simp [he]
            refine Ev.congr (f := fun k => (bitset_Minus.f k (n : Int) ws (n : Int) l[j].f1).bind fun bt118 => (bitset_Cover.l0 k (acc ++ [((j : Nat) : Int)]) (n : Int) l bt118.1 bt118.2.1)) (fun k => ?_) (Ev.bind (f := fun k bt118 => (bitset_Cover.l0 k (acc ++ [((j : Nat) : Int)]) (n : Int) l bt118.1 bt118.2.1)) t2 (k2 vs v1))
            rw [if_pos (by omega), if_pos (by omega), if_pos (by omega), rd26 hj, u0]
theorem rElements_l0 (n : Nat) (hn : n ≤ 4096) (ws : List Int) (hw : Wds ws) (hl : ws.length = (n + 63) / 64) : ∀ (d i : Nat) (acc : List Int), i + d = n → acc.length ≤ i → Ev (fun k => sloperef3_Elements.l0 k acc (i : Int) (n : Int) ws) (acc ++ (((List.range d).map (fun e => i + e)).filter (hb ws)).map (fun e : Nat => (e : Int))) := by
  intro d
  induction d with
  | zero =>
    intro i acc hi ha
    refine ⟨1, fun k hk => ?_⟩
    obtain ⟨k, rfl⟩ : ∃ m, k = m + 1 := ⟨k - 1, by omega⟩
    simp only [sloperef3_Elements.l0]
    rw [if_neg (by omega)]
    simp
  | succ d ih =>
    intro i acc hi ha
    have hIn := In_eq (n := (n : Int)) (e := i) hw (by omega) (by omega)
    have hsp : (List.range (d + 1)).map (fun e => i + e) = i :: (List.range d).map (fun e => i + 1 + e) := by
      rw [List.range_succ_eq_map, List.map_cons, List.map_map, Nat.add_zero]
      congr 1
      apply List.map_congr_left
      intro e _
      simp only [Function.comp]
      omega
    rw [hsp, List.filter_cons]
    by_cases hx : hb ws i = true
    · rw [if_pos hx, List.map_cons]
      have h1 := ih (i + 1) (acc ++ [(i : Int)]) (by omega) (by rw [List.length_append]; simp only [List.length_cons, List.length_nil]; omega)
      rw [List.append_assoc] at h1
      refine Ev.step (fun k => ?_) h1
      conv => lhs; rw [sloperef3_Elements.l0]
      rw [if_pos (by omega), hIn, Option.bind_some, if_pos hx, if_pos (by omega), show wrap64 ((i : Int) + 1) = ((i + 1 : Nat) : Int) by unfold wrap64; omega]
    · rw [if_neg hx]
      refine Ev.step (fun k => ?_) (ih (i + 1) acc (by omega) (by omega))
      conv => lhs; rw [sloperef3_Elements.l0]
      rw [if_pos (by omega), hIn, Option.bind_some, if_neg hx, show wrap64 ((i : Int) + 1) = ((i + 1 : Nat) : Int) by unfold wrap64; omega]
theorem rElements_eq {n : Nat} {ws : List Int} (hw : Wds ws) (h : MayP (n : Int) ws) : Ev (fun k => sloperef3_Elements.f k (n : Int) ws) (((List.range n).filter (hb ws)).map (fun e : Nat => (e : Int))) := by
  have hlen : ws.length = (n + 63) / 64 := by simpa using h.2.2.1
  have h1 := rElements_l0 n (by have := h.2.1; omega) ws hw hlen n 0 [] (by omega) (by simp)
  have e1 : (List.range n).map (fun e => 0 + e) = List.range n := by
    have : (fun e : Nat => 0 + e) = fun e => e := by funext e; omega
    rw [this, List.map_id']
  rw [e1, List.nil_append] at h1
  have h41 := h.2.1
  have hm := rMay_eq (n : Int) ws hw (by omega)
  rw [may_true.2 h] at hm
  exact Ev.bind (f := fun k t102 => (if t102 = true then (sloperef3_Elements.l0 k ([] : List Int) 0 (n : Int) ws) else (some ([] : List Int)))) hm (Ev.congr (fun k => by rw [if_pos rfl]; rfl) h1)
set_option maxHeartbeats 4000000 in
theorem Cover_alike (n : Int) (l : List S26) (m : Int) (s : List Int) (hl : l.length ≤ 9223372036854775807) (hg : Goods l) (hw : Wds s) (hs : s.length ≤ 9223372036854775807) : ∃ r, Ev (fun k => bitset_Cover.f k n l m s) r ∧ Ev (fun k => sloperef3_Cover.f k n l m s) r := by
  have t1 := MayTable_eq n l hl hg
  have t2 := rMayTable_eq n l hl hg
  have m1 := May_eq m s hw hs
  have m2 := rMay_eq m s hw hs
  have bj : Ev (fun k => bitset_Cover.j0 k true n l m s) ([], 61) := Ev.step (f := fun _ => some ([], 61)) (fun k => by rw [bitset_Cover.j0]; rw [if_pos rfl]) (Ev.now _)
  have rj : Ev (fun k => sloperef3_Cover.j0 k [] true n l m s) ([], 61) := Ev.step (f := fun _ => some ([], 61)) (fun k => by rw [sloperef3_Cover.j0]; rw [if_pos rfl]) (Ev.now _)
  have kb : ∀ r, Ev (fun k => if tabp n l = true then (bitset_Cover.j0 k (!(may m s)) n l m s) else (bitset_Cover.j0 k true n l m s)) r → Ev (fun k => bitset_Cover.f k n l m s) r := fun r h =>
    Ev.bind (f := fun k t103 => (if t103 = true then ((bitset_May.f m s).bind fun t104 => (bitset_Cover.j0 k (!t104) n l m s)) else (bitset_Cover.j0 k true n l m s))) t1 (Ev.congr (fun k => by rw [m1, Option.bind_some]) h)
  have kr : ∀ r, Ev (fun k => if tabp n l = true then ((sloperef3_May.f k m s).bind fun t104 => (sloperef3_Cover.j0 k ([] : List Int) (!t104) n l m s)) else (sloperef3_Cover.j0 k ([] : List Int) true n l m s)) r → Ev (fun k => sloperef3_Cover.f k n l m s) r := fun r h =>
    Ev.bind (f := fun k t103 => (if t103 = true then ((sloperef3_May.f k m s).bind fun t104 => (sloperef3_Cover.j0 k ([] : List Int) (!t104) n l m s)) else (sloperef3_Cover.j0 k ([] : List Int) true n l m s))) t2 h
  by_cases ht : TabP n l
  · have kb2 : ∀ r, Ev (fun k => bitset_Cover.j0 k (!(may m s)) n l m s) r → Ev (fun k => bitset_Cover.f k n l m s) r := fun r h => kb r (Ev.congr (fun k => by rw [tabp_true.2 ht, if_pos rfl]) h)
    have kr2 : ∀ r, Ev (fun k => sloperef3_Cover.j0 k [] (!(may m s)) n l m s) r → Ev (fun k => sloperef3_Cover.f k n l m s) r := fun r h => kr r (Ev.congr (f := fun k => (sloperef3_May.f k m s).bind fun t104 => (sloperef3_Cover.j0 k ([] : List Int) (!t104) n l m s)) (fun k => by rw [tabp_true.2 ht, if_pos rfl]) (Ev.bind (f := fun k t104 => (sloperef3_Cover.j0 k ([] : List Int) (!t104) n l m s)) m2 h))
    by_cases hm : MayP m s
    · rw [may_true.2 hm] at kb2 kr2
      by_cases hnm : n = m
      · subst hnm
        obtain ⟨N, rfl⟩ := Int.eq_ofNat_of_zero_le ht.1
        have hN : N ≤ 4096 := by have := ht.2.1; omega
        have hT : Tab N l := fun x hx => by
          obtain ⟨a1, a2⟩ := ht.2.2.2 x hx
          unfold MayS at a1
          rw [a2] at a1
          exact ⟨a2, (hg x hx).1, by simpa using a1.2.2.1, a1⟩
        obtain ⟨r, h1, h2, h3⟩ := cover_loops N hN l hT hl (size_ N (hb s)) (hb s) [] rfl (by
          have : size_ N (hb s) ≤ N := by
            have := List.countP_le_length (p := hb s) (l := List.range N)
            rw [List.length_range] at this
            exact this
          simp only [List.length_nil]; omega)
        have hE := rElements_eq hw hm
        have hL := List_eq hm hw
        have hlen : ((((List.range N).filter (hb s)).map (fun e : Nat => (e : Int))).length : Int) = ((size_ N (hb s) : Nat) : Int) := by
          rw [List.length_map, ← List.countP_eq_length_filter]; rfl
        refine ⟨r, kb2 r ?_, kr2 r ?_⟩
        · obtain ⟨q, u1, u2⟩ := Union_eq (N : Int) l hl hg
          obtain ⟨us, u3, rfl⟩ : ∃ us, Is N (manyb false l) us ∧ q = ((N : Int), us, 0) := by
            rcases u1 with ⟨e, e1, e2, _⟩ | ⟨_, us, u3, rfl⟩
            · exact absurd (e2.eq (.inr (.inr ⟨rfl, fun x hx => (ht.2.2.2 x hx).1, fun x hx => (ht.2.2.2 x hx).2, ht.1, ht.2.1⟩))) e1
            · exact ⟨us, by simpa using u3, rfl⟩
          have hS := Subset_eq (N : Int) s (N : Int) us hw u3.wds hs (by have := u3.len; omega)
          refine Ev.step (f := fun k => (bitset_Union.f k (N : Int) l).bind fun bt105 => ((bitset_Subset.f k (N : Int) s bt105.1 bt105.2.1).bind fun t111 => (if t111 = true then (bitset_Cover.l0 k ([] : List Int) (N : Int) l (N : Int) s) else (some (([] : List Int), 321))))) (fun k => ?_) (Ev.bind (f := fun k bt105 => ((bitset_Subset.f k (N : Int) s bt105.1 bt105.2.1).bind fun t111 => (if t111 = true then (bitset_Cover.l0 k ([] : List Int) (N : Int) l (N : Int) s) else (some (([] : List Int), 321))))) u2
            (Ev.bind (f := fun k t111 => (if t111 = true then (bitset_Cover.l0 k ([] : List Int) (N : Int) l (N : Int) s) else (some (([] : List Int), 321)))) hS ?_))
          · rw [bitset_Cover.j0]
            rw [if_neg (by simp), if_pos rfl]
          · by_cases hsub : NoneP (fun x y => x && !y) (N : Int) s (N : Int) us
            · rw [nonep_true.2 hsub]
              obtain ⟨_, h4⟩ := h2 (fun e he hp => by
                have h5 := hsub.2.2.2 e
                dsimp only at h5
                rw [hp, u3.has, decide_eq_true he] at h5
                have h6 : manyb false l e = true := by revert h5; cases manyb false l e <;> simp
                unfold manyb at h6
                rw [if_neg (by simp), List.any_eq_true] at h6
                exact h6)
              refine Ev.congr (fun k => by rw [if_pos rfl]) (h4 s ?_)
              have := hm.is hw
              simpa using this
            · rw [← nonep_of (x := false) ⟨fun h => (by cases h), fun h => absurd h hsub⟩]
              have h4 : r = ([], 321) := h3 (by
                refine Classical.byContradiction fun hc => hsub ⟨hm, u3.may hN, rfl, fun d => ?_⟩
                dsimp only
                cases h5 : hb s d
                · rfl
                · have hd : d < N := by
                    refine Classical.byContradiction fun h6 => ?_
                    have := hm.2.2.2 d (by rw [Int.toNat_natCast]; omega)
                    rw [this] at h5; cases h5
                  rw [u3.has, decide_eq_true hd]
                  cases h7 : manyb false l d
                  · refine absurd ⟨d, hd, h5, fun x hx => ?_⟩ hc
                    unfold manyb at h7
                    rw [if_neg (by simp), List.any_eq_false] at h7
                    have := h7 x hx
                    simpa using this
                  · rfl)
              rw [h4]
              exact Ev.const fun k => by rw [if_neg (by simp)]
        · refine Ev.step (f := fun k => (sloperef3_List.f k (N : Int) s).bind fun t105 => ((sloperef3_Elements.f k (N : Int) s).bind fun t108 => (sloperef3_Cover.l0 k [] t105 (t108.length : Int) (N : Int) l))) (fun k => ?_) (Ev.bind (f := fun k t105 => ((sloperef3_Elements.f k (N : Int) s).bind fun t108 => (sloperef3_Cover.l0 k [] t105 (t108.length : Int) (N : Int) l))) hL (Ev.bind (f := fun k t108 => (sloperef3_Cover.l0 k [] ((List.range N).map (hb s)) (t108.length : Int) (N : Int) l)) hE (Ev.congr (fun k => ?_) h1)))
          · rw [sloperef3_Cover.j0]
            rw [if_neg (by simp), if_pos rfl]
          · rw [hlen]
      · refine ⟨([], 60), kb2 _ (Ev.step (f := fun _ => some ([], 60)) (fun k => ?_) (Ev.now _)), kr2 _ (Ev.step (f := fun _ => some ([], 60)) (fun k => ?_) (Ev.now _))⟩
        · rw [bitset_Cover.j0]
          rw [if_neg (by simp), if_neg hnm]
        · rw [sloperef3_Cover.j0]
          rw [if_neg (by simp), if_neg hnm]
    · rw [may_false.2 hm] at kb2 kr2
      exact ⟨_, kb2 _ bj, kr2 _ rj⟩
  · exact ⟨_, kb _ (Ev.congr (fun k => by rw [tabp_false.2 ht, if_neg (by simp)]) bj), kr _ (Ev.congr (fun k => by rw [tabp_false.2 ht, if_neg (by simp)]) rj)⟩
end Go.Proofs.Ytjmkhdhffmlhiaa.PAll
end
