import Derived.Test.YtjmkhdhffmlhiaaDoorBzBitProducts4
import Derived.Test.YtjmkhdhffmlhiaaDoorBzBitProducts5
import Derived.Test.YtjmkhdhffmlhiaaDoorBzBitProducts2
import Derived.Lib.Hide
import Derived.StillTailTactics
import Derived.Sort.CutIn
section
namespace Go.Proofs.YtjmkhdhffmlhiaaDoor.PAll
set_option linter.unusedVariables false
set_option linter.unusedSimpArgs false
open Go.RowKit Go.Proofs.YtjmkhdhffmlhiaaDoorW.PrintWords Go.Proofs.YtjmkhdhffmlhiaaDoorW.PrintMore
theorem ev_r {α : Type} {g : Nat → Option α} {r s : α} (h : Ev g r) (e : r = s) : Ev g s := e ▸ h
def fl (n : Nat) (f : Nat → Bool) : List Bool := (List.range n).map f
theorem fl_len (n : Nat) (f : Nat → Bool) : (fl n f).length = n := by simp [fl]
theorem fl_congr {n : Nat} {f g : Nat → Bool} (h : ∀ e, e < n → f e = g e) : fl n f = fl n g := by
  unfold fl
  exact List.map_congr_left fun e he => h e (List.mem_range.1 he)
theorem fl_none (n : Nat) : List.replicate n false = fl n fun _ => false := by
  refine List.ext_getElem (by simp [fl]) fun j h1 h2 => ?_
  simp [fl]
theorem fl_set (n : Nat) (f : Nat → Bool) (i : Nat) (b : Bool) : (fl n f).set i b = fl n fun e => if e = i then b else f e := by
  refine List.ext_getElem (by simp [fl]) fun j h1 h2 => ?_
  rw [List.getElem_set]
  simp only [fl, List.getElem_map, List.getElem_range]
  by_cases h : i = j
  · subst h; simp
  · rw [if_neg h, if_neg (fun e => h e.symm)]
theorem fl_rd {n i : Nat} (f : Nat → Bool) (hi : i < n) : rdOf false (fl n f) (i : Int) = f i := by
  simp [rdOf, fl, List.getD_eq_getElem?_getD, hi]
theorem wi {i n : Nat} (hn : n ≤ 4096) (hi : i < n) : wrap64 ((i : Int) + 1) = ((i + 1 : Nat) : Int) := by rw [w64_nat (by omega) (by omega)]; omega
theorem in_is {n : Nat} (hn : n ≤ 4096) {q : Nat → Bool} {ws : List Int} (h : Is n q ws) {i : Nat} (hi : i < n) : sloperef3_In.f (n : Int) ws (i : Int) = some (q i) := by
  rw [In_eq h.wds (by have := h.len; omega) (by omega), h.has i]
  simp [hi]
theorem add_l0 {n : Nat} (hn : n ≤ 4096) {q : Nat → Bool} {ws : List Int} (h : Is n q ws) : ∀ (d i : Nat) (f : Nat → Bool), i + d = n →
    Ev (fun k => sloperef3_add.l0 k (fl n f) (i : Int) (n : Int) ws) (fl n fun e => f e || (decide (i ≤ e) && q e))
  | 0, i, f, hi => by
    refine ⟨1, fun k hk => ?_⟩
    obtain ⟨k, rfl⟩ : ∃ j, k = j + 1 := ⟨k - 1, by omega⟩
    show sloperef3_add.l0 (k + 1) (fl n f) (i : Int) (n : Int) ws = _
    rw [sloperef3_add.l0, if_neg (by omega)]
    refine congrArg some (fl_congr fun e he => ?_)
    have : ¬ i ≤ e := by omega
    simp [this]
  | d + 1, i, f, hi => by
    have hin : i < n := by omega
    cases hq : q i with
    | true =>
      refine Ev.step (fun k => ?_) (ev_r (add_l0 hn h d (i + 1) (fun e => if e = i then true else f e) (by omega)) (fl_congr fun e he => ?_))
      · rw [sloperef3_add.l0, if_pos (by omega), in_is hn h hin, hq, Option.bind_some, if_pos rfl, if_pos (by omega), if_pos (by rw [fl_len]; omega), Int.toNat_natCast, fl_set, wi hn hin]
      · by_cases h1 : e = i
        · subst h1; simp [hq]
        · have h2 : (decide (i + 1 ≤ e)) = decide (i ≤ e) := by rw [decide_eq_decide]; omega
          rw [if_neg h1, h2]
    | false =>
      refine Ev.step (fun k => ?_) (ev_r (add_l0 hn h d (i + 1) f (by omega)) (fl_congr fun e he => ?_))
      · rw [sloperef3_add.l0, if_pos (by omega), in_is hn h hin, hq, Option.bind_some, if_neg (by decide), wi hn hin]
      · by_cases h1 : e = i
        · subst h1; simp [hq]
        · have h2 : (decide (i + 1 ≤ e)) = decide (i ≤ e) := by rw [decide_eq_decide]; omega
          rw [h2]
theorem add_ev {n : Nat} (hn : n ≤ 4096) {q : Nat → Bool} {ws : List Int} (h : Is n q ws) (f : Nat → Bool) : Ev (fun k => sloperef3_add.f k (fl n f) (n : Int) ws) (fl n fun e => f e || q e) :=
  Ev.congr (fun k => rfl) (ev_r (add_l0 hn h n 0 f (by omega)) (fl_congr fun e he => by simp))
theorem of_fl {n : Nat} (hn : n ≤ 4096) (f : Nat → Bool) : ∃ ws, Is n f ws ∧ Ev (fun k => sloperef3_Of.f k (fl n f)) ((n : Int), ws) := by
  obtain ⟨ws, h1, h2⟩ := Of_eq (fl n f) (by rw [fl_len]; exact hn)
  rw [fl_len] at h1 h2
  refine ⟨ws, h1.congr fun e he => ?_, h2⟩
  simp [fl, List.getD_eq_getElem?_getD, he]
theorem any_from {r i : Nat} (hi : i < r) (g : Nat → Bool) : ((List.range r).any fun z => decide (i ≤ z) && g z) = (g i || (List.range r).any fun z => decide (i + 1 ≤ z) && g z) := by
  rw [Bool.eq_iff_iff, Bool.or_eq_true, List.any_eq_true, List.any_eq_true]
  constructor
  · rintro ⟨z, hz, h⟩
    rw [Bool.and_eq_true, decide_eq_true_iff] at h
    by_cases h1 : z = i
    · subst h1; exact .inl h.2
    · exact .inr ⟨z, hz, by rw [Bool.and_eq_true, decide_eq_true_iff]; exact ⟨by omega, h.2⟩⟩
  · rintro (h | ⟨z, hz, h⟩)
    · exact ⟨i, List.mem_range.2 hi, by rw [Bool.and_eq_true, decide_eq_true_iff]; exact ⟨Nat.le_refl _, h⟩⟩
    · rw [Bool.and_eq_true, decide_eq_true_iff] at h
      exact ⟨z, hz, by rw [Bool.and_eq_true, decide_eq_true_iff]; exact ⟨by omega, h.2⟩⟩
theorem any_none {r i : Nat} (hi : r ≤ i) (g : Nat → Bool) : ((List.range r).any fun z => decide (i ≤ z) && g z) = false := by
  rw [Bool.eq_false_iff]
  intro h
  obtain ⟨z, hz, h⟩ := List.any_eq_true.1 h
  rw [Bool.and_eq_true, decide_eq_true_iff] at h
  have := List.mem_range.1 hz
  omega
theorem refProduct_l1 {n r m : Nat} (hn : n ≤ 4096) (hr : r ≤ 4096) (hm : m ≤ 4096) {p q : Nat → Nat → Bool} {l lb acc : List S24} (hl : RowsAre n r p l) (hb1 : RowsAre r m q lb) {x : Nat} (hx : x < n) {R : Int × List S24 × Int} : ∀ (d i : Nat) (f : Nat → Bool), i + d = r →
    Ev (fun k => sloperef3_Product.l1 k (x : Int) (fl m fun e => f e || (List.range r).any fun z => decide (i ≤ z) && (p x z && q z e)) (r : Int) (r : Int) l (m : Int) lb (m : Int) acc) R →
    Ev (fun k => sloperef3_Product.l1 k (x : Int) (fl m f) (i : Int) (r : Int) l (m : Int) lb (m : Int) acc) R
  | 0, i, f, hi, hR => by
    obtain rfl : i = r := by omega
    refine Ev.congr (fun k => ?_) hR
    rw [fl_congr (f := fun e => f e || (List.range i).any fun z => decide (i ≤ z) && (p x z && q z e)) (g := f) (fun e he => by rw [any_none (Nat.le_refl _)]; simp)]
  | d + 1, i, f, hi, hR => by
    have hir : i < r := by omega
    obtain ⟨l1, l2⟩ := hl.row hx
    obtain ⟨b1, b2⟩ := hb1.row hir
    cases hp : p x i with
    | true =>
      have ih := refProduct_l1 hn hr hm hl hb1 hx (R := R) d (i + 1) (fun e => f e || q i e) (by omega) (by
        refine Ev.congr (fun k => ?_) hR
        rw [fl_congr (fun e he => ?_)]
        rw [any_from hir, hp, Bool.true_and, Bool.or_assoc])
      refine Ev.step (f := fun k => (sloperef3_add.f k (fl m f) (m : Int) (rd_T24 lb (i : Int)).f1).bind fun t => sloperef3_Product.l1 k (x : Int) t ((i + 1 : Nat) : Int) (r : Int) l (m : Int) lb (m : Int) acc) (fun k => ?_) (Ev.bind (add_ev hm b2 f) ih)
      rw [sloperef3_Product.l1, if_pos (by omega), if_pos (by omega), if_pos (by rw [hl.1]; omega), l1, in_is hr l2 hir, hp, Option.bind_some, if_pos rfl, if_pos (by omega), if_pos (by rw [hb1.1]; omega), b1, wi hr hir]
    | false =>
      have ih := refProduct_l1 hn hr hm hl hb1 hx (R := R) d (i + 1) f (by omega) (by
        refine Ev.congr (fun k => ?_) hR
        rw [fl_congr (fun e he => ?_)]
        rw [any_from hir, hp, Bool.false_and, Bool.false_or])
      refine Ev.step (fun k => ?_) ih
      rw [sloperef3_Product.l1, if_pos (by omega), if_pos (by omega), if_pos (by rw [hl.1]; omega), l1, in_is hr l2 hir, hp, Option.bind_some, if_neg (by decide), wi hr hir]
theorem refProduct_l0 {n r m : Nat} (hn : n ≤ 4096) (hr : r ≤ 4096) (hm : m ≤ 4096) {p q : Nat → Nat → Bool} {l lb : List S24} (hl : RowsAre n r p l) (hb1 : RowsAre r m q lb) : ∀ (d x : Nat) (acc : List S24), x + d = n → RowsAre x m (prodP r p q) acc →
    ∃ rows, RowsAre n m (prodP r p q) rows ∧ Ev (fun k => sloperef3_Product.l0 k (x : Int) (r : Int) l (m : Int) lb (m : Int) acc) ((m : Int), rows, 0)
  | 0, x, acc, hx, hA => by
    obtain rfl : x = n := by omega
    refine ⟨acc, hA, 1, fun k hk => ?_⟩
    obtain ⟨k, rfl⟩ : ∃ j, k = j + 1 := ⟨k - 1, by omega⟩
    show sloperef3_Product.l0 (k + 1) (x : Int) (r : Int) l (m : Int) lb (m : Int) acc = _
    rw [sloperef3_Product.l0, if_neg (by rw [hl.1]; omega)]
  | d + 1, x, acc, hx, hA => by
    have hxn : x < n := by omega
    obtain ⟨ws, hw, hO⟩ := of_fl hm (fun e => false || (List.range r).any fun z => decide (0 ≤ z) && (p x z && q z e))
    obtain ⟨rows, hR, hE⟩ := refProduct_l0 hn hr hm hl hb1 d (x + 1) (acc ++ [⟨(m : Int), ws⟩]) (by omega) (hA.snoc (hw.congr fun e he => by simp [prodP]))
    refine ⟨rows, hR, ?_⟩
    have h1 := refProduct_l1 hn hr hm hl hb1 hxn (acc := acc) (R := ((m : Int), rows, 0)) r 0 (fun _ => false) (by omega) (by
      refine Ev.step (f := fun k => (sloperef3_Of.f k (fl m fun e => false || (List.range r).any fun z => decide (0 ≤ z) && (p x z && q z e))).bind fun b => sloperef3_Product.l0 k ((x + 1 : Nat) : Int) (r : Int) l (m : Int) lb (m : Int) (acc ++ [⟨b.1, b.2⟩])) (fun k => ?_) (Ev.bind hO hE)
      rw [sloperef3_Product.l1, if_neg (by omega), wi hn hxn]
      refine congrArg _ (funext fun b => ?_)
      rw [if_pos (by rw [hA.1]; omega)])
    refine Ev.step (fun k => ?_) h1
    rw [sloperef3_Product.l0, if_pos (by rw [hl.1]; omega), if_pos (by omega), Int.toNat_natCast, if_pos (by omega), fl_none]
    rfl
theorem refProduct_rows {n r m : Nat} (hn : n ≤ 4096) (hr : r ≤ 4096) (hm : m ≤ 4096) {p q : Nat → Nat → Bool} {l lb : List S24} (hl : RowsAre n r p l) (hb1 : RowsAre r m q lb) : ∃ rows, RowsAre n m (prodP r p q) rows ∧ Ev (fun k => sloperef3_Product.f k (r : Int) l (m : Int) lb) ((m : Int), rows, 0) := by
  obtain ⟨hT, hg⟩ := hl.tab hn hr
  obtain ⟨hT2, hg2⟩ := hb1.tab hr hm
  obtain ⟨K1, h1⟩ := rMayTable_eq (r : Int) l (by rw [hl.1]; omega) hg
  obtain ⟨K2, h2⟩ := rMayTable_eq (m : Int) lb (by rw [hb1.1]; omega) hg2
  obtain ⟨rows, hR, K3, h3⟩ := refProduct_l0 hn hr hm hl hb1 n 0 [] (by omega) ⟨rfl, fun _ h => by cases h⟩
  refine ⟨rows, hR, K1 + K2 + K3 + 1, fun k hk => ?_⟩
  obtain ⟨k, rfl⟩ : ∃ j, k = j + 1 := ⟨k - 1, by omega⟩
  have y1 := h1 (k + 1) (by omega)
  have y2 := h2 (k + 1) (by omega)
  have y3 := h3 k (by omega)
  dsimp only at y1 y2 y3
  show sloperef3_Product.f (k + 1) (r : Int) l (m : Int) lb = _
  unfold sloperef3_Product.f
  rw [y1, tabp_true.2 hT, Option.bind_some, if_pos rfl, y2, tabp_true.2 hT2, Option.bind_some, sloperef3_Product.j0, if_neg (by decide), if_pos (by rw [hb1.1])]
  exact y3
theorem refBoth_l1 {n : Nat} (hn : n ≤ 4096) {p : Nat → Nat → Bool} {l acc : List S24} (hl : RowsAre n n p l) {x : Nat} (hx : x < n) {R : Int × List S24 × Int} (hR : Ev (fun k => sloperef3_Both.l1 k (x : Int) (fl n fun e => p e x || p x e) (n : Int) (n : Int) l (n : Int) acc) R) :
    Ev (fun k => sloperef3_Both.l1 k (x : Int) (List.replicate n false) ((0 : Nat) : Int) (n : Int) l (n : Int) acc) R := by
  refine fill_loop n (fun e => p e x || p x e) (fun k inb i => sloperef3_Both.l1 k (x : Int) inb i (n : Int) l (n : Int) acc) R (fun k i inb hi hlen => ?_) hR
  obtain ⟨l1, l2⟩ := hl.row hx
  obtain ⟨b1, b2⟩ := hl.row hi
  conv => lhs; rw [sloperef3_Both.l1]
  rw [if_pos (by omega), if_pos (by omega), if_pos (by rw [hl.1]; omega), l1, in_is hn l2 hi, Option.bind_some]
  cases hp : p x i with
  | true => rw [if_pos rfl, if_pos (by omega), if_pos (by omega), Int.toNat_natCast, wi hn hi, Bool.or_true]
  | false => rw [if_neg (by decide), if_pos (by omega), if_pos (by rw [hl.1]; omega), b1, in_is hn b2 hx, Option.bind_some, if_pos (by omega), Int.toNat_natCast, wi hn hi, Bool.or_false]
theorem refBoth_l0 {n : Nat} (hn : n ≤ 4096) {p : Nat → Nat → Bool} {l : List S24} (hl : RowsAre n n p l) : ∀ (d x : Nat) (acc : List S24), x + d = n → RowsAre x n (fun x e => p e x || p x e) acc →
    ∃ rows, RowsAre n n (fun x e => p e x || p x e) rows ∧ Ev (fun k => sloperef3_Both.l0 k (x : Int) (n : Int) l (n : Int) acc) ((n : Int), rows, 0)
  | 0, x, acc, hx, hA => by
    obtain rfl : x = n := by omega
    refine ⟨acc, hA, 1, fun k hk => ?_⟩
    obtain ⟨k, rfl⟩ : ∃ j, k = j + 1 := ⟨k - 1, by omega⟩
    show sloperef3_Both.l0 (k + 1) (x : Int) (x : Int) l (x : Int) acc = _
    rw [sloperef3_Both.l0, if_neg (by omega)]
  | d + 1, x, acc, hx, hA => by
    have hxn : x < n := by omega
    obtain ⟨ws, hw, hO⟩ := of_fl hn (fun e => p e x || p x e)
    obtain ⟨rows, hR, hE⟩ := refBoth_l0 hn hl d (x + 1) (acc ++ [⟨(n : Int), ws⟩]) (by omega) (hA.snoc hw)
    refine ⟨rows, hR, ?_⟩
    have h1 := refBoth_l1 hn hl hxn (acc := acc) (R := ((n : Int), rows, 0)) (by
      refine Ev.step (f := fun k => (sloperef3_Of.f k (fl n fun e => p e x || p x e)).bind fun b => sloperef3_Both.l0 k ((x + 1 : Nat) : Int) (n : Int) l (n : Int) (acc ++ [⟨b.1, b.2⟩])) (fun k => ?_) (Ev.bind hO hE)
      rw [sloperef3_Both.l1, if_neg (by omega), wi hn hxn]
      refine congrArg _ (funext fun b => ?_)
      rw [if_pos (by rw [hA.1]; omega)])
    refine Ev.step (fun k => ?_) h1
    rw [sloperef3_Both.l0, if_pos (by omega), if_pos (by omega), Int.toNat_natCast, if_pos (by omega)]
    rfl
theorem refBoth_rows {n : Nat} (hn : n ≤ 4096) {p : Nat → Nat → Bool} {l : List S24} (hl : RowsAre n n p l) : ∃ rows, RowsAre n n (fun x e => p e x || p x e) rows ∧ Ev (fun k => sloperef3_Both.f k (n : Int) l) ((n : Int), rows, 0) := by
  obtain ⟨hT, hg⟩ := hl.tab hn hn
  obtain ⟨K1, h1⟩ := rMayTable_eq (n : Int) l (by rw [hl.1]; omega) hg
  obtain ⟨rows, hR, K3, h3⟩ := refBoth_l0 hn hl n 0 [] (by omega) ⟨rfl, fun _ h => by cases h⟩
  refine ⟨rows, hR, K1 + K3, fun k hk => ?_⟩
  have y1 := h1 k (by omega)
  have y3 := h3 k (by omega)
  dsimp only at y1 y3
  show sloperef3_Both.f k (n : Int) l = _
  unfold sloperef3_Both.f
  rw [y1, tabp_true.2 hT, Option.bind_some, if_pos rfl, if_pos (by rw [hl.1])]
  exact y3
def free (g : Nat → Bool) : Nat → Nat
  | 0 => 0
  | n + 1 => free g n + (bif g n then 0 else 1)
theorem free_le (g : Nat → Bool) (i : Nat) : ∀ n, free (fun e => if e = i then true else g e) n ≤ free g n
  | 0 => Nat.le_refl _
  | n + 1 => by
    have := free_le g i n
    show free (fun e => if e = i then true else g e) n + (bif (if n = i then true else g n) then 0 else 1) ≤ free g n + (bif g n then 0 else 1)
    by_cases h : n = i
    · rw [if_pos h]
      simp only [cond_true]
      omega
    · rw [if_neg h]
      omega
theorem free_lt {g : Nat → Bool} {i : Nat} (hg : g i = false) : ∀ {n}, i < n → free (fun e => if e = i then true else g e) n < free g n
  | n + 1, h => by
    show free (fun e => if e = i then true else g e) n + (bif (if n = i then true else g n) then 0 else 1) < free g n + (bif g n then 0 else 1)
    by_cases h1 : n = i
    · have := free_le g i n
      rw [if_pos h1, h1, hg] at *
      simp only [cond_true, cond_false]
      omega
    · have := free_lt (n := n) hg (by omega)
      rw [if_neg h1]
      omega
theorem way_min {p : Nat → Nat → Bool} {n i : Nat} {S : Nat → Bool} (h0 : ∀ y, y < n → p i y = true → S y = true) (hc : ∀ x y, x < n → y < n → S x = true → p x y = true → S y = true) : ∀ {k x y : Nat}, k ≤ n → (x = i ∨ (x < n ∧ S x = true)) → y < n → way p k x y = true → S y = true := by
  intro k
  induction k with
  | zero =>
    intro x y _ hx hy h
    rcases hx with rfl | ⟨h1, h2⟩
    · exact h0 y hy h
    · exact hc x y h1 hy h2 h
  | succ k ih =>
    intro x y hk hx hy h
    rw [way, Bool.or_eq_true, Bool.and_eq_true] at h
    rcases h with h | ⟨h1, h2⟩
    · exact ih (by omega) hx hy h
    · exact ih (by omega) (.inr ⟨by omega, ih (by omega) hx (by omega) h1⟩) hy h2
def Inv (n : Nat) (p : Nat → Nat → Bool) (i : Nat) (f g : Nat → Bool) : Prop := (∀ y, y < n → p i y = true → f y = true) ∧ (∀ e y, e < n → y < n → g e = true → p e y = true → f y = true) ∧ ∀ y, y < n → f y = true → way p n i y = true
theorem reached_pass {n : Nat} (hn : n ≤ 4096) {p : Nat → Nat → Bool} {l : List S24} (hl : RowsAre n n p l) {s : Nat} : ∀ (d i : Nat) (f g : Nat → Bool) (b : Bool), i + d = n → Inv n p s f g →
    ∃ f' g' b', Inv n p s f' g' ∧ (free g' n ≤ free g n ∧ ∀ e, g e = true → g' e = true) ∧ (b' = true → b = true ∨ free g' n < free g n) ∧ (b' = false → b = false ∧ (∀ e, e < n → f' e = f e) ∧ ∀ e, i ≤ e → e < n → f e = true → g' e = true) ∧
      ∀ R, Ev (fun k => sloperef3_Reached.l0 k (fl n f') (fl n g') b' (n : Int) l) R → Ev (fun k => sloperef3_Reached.l1 k (fl n f) (fl n g) b (i : Int) (n : Int) l) R
  | 0, i, f, g, b, hi, hI => by
    refine ⟨f, g, b, hI, ⟨Nat.le_refl _, fun _ h => h⟩, .inl, fun h => ⟨h, fun _ _ => rfl, fun e h1 h2 => by omega⟩, fun R hR => Ev.step (fun k => ?_) hR⟩
    rw [sloperef3_Reached.l1, if_neg (by omega)]
  | d + 1, i, f, g, b, hi, hI => by
    have hin : i < n := by omega
    obtain ⟨r1, r2⟩ := hl.row hin
    cases hf : f i with
    | false =>
      obtain ⟨f', g', b', h1, h2, h3, h4, h5⟩ := reached_pass hn hl d (i + 1) f g b (by omega) hI
      refine ⟨f', g', b', h1, h2, h3, fun hb1 => ⟨(h4 hb1).1, (h4 hb1).2.1, fun e he1 he2 he3 => ?_⟩, fun R hR => Ev.step (fun k => ?_) (h5 R hR)⟩
      · by_cases hei : e = i
        · subst hei; rw [hf] at he3; cases he3
        · exact (h4 hb1).2.2 e (by omega) he2 he3
      · rw [sloperef3_Reached.l1, if_pos (by omega), if_pos (by omega), if_pos (by rw [fl_len]; omega), fl_rd f hin, hf, if_neg (by decide), wi hn hin]
    | true =>
      cases hg : g i with
      | true =>
        obtain ⟨f', g', b', h1, h2, h3, h4, h5⟩ := reached_pass hn hl d (i + 1) f g b (by omega) hI
        refine ⟨f', g', b', h1, h2, h3, fun hb1 => ⟨(h4 hb1).1, (h4 hb1).2.1, fun e he1 he2 he3 => ?_⟩, fun R hR => Ev.step (fun k => ?_) (h5 R hR)⟩
        · by_cases hei : e = i
          · subst hei
            exact h2.2 _ hg
          · exact (h4 hb1).2.2 e (by omega) he2 he3
        · rw [sloperef3_Reached.l1, if_pos (by omega), if_pos (by omega), if_pos (by rw [fl_len]; omega), fl_rd f hin, hf, if_pos rfl, if_pos (by rw [fl_len]; omega), fl_rd g hin, hg, if_pos rfl, wi hn hin]
      | false =>
        have hI2 : Inv n p s (fun e => f e || p i e) (fun e => if e = i then true else g e) := by
          refine ⟨fun y hy h => ?_, fun e y he hy h1 h2 => ?_, fun y hy h => ?_⟩
          · show (f y || p i y) = true
            rw [hI.1 y hy h]; rfl
          · by_cases hei : e = i
            · subst hei
              show (f y || p e y) = true
              rw [h2, Bool.or_true]
            · simp only [hei, if_false] at h1
              show (f y || p i y) = true
              rw [hI.2.1 e y he hy h1 h2]; rfl
          · replace h : (f y || p i y) = true := h
            rw [Bool.or_eq_true] at h
            rcases h with h | h
            · exact hI.2.2 y hy h
            · exact way_trans hin (hI.2.2 i hin hf) (way_up (k := 0) (Nat.zero_le _) h)
        obtain ⟨f', g', b', h1, h2, h3, h4, h5⟩ := reached_pass hn hl d (i + 1) _ _ true (by omega) hI2
        have hlt := free_lt (n := n) hg hin
        refine ⟨f', g', b', h1, ⟨by have := h2.1; omega, fun e he => h2.2 e (by by_cases h : e = i <;> simp [h, he])⟩, fun _ => .inr (by have := h2.1; omega), fun hb1 => absurd (h4 hb1).1 (by decide), fun R hR => Ev.step (f := fun k => (sloperef3_add.f k (fl n f) (n : Int) (rd_T24 l (i : Int)).f1).bind fun t => sloperef3_Reached.l1 k t ((fl n g).set i true) true ((i + 1 : Nat) : Int) (n : Int) l) (fun k => ?_) (Ev.bind (add_ev hn r2 f) (by rw [fl_set]; exact h5 R hR))⟩
        rw [sloperef3_Reached.l1, if_pos (by omega), if_pos (by omega), if_pos (by rw [fl_len]; omega), fl_rd f hin, hf, if_pos rfl, if_pos (by rw [fl_len]; omega), fl_rd g hin, hg, if_neg (by decide), if_pos (by rw [hl.1]; omega), r1, wi hn hin, Int.toNat_natCast]
theorem reached_loop {n : Nat} (hn : n ≤ 4096) {p : Nat → Nat → Bool} {l : List S24} (hl : RowsAre n n p l) {s : Nat} (hs : s < n) : ∀ (c : Nat) (f g : Nat → Bool), free g n ≤ c → Inv n p s f g →
    ∃ ws, Is n (way p n s) ws ∧ Ev (fun k => sloperef3_Reached.l0 k (fl n f) (fl n g) true (n : Int) l) ((n : Int), ws) := by
  intro c
  induction c with
  | zero =>
    intro f g hc hI
    obtain ⟨f', g', b', h1, h2, h3, h4, h5⟩ := reached_pass hn hl n 0 f g false (by omega) hI
    cases b' with
    | true =>
      rcases h3 rfl with h | h
      · cases h
      · omega
    | false =>
      obtain ⟨_, h6, h7⟩ := h4 rfl
      obtain ⟨ws, hw, hO⟩ := of_fl hn f'
      refine ⟨ws, hw.congr fun y hy => ?_, Ev.step (fun k => ?_) (h5 _ (Ev.step (f := fun k => (sloperef3_Of.f k (fl n f')).bind fun b => some (b.1, b.2)) (fun k => ?_) (Ev.bind (f := fun _ b => some (b.1, b.2)) hO (Ev.now _))))⟩
      · rw [Bool.eq_iff_iff]
        exact ⟨h1.2.2 y hy, way_min h1.1 (fun x y hx hy h8 h9 => h1.2.1 x y hx hy (h7 x (Nat.zero_le _) hx (by rw [← h6 x hx]; exact h8)) h9) (Nat.le_refl _) (.inl rfl) hy⟩
      · rw [sloperef3_Reached.l0, if_pos rfl]; rfl
      · rw [sloperef3_Reached.l0, if_neg (by decide)]
  | succ c ih =>
    intro f g hc hI
    obtain ⟨f', g', b', h1, h2, h3, h4, h5⟩ := reached_pass hn hl n 0 f g false (by omega) hI
    cases b' with
    | true =>
      rcases h3 rfl with h | h
      · cases h
      · obtain ⟨ws, hw, hE⟩ := ih f' g' (by omega) h1
        refine ⟨ws, hw, Ev.step (fun k => ?_) (h5 _ hE)⟩
        rw [sloperef3_Reached.l0, if_pos rfl]; rfl
    | false =>
      obtain ⟨_, h6, h7⟩ := h4 rfl
      obtain ⟨ws, hw, hO⟩ := of_fl hn f'
      refine ⟨ws, hw.congr fun y hy => ?_, Ev.step (fun k => ?_) (h5 _ (Ev.step (f := fun k => (sloperef3_Of.f k (fl n f')).bind fun b => some (b.1, b.2)) (fun k => ?_) (Ev.bind (f := fun _ b => some (b.1, b.2)) hO (Ev.now _))))⟩
      · rw [Bool.eq_iff_iff]
        exact ⟨h1.2.2 y hy, way_min h1.1 (fun x y hx hy h8 h9 => h1.2.1 x y hx hy (h7 x (Nat.zero_le _) hx (by rw [← h6 x hx]; exact h8)) h9) (Nat.le_refl _) (.inl rfl) hy⟩
      · rw [sloperef3_Reached.l0, if_pos rfl]; rfl
      · rw [sloperef3_Reached.l0, if_neg (by decide)]
theorem reached_ev {n : Nat} (hn : n ≤ 4096) {p : Nat → Nat → Bool} {l : List S24} (hl : RowsAre n n p l) {s : Nat} (hs : s < n) : ∃ ws, Is n (way p n s) ws ∧ Ev (fun k => sloperef3_Reached.f k (n : Int) l (s : Int)) ((n : Int), ws) := by
  obtain ⟨r1, r2⟩ := hl.row hs
  have hsl : s < l.length := by rw [hl.1]; exact hs
  have hm : MayP (n : Int) (rd_T24 l (s : Int)).f1 := r2.may hn
  have hInv : Inv n p s (hb (rd_T24 l (s : Int)).f1) (fun _ => false) := by
    refine ⟨fun y hy h => ?_, fun e y _ _ h => ?_, fun y hy h => ?_⟩
    · rw [r2.has y, h]; simp [hy]
    · cases h
    · refine way_up (k := 0) (Nat.zero_le _) ?_
      rw [r2.has y] at h
      simpa [hy, way] using h
  obtain ⟨ws, hw, hE⟩ := reached_loop hn hl hs (free (fun _ => false) n) (hb (rd_T24 l (s : Int)).f1) (fun _ => false) (Nat.le_refl _) hInv
  refine ⟨ws, hw, Ev.congr (f := fun k => (sloperef3_List.f k (n : Int) (rd_T24 l (s : Int)).f1).bind fun t => sloperef3_Reached.l0 k t (List.replicate n false) true (n : Int) l) (fun k => ?_) (Ev.bind (List_eq hm r2.wds) (by rw [fl_none]; exact hE))⟩
  unfold sloperef3_Reached.f
  rw [if_pos (by omega), if_pos (by omega), r1]
  refine congrArg _ (funext fun t => ?_)
  rw [if_pos (by omega), Int.toNat_natCast, if_pos (by omega)]
theorem refClosure_l0 {n : Nat} (hn : n ≤ 4096) {p : Nat → Nat → Bool} {l : List S24} (hl : RowsAre n n p l) : ∀ (d x : Nat) (acc : List S24), x + d = n → RowsAre x n (way p n) acc →
    ∃ rows, RowsAre n n (way p n) rows ∧ Ev (fun k => sloperef3_Closure.l0 k (x : Int) (n : Int) l (n : Int) acc) ((n : Int), rows, 0)
  | 0, x, acc, hx, hA => by
    obtain rfl : x = n := by omega
    refine ⟨acc, hA, 1, fun k hk => ?_⟩
    obtain ⟨k, rfl⟩ : ∃ j, k = j + 1 := ⟨k - 1, by omega⟩
    show sloperef3_Closure.l0 (k + 1) (x : Int) (x : Int) l (x : Int) acc = _
    rw [sloperef3_Closure.l0, if_neg (by omega)]
  | d + 1, x, acc, hx, hA => by
    have hxn : x < n := by omega
    obtain ⟨ws, hw, hO⟩ := reached_ev hn hl hxn
    obtain ⟨rows, hR, hE⟩ := refClosure_l0 hn hl d (x + 1) (acc ++ [⟨(n : Int), ws⟩]) (by omega) (hA.snoc hw)
    refine ⟨rows, hR, Ev.step (f := fun k => (sloperef3_Reached.f k (n : Int) l (x : Int)).bind fun b => sloperef3_Closure.l0 k ((x + 1 : Nat) : Int) (n : Int) l (n : Int) (acc ++ [⟨b.1, b.2⟩])) (fun k => ?_) (Ev.bind hO hE)⟩
    rw [sloperef3_Closure.l0, if_pos (by omega), wi hn hxn]
    refine congrArg _ (funext fun b => ?_)
    rw [if_pos (by rw [hA.1]; omega)]
theorem refClosure_rows {n : Nat} (hn : n ≤ 4096) {p : Nat → Nat → Bool} {l : List S24} (hl : RowsAre n n p l) : ∃ rows, RowsAre n n (way p n) rows ∧ Ev (fun k => sloperef3_Closure.f k (n : Int) l) ((n : Int), rows, 0) := by
  obtain ⟨hT, hg⟩ := hl.tab hn hn
  obtain ⟨K1, h1⟩ := rMayTable_eq (n : Int) l (by rw [hl.1]; omega) hg
  obtain ⟨rows, hR, K3, h3⟩ := refClosure_l0 hn hl n 0 [] (by omega) ⟨rfl, fun _ h => by cases h⟩
  refine ⟨rows, hR, K1 + K3, fun k hk => ?_⟩
  have y1 := h1 k (by omega)
  have y3 := h3 k (by omega)
  dsimp only at y1 y3
  show sloperef3_Closure.f k (n : Int) l = _
  unfold sloperef3_Closure.f
  rw [y1, tabp_true.2 hT, Option.bind_some, if_pos rfl, if_pos (by rw [hl.1])]
  exact y3
end Go.Proofs.YtjmkhdhffmlhiaaDoor.PAll
end
section
namespace Go.Proofs.YtjmkhdhffmlhiaaDoor.PAll
set_option linter.unusedVariables false
set_option linter.unusedSimpArgs false
open Go.RowKit Go.Proofs.YtjmkhdhffmlhiaaDoorW.PrintWords Go.Proofs.YtjmkhdhffmlhiaaDoorW.PrintMore
theorem same_nil (x : Int) : Ev (fun k => slopelaw3_sameTable.f k x [] x []) true := sameTable_ev x [] (by simp) (fun _ h => by cases h)
theorem Product_none {n m : Int} {l lb : List S24} (hg : Goods l) (hl : l.length ≤ 9223372036854775807) (hgb : Goods lb) (hlb : lb.length ≤ 9223372036854775807) (h : ¬ (TabP n l ∧ TabP m lb)) : Ev (fun k => bitset_Product.f k n l m lb) (0, [], 61) := by
  obtain ⟨K, hM⟩ := MayTable_eq n l hl hg
  obtain ⟨K2, hM2⟩ := MayTable_eq m lb hlb hgb
  refine ⟨K + K2, fun k hk => ?_⟩
  have h1 := hM k (by omega)
  have h2 := hM2 k (by omega)
  dsimp only at h1 h2
  show bitset_Product.f k n l m lb = _
  unfold bitset_Product.f
  rw [if_pos ⟨⟨hg, hl⟩, hgb, hlb⟩, h1, Option.bind_some]
  by_cases hT : TabP n l
  · have hT2 : ¬ TabP m lb := fun h3 => h ⟨hT, h3⟩
    rw [tabp_true.2 hT, if_pos rfl, h2, tabp_false.2 hT2]
    rfl
  · rw [tabp_false.2 hT]
    rfl
theorem Both_none {n : Int} {l : List S24} (hg : Goods l) (hl : l.length ≤ 9223372036854775807) (h : ¬ TabP n l) : Ev (fun k => bitset_Both.f k n l) (0, [], 61) := by
  obtain ⟨K, hM⟩ := MayTable_eq n l hl hg
  refine ⟨K, fun k hk => ?_⟩
  have h1 := hM k (by omega)
  dsimp only at h1
  show bitset_Both.f k n l = _
  unfold bitset_Both.f
  rw [if_pos ⟨hg, hl⟩, h1, tabp_false.2 h]
  rfl
theorem nat_of {n : Int} {l : List S24} (hT : TabP n l) : ∃ r : Nat, n = (r : Int) ∧ r ≤ 4096 ∧ l.length ≤ 4096 := by
  obtain ⟨r, rfl⟩ := Int.eq_ofNat_of_zero_le hT.1
  exact ⟨r, rfl, by have := hT.2.1; omega, hT.2.2.1⟩
theorem Products_alike (n m : Int) (l lb : List S24) (hl : l.length ≤ 9223372036854775807) (hg : Goods l) (hlb : lb.length ≤ 9223372036854775807) (hgb : Goods lb) :
    ∃ x ys e, Ev (fun k => bitset_Product.f k n l m lb) (x, ys, e) ∧ Ev (fun k => sloperef3_Product.f k n l m lb) (x, ys, e) ∧ Ev (fun k => slopelaw3_sameTable.f k x ys x ys) true := by
  obtain ⟨K1, h1⟩ := rMayTable_eq n l hl hg
  obtain ⟨K2, h2⟩ := rMayTable_eq m lb hlb hgb
  by_cases hT : TabP n l ∧ TabP m lb
  · by_cases hn : n = (lb.length : Int)
    · obtain ⟨m, rfl, hm, hr⟩ := nat_of hT.2
      have hN : l.length ≤ 4096 := hT.1.2.2.1
      have ha := RowsAre.of hT.1 hg
      have hb1 := RowsAre.of hT.2 hgb
      subst hn
      rw [Int.toNat_natCast] at ha hb1
      obtain ⟨r1, hr1, hE1⟩ := Product_rows hN hr hm ha hb1
      obtain ⟨r2, hr2, hE2⟩ := refProduct_rows hN hr hm ha hb1
      obtain rfl := hr1.eq hr2 fun _ _ _ _ => rfl
      exact ⟨_, _, _, hE1, hE2, hr1.same hN hm _⟩
    · refine ⟨0, [], 60, Product_far hT.1 hg hl hT.2 hgb hlb hn, ⟨K1 + K2 + 1, fun k hk => ?_⟩, same_nil 0⟩
      obtain ⟨k, rfl⟩ : ∃ j, k = j + 1 := ⟨k - 1, by omega⟩
      have y1 := h1 (k + 1) (by omega)
      have y2 := h2 (k + 1) (by omega)
      dsimp only at y1 y2
      show sloperef3_Product.f (k + 1) n l m lb = _
      unfold sloperef3_Product.f
      rw [y1, tabp_true.2 hT.1, Option.bind_some, if_pos rfl, y2, tabp_true.2 hT.2, Option.bind_some, sloperef3_Product.j0, if_neg (by decide), if_neg hn]
  · refine ⟨0, [], 61, Product_none hg hl hgb hlb hT, ⟨K1 + K2 + 1, fun k hk => ?_⟩, same_nil 0⟩
    obtain ⟨k, rfl⟩ : ∃ j, k = j + 1 := ⟨k - 1, by omega⟩
    have y1 := h1 (k + 1) (by omega)
    have y2 := h2 (k + 1) (by omega)
    dsimp only at y1 y2
    show sloperef3_Product.f (k + 1) n l m lb = _
    unfold sloperef3_Product.f
    rw [y1, Option.bind_some]
    by_cases h3 : TabP n l
    · have h4 : ¬ TabP m lb := fun h5 => hT ⟨h3, h5⟩
      rw [tabp_true.2 h3, if_pos rfl, y2, tabp_false.2 h4, Option.bind_some, sloperef3_Product.j0, if_pos (by decide)]
    · rw [tabp_false.2 h3, if_neg (by decide), sloperef3_Product.j0, if_pos rfl]
theorem Boths_alike (n : Int) (l : List S24) (hl : l.length ≤ 9223372036854775807) (hg : Goods l) :
    ∃ x ys e, Ev (fun k => bitset_Both.f k n l) (x, ys, e) ∧ Ev (fun k => sloperef3_Both.f k n l) (x, ys, e) ∧ Ev (fun k => slopelaw3_sameTable.f k x ys x ys) true := by
  obtain ⟨K1, h1⟩ := rMayTable_eq n l hl hg
  by_cases hT : TabP n l
  · by_cases hn : n = (l.length : Int)
    · subst hn
      have hN : l.length ≤ 4096 := hT.2.2.1
      have ha := RowsAre.of hT hg
      rw [Int.toNat_natCast] at ha
      obtain ⟨r1, hr1, hE1⟩ := Both_rows hN ha
      obtain ⟨r2, hr2, hE2⟩ := refBoth_rows hN ha
      obtain rfl := hr1.eq hr2 fun x _ j _ => by first | rfl | exact Bool.or_comm _ _
      exact ⟨_, _, _, hE1, hE2, hr1.same hN hN _⟩
    · refine ⟨0, [], 60, Both_far hT hg hl hn, ⟨K1, fun k hk => ?_⟩, same_nil 0⟩
      have y1 := h1 k (by omega)
      dsimp only at y1
      show sloperef3_Both.f k n l = _
      unfold sloperef3_Both.f
      rw [y1, tabp_true.2 hT, Option.bind_some, if_pos rfl, if_neg hn]
  · refine ⟨0, [], 61, Both_none hg hl hT, ⟨K1, fun k hk => ?_⟩, same_nil 0⟩
    have y1 := h1 k (by omega)
    dsimp only at y1
    show sloperef3_Both.f k n l = _
    unfold sloperef3_Both.f
    rw [y1, tabp_false.2 hT, Option.bind_some, if_neg (by decide)]
theorem Closures_alike (n : Int) (l : List S24) (hl : l.length ≤ 9223372036854775807) (hg : Goods l) :
    ∃ x ys e, Ev (fun k => bitset_Closure.f k n l) (x, ys, e) ∧ Ev (fun k => sloperef3_Closure.f k n l) (x, ys, e) ∧ Ev (fun k => slopelaw3_sameTable.f k x ys x ys) true := by
  obtain ⟨K1, h1⟩ := rMayTable_eq n l hl hg
  by_cases hT : TabP n l
  · by_cases hn : n = (l.length : Int)
    · subst hn
      have hN : l.length ≤ 4096 := hT.2.2.1
      have ha := RowsAre.of hT hg
      rw [Int.toNat_natCast] at ha
      obtain ⟨r1, hr1, hE1⟩ := Closure_rows hN ha
      obtain ⟨r2, hr2, hE2⟩ := refClosure_rows hN ha
      obtain rfl := hr1.eq hr2 fun x _ j _ => rfl
      exact ⟨_, _, _, hE1, hE2, hr1.same hN hN _⟩
    · refine ⟨0, [], 60, Closure_far hT hg hl hn, ⟨K1, fun k hk => ?_⟩, same_nil 0⟩
      have y1 := h1 k (by omega)
      dsimp only at y1
      show sloperef3_Closure.f k n l = _
      unfold sloperef3_Closure.f
      rw [y1, tabp_true.2 hT, Option.bind_some, if_pos rfl, if_neg hn]
  · refine ⟨0, [], 61, Closure_none hg hl hT, ⟨K1, fun k hk => ?_⟩, same_nil 0⟩
    have y1 := h1 k (by omega)
    dsimp only at y1
    show sloperef3_Closure.f k n l = _
    unfold sloperef3_Closure.f
    rw [y1, tabp_false.2 hT, Option.bind_some, if_neg (by decide)]
end Go.Proofs.YtjmkhdhffmlhiaaDoor.PAll
end
section
namespace Go.Proofs.YtjmkhdhffmlhiaaDoor.PAll
open Go.RowKit Go.Proofs.YtjmkhdhffmlhiaaDoorW.PrintWords Go.Proofs.YtjmkhdhffmlhiaaDoorW.PrintLast Go.Proofs.YtjmkhdhffmlhiaaDoorW.PrintMore
attribute [local go_sem] max2_int min2_int max_two min_two max_three min_three max_four min_four w64_u8 w64_mod256   -- for this text's walks alone
set_option linter.unusedVariables false
set_option linter.unusedSimpArgs false
end Go.Proofs.YtjmkhdhffmlhiaaDoor.PAll
end
section
namespace Go.Proofs.YtjmkhdhffmlhiaaDoor.PAll
open Go.RowKit Go.Proofs.YtjmkhdhffmlhiaaDoorW.PrintWords Go.Proofs.YtjmkhdhffmlhiaaDoorW.PrintLast Go.Proofs.YtjmkhdhffmlhiaaDoorW.PrintMore
theorem cut_hm (t e : TypeId) {i : TypeInfo} (ht : Tryd.prog.underlying t = some (.slice e)) (hi : Tryd.prog.info? e = some i) (g n cap m : Nat) (hm : m ≤ cap) :
    ∀ W : World, (Instr.slice t (.slice (some ⟨g, 0, none⟩) n cap) none (some (.int .i64 (m : Int))) (some (.int .i64 (m : Int)))).run Tryd.prog W = .ok (.slice (some ⟨g, 0, none⟩) m m) W := by
  intro W
  have hel : Tryd.prog.elem t = e := by simp [Program.elem, ht]
  have hu : Tryd.prog.underlying t = some (.slice (Tryd.prog.elem t)) := by rw [hel]; exact ht
  rw [run_slice_hm W t (some ⟨g, 0, none⟩) n cap hu .i64 .i64 (m : Int) (m : Int) (by omega) (by omega) (by omega), hel]
  simp [sizeOf, typeInfo, hi, sliced, Result.andThen, Addr.add]
end Go.Proofs.YtjmkhdhffmlhiaaDoor.PAll
end
section
namespace Go.Proofs.YtjmkhdhffmlhiaaDoor.PAll
open Go.RowKit Go.Proofs.YtjmkhdhffmlhiaaDoorW.PrintWords Go.Proofs.YtjmkhdhffmlhiaaDoorW.PrintLast Go.Proofs.YtjmkhdhffmlhiaaDoorW.PrintMore
def marked {α : Type} (e : Nat) (d : Kd α) (m : α) : Kd (List α) where
  sz := 1
  E := e :: d.E
  K := fun w xs cs => ∃ g c, cs = [.slice (some ⟨g, 0, none⟩) xs.length c] ∧ (xs ++ [m]).length ≤ c ∧ d.C w (some ⟨g, 0, none⟩) (xs ++ [m]).length (xs ++ [m])
  M := fun w base ok xs cs => ∃ g c, cs = [.slice (some ⟨g, 0, none⟩) xs.length c] ∧ d.R e w base ok (.slice (some ⟨g, 0, none⟩) (xs ++ [m]).length c) (xs ++ [m])
  K_len := by
    rintro w x cs ⟨A, c, rfl, _⟩
    rfl
  K_one := by
    rintro w x cs ⟨A, c, rfl, _⟩ u hu
    rw [List.mem_singleton.1 hu]
    rfl
  K_below := by
    rintro w w1 x cs hb ⟨A, c, rfl, hl, hr⟩
    exact ⟨A, c, rfl, hl, Kd.C_below hr hb⟩
  K_of_M := by
    rintro w base ok x cs ⟨A, c, rfl, h⟩
    have h2 := Kd.R_reads' h
    exact ⟨A, c, rfl, h2.2.1, h2.2.2⟩
  M_mono := by
    rintro w base ok ok' x cs hok ⟨A, c, rfl, h⟩
    exact ⟨A, c, rfl, Kd.R_mono h hok⟩
  M_bound := by
    rintro w base ok x cs ⟨A, c, rfl, h⟩
    exact ⟨A, c, rfl, Kd.R_bound h⟩
  M_move := by
    rintro w w1 base ok x cs hm ⟨A, c, rfl, h⟩
    exact ⟨A, c, rfl, Kd.R_move h hm⟩
  M_lower := by
    rintro w base base' ok x cs hb ⟨A, c, rfl, h⟩
    exact ⟨A, c, rfl, Kd.R_lower h hb⟩
def alt {α : Type} (a b : Kd α) (hs : a.sz = b.sz) : Kd (Bool × α) where
  sz := a.sz
  E := a.E ++ b.E
  K := fun w x cs => (x.1 = true ∧ a.K w x.2 cs) ∨ (x.1 = false ∧ b.K w x.2 cs)
  M := fun w base ok x cs => (x.1 = true ∧ a.M w base ok x.2 cs) ∨ (x.1 = false ∧ b.M w base ok x.2 cs)
  K_len := by
    rintro w x cs (⟨_, h⟩ | ⟨_, h⟩)
    · exact a.K_len h
    · exact (b.K_len h).trans hs.symm
  K_one := by
    rintro w x cs (⟨_, h⟩ | ⟨_, h⟩)
    · exact a.K_one h
    · exact b.K_one h
  K_below := by
    rintro w w1 x cs hb (⟨e, h⟩ | ⟨e, h⟩)
    · exact .inl ⟨e, a.K_below hb h⟩
    · exact .inr ⟨e, b.K_below hb h⟩
  K_of_M := by
    rintro w base ok x cs (⟨e, h⟩ | ⟨e, h⟩)
    · exact .inl ⟨e, a.K_of_M h⟩
    · exact .inr ⟨e, b.K_of_M h⟩
  M_mono := by
    rintro w base ok ok' x cs hok (⟨e, h⟩ | ⟨e, h⟩)
    · exact .inl ⟨e, a.M_mono hok h⟩
    · exact .inr ⟨e, b.M_mono hok h⟩
  M_bound := by
    rintro w base ok x cs (⟨e, h⟩ | ⟨e, h⟩)
    · refine .inl ⟨e, a.M_mono ?_ (a.M_bound h)⟩
      rintro k ⟨h2, h3, h4, q, hq, hc⟩
      exact ⟨h2, h3, h4, q, List.mem_append_left _ hq, hc⟩
    · refine .inr ⟨e, b.M_mono ?_ (b.M_bound h)⟩
      rintro k ⟨h2, h3, h4, q, hq, hc⟩
      exact ⟨h2, h3, h4, q, List.mem_append_right _ hq, hc⟩
  M_move := by
    rintro w w1 base ok x cs hm (⟨e, h⟩ | ⟨e, h⟩)
    · exact .inl ⟨e, a.M_move hm h⟩
    · exact .inr ⟨e, b.M_move hm h⟩
  M_lower := by
    rintro w base base' ok x cs hb (⟨e, h⟩ | ⟨e, h⟩)
    · exact .inl ⟨e, a.M_lower hb h⟩
    · exact .inr ⟨e, b.M_lower hb h⟩
theorem two_blocks {w w1 : World} {o1 o2 : Obj} (hg : ((w.alloc o1).alloc o2).grownBy w1 (Value.slice none 0 0).ownBlock) : w1.heap[w.heap.size]? = some o1 ∧ w1.heap[w.heap.size + 1]? = some o2 := by
  have e1 := blk_alloc (blk_new w o1) o2
  have e2 : ((w.alloc o1).alloc o2).heap[w.heap.size + 1]? = some o2 := by
    have := blk_new (w.alloc o1) o2
    simpa using this
  exact ⟨(hg.block _ (by simp; omega) (by simp [Value.ownBlock])).trans e1, (hg.block _ (by simp) (by simp [Value.ownBlock])).trans e2⟩
def theMark : Int := 8608480567731124087
theorem mark_ys {m : Int} {l ys : List Int} (h : ys = l ++ [m]) (hm : theMark = m) : l ++ [8608480567731124087] = ys := by rw [h, ← hm]; rfl
theorem pos_ys {m : Int} {l ys : List Int} (h : ys = l ++ [m]) : 0 < ys.length := by rw [h]; simp
theorem R_not_blk {W : World} {base g : Nat} {ok : Nat → Prop} {v : Value} {xs : List Int} {cs : Array Value} (h : Kd.R (Kd.int .u64) 87 W base ok v xs) (hb : W.heap[g]? = some (.cells cs 24 (0, 0))) (e : some g = v.ownBlock) : False :=
  Kd.R_ne h hb (by decide) e
set_option maxHeartbeats 4000000 in
set_option maxRecDepth 100000 in
theorem twin_marked (n0 : Int) (A0 : Option Addr) (c0 : Nat) (l0 : List Int) (w : World) (hr0 : Kd.C (Kd.int .u64) w A0 l0.length l0) (hc0 : l0.length ≤ c0) (hn : l0.length * 8 ≤ 140737488351232) :
    Calls Tryd.prog 14 #[.agg #[.int .i64 n0, .slice A0 l0.length c0]] w fun e w' => ∃ g cap : Nat, e = .returned (.agg #[.int .i64 n0, .slice (some ⟨g, 0, none⟩) l0.length cap]) ∧ Kd.R (Kd.int .u64) 87 w' w.heap.size (fun _ => True) (.slice (some ⟨g, 0, none⟩) (l0 ++ [theMark]).length cap) (l0 ++ [theMark]) ∧ Below w.heap.size w w' := by
  have hu26 := Tryd.underlying24
  have HR0 := Aside0.mk hr0
  have HC0 := Aside0.mk hc0
  clear hr0 hc0
  have hn1 : l0.length + 1 ≤ 17592186044416 := by omega
  obtain ⟨ys, hys⟩ : ∃ ys, ys = l0 ++ [theMark] := ⟨_, rfl⟩
  have hyl : l0.length ≤ ys.length := by rw [hys]; simp
  have HY := Aside0.mk hys
  rw [← hys]
  clear hys
  obtain ⟨m, hm⟩ : ∃ m, theMark = m := ⟨_, rfl⟩
  rw [hm] at HY
  go_enter Tryd.func14, Tryd.ntmps14
  go_wp2_with (first
    | ((with_reducible refine gate_builtin (b := .append) (xs := #[.tmp 4, .tmp 6]) rfl ?_); at_builtin
       refine Kd.R_append_rows (Kd.int .u64) (w0 := w) w.heap.size rfl (.tmp 4) (.tmp 6) 22 87 (.int .u64 0) 8 rfl Tryd.underlying22 info87 rfl (by decide) (by omega) (.slice none 0 0) ([] : List Int) l0 _ _ _ (fun _ => True) (fun _ => False) rfl rfl ?aO ?aR (fun _ _ h => h) (fun _ h => h.elim) ?aF ?aB ?aS ?aL ?_
       (case aR => exact Kd.C_alloc (Kd.C_alloc HR0.out _) _)
       (case aB => exact below_alloc (below_alloc (Below.refl _ _) _) _)
       (case aF => exact (fun _ _ => trivial))
       (case aO => exact (Kd.R_nil _ _ _ _ (fun _ => True)))
       (case aS => exact (below_alloc (below_alloc (Below.refl _ _) _) _).size)
       (case aL => simp only [List.length_nil]; omega)
       intro v1 w1 ho hb hg hat
       rw [List.nil_append] at ho
       have HO := Aside0.mk ho
       have HB := Aside0.mk hb
       obtain ⟨b1, b2⟩ := two_blocks hg
       have B1 := Aside0.mk b1
       have B2 := Aside0.mk b2
       clear ho hb hg hat b1 b2)
    | ((with_reducible refine gate_builtin (b := .append) (xs := #[.tmp 8, .tmp 9]) rfl ?_); at_builtin
       refine Kd.R_append (Kd.int .u64) (w0 := w) w.heap.size rfl (.tmp 8) (.tmp 9) 22 87 (.int .u64 0) 8 rfl Tryd.underlying22 info87 rfl (by decide) (by omega) v1 l0 8608480567731124087 [.int .u64 8608480567731124087] (fun _ => True) (fun _ => False) rfl rfl ?aP (fun _ hk => hk.elim) ?aF ?aO ?aB ?aS ?aL ?_
       (case aP => exact rfl)
       (case aF => exact (fun _ _ => trivial))
       (case aO => exact HO.out)
       (case aB => exact HB.out)
       (case aS => exact HB.out.size)
       (case aL => omega)
       intro v2 w2 ho hb hg hat
       have e9 := mark_ys HY.out hm
       rw [e9] at ho
       obtain ⟨g, cap, eg, hgb, hgl, cells, hcells⟩ := Kd.R_form ho (pos_ys HY.out)
       have b1 := (hg.block w.heap.size (blk_lt B1.out) (fun e => R_not_blk HO.out B1.out e)).trans B1.out
       have b2 := (hg.block (w.heap.size + 1) (blk_lt B2.out) (fun e => R_not_blk HO.out B2.out e)).trans B2.out
       subst eg
       obtain ⟨i0, hi0, _, _, _⟩ := info_parts info87
       have hcut := cut_to (P := Tryd.prog) 22 87 .i64 Tryd.underlying22 hi0 (some ⟨g, 0, none⟩) ys.length cap (l0.length : Int) (by omega) (by omega) (Kd.R_reads' ho).2.1
       rw [Int.toNat_natCast] at hcut
       have HO2 := Aside0.mk ho
       have HB2 := Aside0.mk hb
       have BB1 := Aside0.mk b1
       have BB2 := Aside0.mk b2
       have q0 := cell_of_row w2 w.heap.size 0 _ _ _ b1
       have q1 := cell_of_row w2 w.heap.size 1 _ _ _ b1
       have f0 := blk_frozen b2 0
       have f1 := blk_frozen b2 1
       have g0 := cell_of_row w2 (w.heap.size + 1) 0 _ _ _ b2
       have g1 := cell_of_row w2 (w.heap.size + 1) 1 _ _ _ b2
       simp only [List.getElem?_toArray, List.getElem?_cons_zero, List.getElem?_cons_succ] at q0 q1 g0 g1
       clear hi0 ho hb hg hat e9 hcells hgb hgl b1 b2))
  go_still_tail 8, (by kernel_rfl)
  go_wp2
  refine bodyPost_ret (results_cell_row rfl _ _ (w.heap.size + 1) 24 #[.int .i64 n0, .slice (some ⟨g, 0, none⟩) l0.length cap] (0, 0) _ rfl ?_ Tryd.underlying24 rfl (by kernel_rfl)) rfl ?_
  · refine blk_put (cs := #[.int .i64 n0, .slice none 0 0]) ?_ 1 _ rfl
    refine blk_put (cs := #[.int .i64 0, .slice none 0 0]) ?_ 0 _ rfl
    exact BB2.out
  · refine ⟨g, cap, rfl, ?_, ?_⟩
    · exact Kd.R_mono (Kd.R_far (p := ⟨w.heap.size + 1, 1, none⟩) (Kd.R_far (p := ⟨w.heap.size + 1, 0, none⟩) (Kd.R_drew (Kd.R_types HO2.out BB2.out (by decide))) (fun _ hk => hk.2) _) (fun _ hk => hk.2) _) (fun _ hk => trivial)
    · exact ((below_drew HB2.out).setCell (by simp) _).setCell (by simp) _
end Go.Proofs.YtjmkhdhffmlhiaaDoor.PAll
end
section
namespace Go.Proofs.YtjmkhdhffmlhiaaDoor.PAll
open Go.RowKit Go.Proofs.YtjmkhdhffmlhiaaDoorW.PrintWords Go.Proofs.YtjmkhdhffmlhiaaDoorW.PrintLast Go.Proofs.YtjmkhdhffmlhiaaDoorW.PrintMore
end Go.Proofs.YtjmkhdhffmlhiaaDoor.PAll
end
section
namespace Go.Proofs.YtjmkhdhffmlhiaaDoor.PAll
set_option linter.unusedVariables false
open Go.RowKit Go.Proofs.YtjmkhdhffmlhiaaDoorW.PrintWords Go.Proofs.YtjmkhdhffmlhiaaDoorW.PrintLast Go.Proofs.YtjmkhdhffmlhiaaDoorW.PrintMore
def mk26 : Kd S24 := Kd.iso (Kd.pair (Kd.int .i64) (marked 87 (Kd.int .u64) theMark)) (fun x : S24 => (x.f0, x.f1))
def tw26 : Kd (Bool × S24) := alt mk26 k24 rfl
def yes26 (l : List S24) : List (Bool × S24) := l.map (fun x => (true, x))
def tws26 (l : List S24) : List (Bool × S24) := yes26 l ++ [(false, ⟨-7, []⟩)]
theorem yes26_next {l : List S24} {i : Nat} (h : i < l.length) : yes26 (l.take i) ++ [(true, rd_T24 l (i : Int))] = yes26 (l.take (i + 1)) := by
  unfold yes26 rd_T24
  rw [List.take_succ_eq_append_getElem h, List.map_append]
  simp [List.getD_eq_getElem?_getD, List.getElem?_eq_getElem h]
theorem tws26_len (l : List S24) : (tws26 l).length = l.length + 1 := by simp [tws26, yes26]
theorem yes26_len (l : List S24) (i : Nat) : (yes26 (l.take i)).length ≤ l.length := by simp only [yes26, List.length_map, List.length_take]; omega
set_option maxHeartbeats 4000000 in
set_option maxRecDepth 100000 in
theorem twins_marked (A0 : Option Addr) (c0 : Nat) (l0 : List S24) (w : World) (hr0 : Kd.C k24 w A0 l0.length l0) (hc0 : l0.length ≤ c0) (hn : l0.length * 32 ≤ 140737488351232) (he : ∀ x ∈ l0, x.f1.length * 8 ≤ 140737488351232) :
    Calls Tryd.prog 47 #[.slice A0 l0.length c0] w fun e w' => ∃ g cap : Nat, e = .returned (.slice (some ⟨g, 0, none⟩) l0.length cap) ∧ Kd.R tw26 24 w' w.heap.size (fun _ => True) (.slice (some ⟨g, 0, none⟩) (tws26 l0).length cap) (tws26 l0) ∧ Below w.heap.size w w' := by
  have hu26 := Tryd.underlying24
  have HR0 := Aside0.mk hr0
  have HE := Aside0.mk he
  have HB := Aside0.mk (Below.refl w.heap.size w)
  clear hr0 he
  obtain ⟨ys, hys⟩ : ∃ ys, ys = tws26 l0 := ⟨_, rfl⟩
  have hyl : l0.length + 1 = ys.length := by rw [hys, tws26_len]
  have HY := Aside0.mk hys
  rw [← hys]
  clear hys
  go_enter Tryd.func47, Tryd.ntmps47
  go_wp2_with fail
  go_loopg [3, 4] (l0.length) (fun gj v3 v4 w2 => ∃ i : Nat, v4 = .int .i64 i ∧ Aside0 (gj + i = l0.length) ∧ Aside0 (Kd.R tw26 24 w2 w.heap.size (fun _ => True) v3 (yes26 (l0.take i))) ∧ Aside0 (Below w.heap.size w w2))
  case atStart => exact ⟨0, rfl, ⟨by simp⟩, ⟨Kd.R_nil _ _ _ _ _⟩, HB⟩
  case round =>
    clear HB
    obtain ⟨i, rfl, hg2, HO, HB⟩ := hrel
    by_cases hi : i < l0.length
    · obtain ⟨gj_, rfl⟩ : ∃ m, gk = m + 1 := ⟨gk - 1, by have := hg2.out; omega⟩
      have hd : decide (i < l0.length) = true := decide_eq_true hi
      obtain ⟨ad, A1, c1, e1, hx0, hx1, hl1, hi1⟩ := at_T24 HR0.out (i : Int) (by omega) (by omega)
      cases e1
      replace hx0 := (HB.out.cell (World.block_lt_of_cell? w _ hx0)).trans hx0
      replace hx1 := (HB.out.cell (World.block_lt_of_cell? w _ hx1)).trans hx1
      rw [Int.toNat_natCast] at hx0 hx1
      have hmem : (rd_T24 l0 (i : Int)).f1.length * 8 ≤ 140737488351232 := HE.out _ (by
        unfold rd_T24
        rw [Int.toNat_natCast, List.getD_eq_getElem?_getD, List.getElem?_eq_getElem hi]
        exact List.getElem_mem hi)
      have HNX := Aside0.mk (yes26_next hi)
      have HYL := Aside0.mk (yes26_len l0 i)
      have HL1 := Aside0.mk hl1
      have HI1 := Aside0.mk hi1
      obtain ⟨x, hx⟩ : ∃ x, rd_T24 l0 (i : Int) = x := ⟨_, rfl⟩
      rw [hx] at hx0 hx1 hmem HNX HL1 HI1
      have HMEM := Aside0.mk hmem
      clear hl1 hi1 hx hmem
      go_wp2_with (first
        | ((with_reducible refine gate_callee (f := 14) rfl ?_); refine goesL_ (some 16) rfl rfl Tryd.func14 (by kernel_rfl) rfl #[.agg #[.int .i64 x.f0, .slice A1 x.f1.length c1]] rfl (by (try simp only [List.map_toArray, List.map_cons, List.map_nil]); first | done | rfl) ?_
           (with_reducible refine (twin_marked x.f0 A1 c1 x.f1 _ ?s1 HL1.out HMEM.out).mono ?_)
           (case s1 => exact Kd.C_below HI1.out HB.out)
           rintro e w1 ⟨g, cap, rfl, ho, hb⟩
           refine ⟨_, rfl, ?_⟩
           have HT := Aside0.mk (Kd.R_newR ho HO.out)
           have HLT := Aside0.mk (Kd.fresh_ok HO.out)
           have HSZ := Aside0.mk hb.size
           have HB' := Aside0.mk (below_step HB.out hb)
           have HBS := Aside0.mk HB.out.size
           have HO' := Aside0.mk (Kd.R_below HO.out hb)
           clear HB HO ho hb)
        | ((with_reducible refine gate_builtin (b := .append) (xs := #[.tmp 11, .tmp 17]) rfl ?_); at_builtin
           refine Kd.R_append tw26 (w0 := w) w.heap.size rfl (.tmp 11) (.tmp 17) 54 24 (.agg #[.int .i64 0, .slice none 0 0]) 32 rfl Tryd.underlying54 info24 rfl (by decide) (by omega) u3 (yes26 (l0.take i)) (true, x) [.int .i64 x.f0, .slice (some ⟨g, 0, none⟩) x.f1.length cap] (fun _ => True) (fun k => True ∧ some k ≠ u3.ownBlock) rfl rfl ?aP (fun _ hk => hk) ?aF ?aO ?aB ?aS ?aL ?_
           (case aP => exact .inl ⟨rfl, [.int .i64 x.f0], [.slice (some ⟨g, 0, none⟩) x.f1.length cap], rfl, rfl, g, cap, rfl, Kd.R_lower HT.out HBS.out⟩)
           (case aF => exact (fun _ _ => trivial))
           (case aO => exact HO'.out)
           (case aB => exact HB'.out)
           (case aS => exact HB'.out.size)
           (case aL => have := HYL.out; omega)
           intro v2 w2 ho hb hg hat
           rw [HNX.out] at ho
           have HO2 := Aside0.mk ho
           have HB2 := Aside0.mk hb
           clear ho hb hg hat))
      go_roundg gj_
      case rel => exact ⟨i + 1, by go_num, ⟨by have := hg2.out; omega⟩, HO2, HB2⟩
      case measure => omega
    · have e := Lib.hid (show i = l0.length by have := hg2.out; omega)
      have hd : decide (i < l0.length) = false := decide_eq_false hi
      have HO' := HO.out
      rw [e.out, List.take_length] at HO'
      have HO3 := Aside0.mk HO'
      clear HO' HO
      have hyl2 : (yes26 l0).length = l0.length := by simp [yes26]
      have HYL := Aside0.mk hyl2
      clear hyl2
      go_wp2_with (first
        | ((with_reducible refine gate_builtin (b := .append) (xs := #[.tmp 19, .tmp 21]) rfl ?_); at_builtin
           refine Kd.R_append tw26 (w0 := w) w.heap.size rfl (.tmp 19) (.tmp 21) 54 24 (.agg #[.int .i64 0, .slice none 0 0]) 32 rfl Tryd.underlying54 info24 rfl (by decide) (by omega) u3 (yes26 l0) (false, ⟨-7, []⟩) [.int .i64 (-7), .slice none 0 0] (fun _ => True) (fun _ => False) rfl rfl ?aP (fun _ hk => hk.elim) ?aF ?aO ?aB ?aS ?aL ?_
           (case aP => exact .inr ⟨rfl, [.int .i64 (-7)], [.slice none 0 0], rfl, rfl, _, rfl, Kd.R_nil _ _ _ _ _⟩)
           (case aF => exact (fun _ _ => trivial))
           (case aO => exact HO3.out)
           (case aB => exact HB.out)
           (case aS => exact HB.out.size)
           (case aL => have := HYL.out; omega)
           intro v2 w2 ho hb hg hat
           have e9 : yes26 l0 ++ [(false, ⟨-7, []⟩)] = ys := HY.out.symm
           rw [e9] at ho
           obtain ⟨g, cap, eg, hgb, hgl, cells, hcells⟩ := Kd.R_form ho (by omega)
           subst eg
           obtain ⟨i0, hi0, _, _, _⟩ := info_parts info24
           have hcut := cut_to (P := Tryd.prog) 54 24 .i64 Tryd.underlying54 hi0 (some ⟨g, 0, none⟩) ys.length cap (l0.length : Int) (by omega) (by omega) (Kd.R_reads' ho).2.1
           rw [Int.toNat_natCast] at hcut
           have HO2 := Aside0.mk ho
           have HB2 := Aside0.mk hb
           clear hi0 ho hb hg hat e9 hcells hgb hgl))
      go_ret
      exact ⟨g, cap, rfl, HO2.out, HB2.out⟩
end Go.Proofs.YtjmkhdhffmlhiaaDoor.PAll
end
section
namespace Go.Proofs.YtjmkhdhffmlhiaaDoor.PAll
open Go.RowKit Go.Proofs.YtjmkhdhffmlhiaaDoorW.PrintWords Go.Proofs.YtjmkhdhffmlhiaaDoorW.PrintLast Go.Proofs.YtjmkhdhffmlhiaaDoorW.PrintMore
set_option maxHeartbeats 4000000 in
set_option maxRecDepth 100000 in
theorem kept_marked (n0 : Int) (g cap : Nat) (l0 : List Int) (A1 : Option Addr) (c1 : Nat) (w : World) (ht : Kd.C (Kd.int .u64) w (some ⟨g, 0, none⟩) (l0 ++ [theMark]).length (l0 ++ [theMark])) (hcap : (l0 ++ [theMark]).length ≤ cap) (hr1 : Kd.C (Kd.int .u64) w A1 l0.length l0) (hc1 : l0.length ≤ c1) :
    Calls Tryd.prog 22 #[.agg #[.int .i64 n0, .slice (some ⟨g, 0, none⟩) l0.length cap], .agg #[.int .i64 n0, .slice A1 l0.length c1]] w fun e w' => e = .returned (.bool true) ∧ Below w.heap.size w w' := by
  have hlen : (l0 ++ [theMark]).length = l0.length + 1 := by simp
  rw [hlen] at ht hcap
  have hb := ht.2.1
  obtain ⟨k, hk⟩ := same_sets n0 l0 (by omega)
  have h1 : Kd.C (Kd.int .u64) w (some ⟨g, 0, none⟩) l0.length l0 := by
    have ht2 := ht
    rw [← hlen] at ht2
    have h := Kd.C_take (m := l0.length) ht2 (by omega)
    simpa using h
  have HT := Aside0.mk h1
  have HM := Aside0.mk ht
  have HR := Aside0.mk hr1
  have HK := Aside0.mk hk
  clear ht h1 hr1 hk hlen
  have HB := Aside0.mk (Below.refl w.heap.size w)
  obtain ⟨i0, hi0, _, _, _⟩ := info_parts info87
  have hcut := cut_hm 22 87 Tryd.underlying22 hi0 g l0.length cap (l0.length + 1) hcap
  simp only [Int.natCast_add, Int.cast_ofNat_Int] at hcut
  clear hi0
  go_enter Tryd.func22, Tryd.ntmps22
  go_upto_region 1 with (first | ((with_reducible refine gate_dst (N := 2) rfl ?_); (try (refine gate_guard (by rfl) ?_; dsimp only)); refine box_event ?hg (N := 2) ?hd (cs := #[.int .i64 n0, .slice (some ⟨g, 0, none⟩) l0.length cap]) (t := 24) ?hr ?_; (case hd => rfl); (case hg => rfl); (case hr => first | (go_simp; done) | (go_simp; rfl)); intro gb101 hg w4 hbox hb; have n0_ := Aside0.mk (below_step (by repeat (first | (with_reducible first | exact HB.out | apply below_alloc | apply pw_below_drewN | apply below_drew1) | exact HB.out)) hb); have n1_ := Aside0.mk (hbox); have n2_ := Aside0.mk ((by rw [hg]; exact (below_size (by repeat (first | (with_reducible first | exact HB.out | apply below_alloc | apply pw_below_drewN | apply below_drew1) | exact HB.out))) : w.heap.size ≤ gb101)); have n3_ := Aside0.mk ((by rw [hg]; exact (below_size (by repeat (first | (with_reducible first | exact HB.out | apply below_alloc | apply pw_below_drewN | apply below_drew1) | exact HB.out))) : w.heap.size ≤ gb101)); clear HB; have HB := n0_; have BK101 := n1_; have GW101 := n2_; have GE101 := n3_; clear n0_ n1_ n2_ n3_; clear hb hbox hg) | ((with_reducible refine gate_dst (N := 3) rfl ?_); (try (refine gate_guard (by rfl) ?_; dsimp only)); refine box_event ?hg (N := 3) ?hd (cs := #[.int .i64 n0, .slice A1 l0.length c1]) (t := 24) ?hr ?_; (case hd => rfl); (case hg => rfl); (case hr => first | (go_simp; done) | (go_simp; rfl)); intro gb102 hg w5 hbox hb; have n0_ := Aside0.mk (blk_below (g := gb101) (o := .cells #[.int .i64 n0, .slice (some ⟨g, 0, none⟩) l0.length cap] 24 (0, 0)) (by (with_reducible repeat (first | refine blk_drewN ?_ _ | refine blk_drew ?_ | refine blk_alloc ?_ _)); exact BK101.out) hb); have n1_ := Aside0.mk (below_step (by repeat (first | (with_reducible first | exact HB.out | apply below_alloc | apply pw_below_drewN | apply below_drew1 | refine below_set ?_ GE101.out) | exact HB.out)) hb); have n2_ := Aside0.mk (hbox); have n3_ := Aside0.mk ((by rw [hg]; exact (below_size (by repeat (first | (with_reducible first | exact HB.out | apply below_alloc | apply pw_below_drewN | apply below_drew1 | refine below_set ?_ GE101.out) | exact HB.out))) : w.heap.size ≤ gb102)); have n4_ := Aside0.mk ((by rw [hg]; exact (below_size (by repeat (first | (with_reducible first | exact HB.out | apply below_alloc | apply pw_below_drewN | apply below_drew1 | refine below_set ?_ GE101.out) | exact HB.out))) : w.heap.size ≤ gb102)); have n5_ := Aside0.mk ((by rw [hg]; exact Nat.ne_of_lt (blk_lt (g := gb101) (o := .cells #[.int .i64 n0, .slice (some ⟨g, 0, none⟩) l0.length cap] 24 (0, 0)) (by (with_reducible repeat (first | refine blk_drewN ?_ _ | refine blk_drew ?_ | refine blk_alloc ?_ _)); exact BK101.out)) : gb101 ≠ gb102)); have n6_ := Aside0.mk ((by rw [hg]; exact Nat.ne_of_gt (blk_lt (g := gb101) (o := .cells #[.int .i64 n0, .slice (some ⟨g, 0, none⟩) l0.length cap] 24 (0, 0)) (by (with_reducible repeat (first | refine blk_drewN ?_ _ | refine blk_drew ?_ | refine blk_alloc ?_ _)); exact BK101.out)) : gb102 ≠ gb101)); clear BK101; clear HB; have BK101 := n0_; have HB := n1_; have BK102 := n2_; have GW102 := n3_; have GE102 := n4_; have NB101_102 := n5_; have NB102_101 := n6_; clear n0_ n1_ n2_ n3_ n4_ n5_ n6_; clear hb hbox hg))
  repeat (go_quiet (first | ((with_reducible refine gate_dst (N := 2) rfl ?_); (try (refine gate_guard (by rfl) ?_; dsimp only)); refine box_event ?hg (N := 2) ?hd (cs := #[.int .i64 n0, .slice (some ⟨g, 0, none⟩) l0.length cap]) (t := 24) ?hr ?_; (case hd => rfl); (case hg => rfl); (case hr => first | (go_simp; done) | (go_simp; rfl)); intro gb101 hg w4 hbox hb; have n0_ := Aside0.mk (below_step (by repeat (first | (with_reducible first | exact HB.out | apply below_alloc | apply pw_below_drewN | apply below_drew1) | exact HB.out)) hb); have n1_ := Aside0.mk (hbox); have n2_ := Aside0.mk ((by rw [hg]; exact (below_size (by repeat (first | (with_reducible first | exact HB.out | apply below_alloc | apply pw_below_drewN | apply below_drew1) | exact HB.out))) : w.heap.size ≤ gb101)); have n3_ := Aside0.mk ((by rw [hg]; exact (below_size (by repeat (first | (with_reducible first | exact HB.out | apply below_alloc | apply pw_below_drewN | apply below_drew1) | exact HB.out))) : w.heap.size ≤ gb101)); clear HB; have HB := n0_; have BK101 := n1_; have GW101 := n2_; have GE101 := n3_; clear n0_ n1_ n2_ n3_; clear hb hbox hg) | ((with_reducible refine gate_dst (N := 3) rfl ?_); (try (refine gate_guard (by rfl) ?_; dsimp only)); refine box_event ?hg (N := 3) ?hd (cs := #[.int .i64 n0, .slice A1 l0.length c1]) (t := 24) ?hr ?_; (case hd => rfl); (case hg => rfl); (case hr => first | (go_simp; done) | (go_simp; rfl)); intro gb102 hg w5 hbox hb; have n0_ := Aside0.mk (blk_below (g := gb101) (o := .cells #[.int .i64 n0, .slice (some ⟨g, 0, none⟩) l0.length cap] 24 (0, 0)) (by (with_reducible repeat (first | refine blk_drewN ?_ _ | refine blk_drew ?_ | refine blk_alloc ?_ _)); exact BK101.out) hb); have n1_ := Aside0.mk (below_step (by repeat (first | (with_reducible first | exact HB.out | apply below_alloc | apply pw_below_drewN | apply below_drew1 | refine below_set ?_ GE101.out) | exact HB.out)) hb); have n2_ := Aside0.mk (hbox); have n3_ := Aside0.mk ((by rw [hg]; exact (below_size (by repeat (first | (with_reducible first | exact HB.out | apply below_alloc | apply pw_below_drewN | apply below_drew1 | refine below_set ?_ GE101.out) | exact HB.out))) : w.heap.size ≤ gb102)); have n4_ := Aside0.mk ((by rw [hg]; exact (below_size (by repeat (first | (with_reducible first | exact HB.out | apply below_alloc | apply pw_below_drewN | apply below_drew1 | refine below_set ?_ GE101.out) | exact HB.out))) : w.heap.size ≤ gb102)); have n5_ := Aside0.mk ((by rw [hg]; exact Nat.ne_of_lt (blk_lt (g := gb101) (o := .cells #[.int .i64 n0, .slice (some ⟨g, 0, none⟩) l0.length cap] 24 (0, 0)) (by (with_reducible repeat (first | refine blk_drewN ?_ _ | refine blk_drew ?_ | refine blk_alloc ?_ _)); exact BK101.out)) : gb101 ≠ gb102)); have n6_ := Aside0.mk ((by rw [hg]; exact Nat.ne_of_gt (blk_lt (g := gb101) (o := .cells #[.int .i64 n0, .slice (some ⟨g, 0, none⟩) l0.length cap] 24 (0, 0)) (by (with_reducible repeat (first | refine blk_drewN ?_ _ | refine blk_drew ?_ | refine blk_alloc ?_ _)); exact BK101.out)) : gb102 ≠ gb101)); clear BK101; clear HB; have BK101 := n0_; have HB := n1_; have BK102 := n2_; have GW102 := n3_; have GE102 := n4_; have NB101_102 := n5_; have NB102_101 := n6_; clear n0_ n1_ n2_ n3_ n4_ n5_ n6_; clear hb hbox hg)); go_upto_region 1 with (first | ((with_reducible refine gate_dst (N := 2) rfl ?_); (try (refine gate_guard (by rfl) ?_; dsimp only)); refine box_event ?hg (N := 2) ?hd (cs := #[.int .i64 n0, .slice (some ⟨g, 0, none⟩) l0.length cap]) (t := 24) ?hr ?_; (case hd => rfl); (case hg => rfl); (case hr => first | (go_simp; done) | (go_simp; rfl)); intro gb101 hg w4 hbox hb; have n0_ := Aside0.mk (below_step (by repeat (first | (with_reducible first | exact HB.out | apply below_alloc | apply pw_below_drewN | apply below_drew1) | exact HB.out)) hb); have n1_ := Aside0.mk (hbox); have n2_ := Aside0.mk ((by rw [hg]; exact (below_size (by repeat (first | (with_reducible first | exact HB.out | apply below_alloc | apply pw_below_drewN | apply below_drew1) | exact HB.out))) : w.heap.size ≤ gb101)); have n3_ := Aside0.mk ((by rw [hg]; exact (below_size (by repeat (first | (with_reducible first | exact HB.out | apply below_alloc | apply pw_below_drewN | apply below_drew1) | exact HB.out))) : w.heap.size ≤ gb101)); clear HB; have HB := n0_; have BK101 := n1_; have GW101 := n2_; have GE101 := n3_; clear n0_ n1_ n2_ n3_; clear hb hbox hg) | ((with_reducible refine gate_dst (N := 3) rfl ?_); (try (refine gate_guard (by rfl) ?_; dsimp only)); refine box_event ?hg (N := 3) ?hd (cs := #[.int .i64 n0, .slice A1 l0.length c1]) (t := 24) ?hr ?_; (case hd => rfl); (case hg => rfl); (case hr => first | (go_simp; done) | (go_simp; rfl)); intro gb102 hg w5 hbox hb; have n0_ := Aside0.mk (blk_below (g := gb101) (o := .cells #[.int .i64 n0, .slice (some ⟨g, 0, none⟩) l0.length cap] 24 (0, 0)) (by (with_reducible repeat (first | refine blk_drewN ?_ _ | refine blk_drew ?_ | refine blk_alloc ?_ _)); exact BK101.out) hb); have n1_ := Aside0.mk (below_step (by repeat (first | (with_reducible first | exact HB.out | apply below_alloc | apply pw_below_drewN | apply below_drew1 | refine below_set ?_ GE101.out) | exact HB.out)) hb); have n2_ := Aside0.mk (hbox); have n3_ := Aside0.mk ((by rw [hg]; exact (below_size (by repeat (first | (with_reducible first | exact HB.out | apply below_alloc | apply pw_below_drewN | apply below_drew1 | refine below_set ?_ GE101.out) | exact HB.out))) : w.heap.size ≤ gb102)); have n4_ := Aside0.mk ((by rw [hg]; exact (below_size (by repeat (first | (with_reducible first | exact HB.out | apply below_alloc | apply pw_below_drewN | apply below_drew1 | refine below_set ?_ GE101.out) | exact HB.out))) : w.heap.size ≤ gb102)); have n5_ := Aside0.mk ((by rw [hg]; exact Nat.ne_of_lt (blk_lt (g := gb101) (o := .cells #[.int .i64 n0, .slice (some ⟨g, 0, none⟩) l0.length cap] 24 (0, 0)) (by (with_reducible repeat (first | refine blk_drewN ?_ _ | refine blk_drew ?_ | refine blk_alloc ?_ _)); exact BK101.out)) : gb101 ≠ gb102)); have n6_ := Aside0.mk ((by rw [hg]; exact Nat.ne_of_gt (blk_lt (g := gb101) (o := .cells #[.int .i64 n0, .slice (some ⟨g, 0, none⟩) l0.length cap] 24 (0, 0)) (by (with_reducible repeat (first | refine blk_drewN ?_ _ | refine blk_drew ?_ | refine blk_alloc ?_ _)); exact BK101.out)) : gb102 ≠ gb101)); clear BK101; clear HB; have BK101 := n0_; have HB := n1_; have BK102 := n2_; have GW102 := n3_; have GE102 := n4_; have NB101_102 := n5_; have NB102_101 := n6_; clear n0_ n1_ n2_ n3_ n4_ n5_ n6_; clear hb hbox hg)))
  (try simp only [Act.put, List.setIfInBounds_toArray, List.set_cons_zero, List.set_cons_succ])
  have hcz0_0 : w5.cell? ⟨gb101, 0, none⟩ = some (.int .i64 n0) := (blk_cell BK101.out 0).trans rfl
  have hcz0_1 : w5.cell? ⟨gb101, 1, none⟩ = some (.slice (some ⟨g, 0, none⟩) l0.length cap) := (blk_cell BK101.out 1).trans rfl
  have hfz0_0 := blk_frozen BK101.out 0
  have hfz0_1 := blk_frozen BK101.out 1
  have hcz1_0 : w5.cell? ⟨gb102, 0, none⟩ = some (.int .i64 n0) := (blk_cell BK102.out 0).trans rfl
  have hcz1_1 : w5.cell? ⟨gb102, 1, none⟩ = some (.slice A1 l0.length c1) := (blk_cell BK102.out 1).trans rfl
  have hfz1_0 := blk_frozen BK102.out 0
  have hfz1_1 := blk_frozen BK102.out 1
  go_wp2_with (first
    | ((with_reducible refine gate_callee (f := 20) rfl ?_); refine goesL_ (some 11) rfl rfl Tryd.func20 (by kernel_rfl) rfl #[.agg #[.int .i64 n0, .slice (some ⟨g, 0, none⟩) l0.length cap], .agg #[.int .i64 n0, .slice A1 l0.length c1]] rfl (by (try simp only [List.map_toArray, List.map_cons, List.map_nil]); first | done | rfl) ?_
       (with_reducible refine (slopelaw3_same.calls k n0 _ _ l0 n0 _ _ l0 true _ (Kd.C_below HT.out HB.out) (by omega) (Kd.C_below HR.out HB.out) hc1 HK.out).mono ?_)
       rintro e w' ⟨rfl, hbw⟩
       refine ⟨_, rfl, ?_⟩
       have HB2 := Aside0.mk (below_step HB.out hbw)
       have kb1 := blk_below (g := gb101) BK101.out hbw
       have hcy_1 : w'.cell? ⟨gb101, 1, none⟩ = some (.slice (some ⟨g, 0, none⟩) l0.length cap) := (blk_cell kb1 1).trans rfl
       have hfy_1 := blk_frozen kb1 1
       obtain ⟨ad, ea, hx⟩ := Kd.at_int (Kd.C_below HM.out HB2.out) (l0.length : Int) (by omega) (by omega)
       cases ea
       rw [Int.toNat_natCast, add_plain] at hx
       have hrd : rd (l0 ++ [theMark]) (l0.length : Int) = 8608480567731124087 := by simp [rd, List.getD_eq_getElem?_getD, theMark]
       rw [hrd] at hx
       clear kb1 hbw hrd))
  go_ret
  exact ⟨rfl, HB2.out⟩
end Go.Proofs.YtjmkhdhffmlhiaaDoor.PAll
end
section
namespace Go.Proofs.YtjmkhdhffmlhiaaDoor.PAll
set_option linter.unusedVariables false
open Go.RowKit Go.Proofs.YtjmkhdhffmlhiaaDoorW.PrintWords Go.Proofs.YtjmkhdhffmlhiaaDoorW.PrintLast Go.Proofs.YtjmkhdhffmlhiaaDoorW.PrintMore
theorem tws26_get {l : List S24} {i : Nat} (h : i < l.length) (z : Bool × S24) : (tws26 l).getD i z = (true, rd_T24 l (i : Int)) := by
  unfold tws26 yes26 rd_T24
  rw [List.getD_eq_getElem?_getD, List.getElem?_append_left (by simpa using h)]
  simp [List.getD_eq_getElem?_getD, List.getElem?_eq_getElem h]
theorem tws26_last {l : List S24} (z : Bool × S24) : (tws26 l).getD l.length z = (false, ⟨-7, []⟩) := by
  unfold tws26 yes26
  rw [List.getD_eq_getElem?_getD, List.getElem?_append_right (by simp)]
  simp
theorem at_tw {w : World} {g n : Nat} {l : List S24} (h : Kd.C tw26 w (some ⟨g, 0, none⟩) n (tws26 l)) {i : Nat} (hi : i < l.length) (hn : i < n) :
    ∃ g1 c1, w.cell? ⟨g, i * 2, none⟩ = some (.int .i64 (rd_T24 l (i : Int)).f0) ∧ w.cell? ⟨g, i * 2 + 1, none⟩ = some (.slice (some ⟨g1, 0, none⟩) (rd_T24 l (i : Int)).f1.length c1) ∧
      ((rd_T24 l (i : Int)).f1 ++ [theMark]).length ≤ c1 ∧ Kd.C (Kd.int .u64) w (some ⟨g1, 0, none⟩) ((rd_T24 l (i : Int)).f1 ++ [theMark]).length ((rd_T24 l (i : Int)).f1 ++ [theMark]) := by
  obtain ⟨ad, c, e, _, hK, hc⟩ := Kd.C_get h (false, ⟨0, []⟩) (i : Int) (by omega) (by omega)
  cases e
  rw [Int.toNat_natCast, tws26_get hi] at hK
  rw [Int.toNat_natCast] at hc
  rcases hK with ⟨_, c0, c1, rfl, h0, g1, cp, rfl, hl, hr⟩ | ⟨h0, _⟩
  · obtain rfl : c0 = [Value.int .i64 (rd_T24 l (i : Int)).f0] := h0
    have q0 := hc 0 _ rfl
    have q1 := hc 1 _ rfl
    rw [add_plain] at q0 q1
    exact ⟨g1, cp, q0, q1, hl, hr⟩
  · cases h0
theorem at_tw_last {w : World} {g n : Nat} {l : List S24} (h : Kd.C tw26 w (some ⟨g, 0, none⟩) n (tws26 l)) (hn : l.length < n) :
    w.cell? ⟨g, l.length * 2, none⟩ = some (.int .i64 (-7)) := by
  obtain ⟨ad, c, e, _, hK, hc⟩ := Kd.C_get h (false, ⟨0, []⟩) (l.length : Int) (by omega) (by omega)
  cases e
  rw [Int.toNat_natCast, tws26_last] at hK
  rw [Int.toNat_natCast] at hc
  rcases hK with ⟨h0, _⟩ | ⟨_, c0, c1, rfl, h0, _⟩
  · cases h0
  · obtain rfl : c0 = [Value.int .i64 (-7)] := h0
    have q0 := hc 0 _ rfl
    rw [add_plain] at q0
    exact q0
theorem tws_reads {W : World} {g : Nat} {l : List S24} (h : Kd.C tw26 W (some ⟨g, 0, none⟩) (tws26 l).length (tws26 l)) : Kd.C k24 W (some ⟨g, 0, none⟩) l.length l := by
  obtain ⟨h1, h2, h3⟩ := h
  obtain ⟨a, ea, h4⟩ := h3 (by rw [tws26_len]; omega)
  rw [tws26_len] at h2
  refine ⟨rfl, by omega, fun _ => ⟨a, ea, fun j p hj => ?_⟩⟩
  obtain ⟨hj', rfl⟩ := List.getElem?_eq_some_iff.1 hj
  have e1 : (tws26 l)[j]? = some (true, l[j]) := by
    unfold tws26 yes26
    rw [List.getElem?_append_left (by simpa using hj')]
    simp [List.getElem?_eq_getElem hj']
  obtain ⟨cs, k1, k2, k3⟩ := h4 j (true, l[j]) e1
  rcases k2 with ⟨_, c0, c1, rfl, e0, g1, cp, rfl, hl, hr⟩ | ⟨e, _⟩
  · have hr2 := Kd.C_take (m := l[j].f1.length) hr (by simp)
    have hl2 : l[j].f1.length ≤ cp := by simp at hl; omega
    exact ⟨_, k1, ⟨c0, _, rfl, e0, some ⟨g1, 0, none⟩, cp, rfl, hl2, by simpa using hr2⟩, k3⟩
  · cases e
theorem tws_fits {W : World} {g cap : Nat} {base : Nat} {ok : Nat → Prop} {l : List S24} (h : Kd.R tw26 24 W base ok (.slice (some ⟨g, 0, none⟩) (tws26 l).length cap) (tws26 l)) : l.length ≤ cap := by
  have h1 := (Kd.R_reads' h).2.1
  have h2 := tws26_len l
  omega
set_option maxHeartbeats 4000000 in
set_option maxRecDepth 100000 in
theorem keptAll_marked (g cap : Nat) (l0 : List S24) (A1 : Option Addr) (c1 : Nat) (w : World) (ht : Kd.C tw26 w (some ⟨g, 0, none⟩) (tws26 l0).length (tws26 l0)) (hcap : (tws26 l0).length ≤ cap) (hr1 : Kd.C k24 w A1 l0.length l0) (hc1 : l0.length ≤ c1) :
    Calls Tryd.prog 53 #[.slice (some ⟨g, 0, none⟩) l0.length cap, .slice A1 l0.length c1] w fun e w' => e = .returned (.bool true) ∧ Below w.heap.size w w' := by
  rw [tws26_len] at ht hcap
  have hb := ht.2.1
  have hlast := at_tw_last ht (by omega)
  have HT := Aside0.mk ht
  have HR := Aside0.mk hr1
  have HB := Aside0.mk (Below.refl w.heap.size w)
  obtain ⟨i0, hi0, _, _, _⟩ := info_parts info24
  have hcut := cut_hm 54 24 Tryd.underlying54 hi0 g l0.length cap (l0.length + 1) hcap
  simp only [Int.natCast_add, Int.cast_ofNat_Int] at hcut
  clear hi0 ht hr1
  go_enter Tryd.func53, Tryd.ntmps53
  go_wp2_with fail
  go_loopg [5] (l0.length) (fun gj v5 w2 => ∃ i : Nat, v5 = .int .i64 i ∧ Aside0 (gj + i = l0.length) ∧ Aside0 (Below w.heap.size w w2))
  case atStart => exact ⟨0, rfl, ⟨by simp⟩, HB⟩
  case round =>
    clear HB
    obtain ⟨i, rfl, hg2, HB⟩ := hrel
    by_cases hi : i < l0.length
    · obtain ⟨gj_, rfl⟩ : ∃ m, gk = m + 1 := ⟨gk - 1, by have := hg2.out; omega⟩
      have hd : decide (i < l0.length) = true := decide_eq_true hi
      have hi2 : i < cap := by omega
      obtain ⟨ad, A2, c2, e1, hx0, hx1, hl1, hi1⟩ := at_T24 HR.out (i : Int) (by omega) (by omega)
      cases e1
      replace hx0 := (HB.out.cell (World.block_lt_of_cell? w _ hx0)).trans hx0
      replace hx1 := (HB.out.cell (World.block_lt_of_cell? w _ hx1)).trans hx1
      rw [Int.toNat_natCast] at hx0 hx1
      obtain ⟨g1, cp, hy0, hy1, hl2, hi2'⟩ := at_tw HT.out hi (by omega)
      replace hy0 := (HB.out.cell (World.block_lt_of_cell? w _ hy0)).trans hy0
      replace hy1 := (HB.out.cell (World.block_lt_of_cell? w _ hy1)).trans hy1
      obtain ⟨x, hx⟩ : ∃ x, rd_T24 l0 (i : Int) = x := ⟨_, rfl⟩
      rw [hx] at hx0 hx1 hl1 hi1 hy0 hy1 hl2 hi2'
      have HL1 := Aside0.mk hl1
      have HI1 := Aside0.mk hi1
      have HL2 := Aside0.mk hl2
      have HI2 := Aside0.mk hi2'
      clear hl1 hi1 hl2 hi2' hx hlast
      go_wp2_with fail
      go_still_tail 8, (by kernel_rfl)
      go_wp2_with (first
        | ((with_reducible refine gate_callee (f := 22) rfl ?_); refine goesL_ (some 41) rfl rfl Tryd.func22 (by kernel_rfl) rfl #[.agg #[.int .i64 x.f0, .slice (some ⟨g1, 0, none⟩) x.f1.length cp], .agg #[.int .i64 x.f0, .slice A2 x.f1.length c2]] rfl (by (try simp only [List.map_toArray, List.map_cons, List.map_nil]); first | done | rfl) ?_
           (with_reducible refine (kept_marked x.f0 g1 cp x.f1 A2 c2 _ ?s1 HL2.out ?s3 HL1.out).mono ?_)
           (case s1 => exact Kd.C_below HI2.out (below_drew1 HB.out))
           (case s3 => exact Kd.C_below HI1.out (below_drew1 HB.out))
           rintro e w1 ⟨rfl, hb⟩
           refine ⟨_, rfl, ?_⟩
           have HB' := Aside0.mk (below_step (below_drew1 HB.out) hb)
           clear HB hb))
      go_roundg gj_
      case rel => exact ⟨i + 1, by go_num, ⟨by have := hg2.out; omega⟩, HB'⟩
      case measure => omega
    · have hd : decide (i < l0.length) = false := decide_eq_false hi
      go_wp2
      go_ret
      exact ⟨rfl, HB.out⟩
end Go.Proofs.YtjmkhdhffmlhiaaDoor.PAll
end
section
namespace Go.Proofs.YtjmkhdhffmlhiaaDoor.PAll
set_option linter.unusedVariables false
set_option linter.unusedSimpArgs false
open Go.RowKit Go.Shelf Go.Proofs.YtjmkhdhffmlhiaaDoorW.PrintWords Go.Proofs.YtjmkhdhffmlhiaaDoorW.PrintLast Go.Proofs.YtjmkhdhffmlhiaaDoorW.PrintMore
attribute [local go_sem] Oper.semAt_some
set_option maxHeartbeats 8000000 in
set_option maxRecDepth 100000 in
theorem BitProducts_walk (k1 k2 k3 k4 k5 k6 s1 s2 s3 : Nat) (n0 n1 : Int) (A0 : Option Addr) (c0 : Nat) (l0 : List S24) (B0 : Option Addr) (d0 : Nat) (lb : List S24) (w : World) (hr0 : Kd.C k24 w A0 l0.length l0) (hc_l0 : l0.length ≤ c0) (hr1 : Kd.C k24 w B0 lb.length lb) (hc_lb : lb.length ≤ d0) (hG : Tz w)
    (hn_l0 : l0.length * 32 ≤ 140737488351232) (he_l0 : ∀ x ∈ l0, x.f1.length * 8 ≤ 140737488351232) (hn_lb : lb.length * 32 ≤ 140737488351232) (he_lb : ∀ x ∈ lb, x.f1.length * 8 ≤ 140737488351232)
    (x1 x2 x3 e1 e2 e3 : Int) (y1 y2 y3 : List S24)
    (h1 : bitset_Product.f k1 n0 l0 n1 lb = some (x1, y1, e1)) (h2 : sloperef3_Product.f k2 n0 l0 n1 lb = some (x1, y1, e1)) (h3 : bitset_Both.f k3 n0 l0 = some (x2, y2, e2)) (h4 : sloperef3_Both.f k4 n0 l0 = some (x2, y2, e2)) (h5 : bitset_Closure.f k5 n0 l0 = some (x3, y3, e3)) (h6 : sloperef3_Closure.f k6 n0 l0 = some (x3, y3, e3))
    (t1 : slopelaw3_sameTable.f s1 x1 y1 x1 y1 = some true) (t2 : slopelaw3_sameTable.f s2 x2 y2 x2 y2 = some true) (t3 : slopelaw3_sameTable.f s3 x3 y3 x3 y3 = some true) :
    Calls Tryd.prog 9 #[.agg #[.int .i64 n0, .slice A0 l0.length c0], .agg #[.int .i64 n1, .slice B0 lb.length d0]] w fun e w' => e = .returned (.bool true) ∧ Below w.heap.size w w' := by
  have hu24 := Tryd.underlying24
  have hu56 := Tryd.underlying56
  have HC := Aside0.mk hr0
  have HO := Aside0.mk hr1
  have HG := Aside0.mk hG
  have H1 := Aside0.mk h1; have H2 := Aside0.mk h2; have H3 := Aside0.mk h3; have H4 := Aside0.mk h4; have H5 := Aside0.mk h5; have H6 := Aside0.mk h6; have S1 := Aside0.mk t1; have S2 := Aside0.mk t2; have S3 := Aside0.mk t3
  clear hr0 hr1 hG h1 h2 h3 h4 h5 h6 t1 t2 t3
  obtain ⟨o1, ho1⟩ : ∃ o1 : Obj, o1 = .cells #[.int .i64 n0, .slice A0 l0.length c0] 56 (0, 0) := ⟨_, rfl⟩
  obtain ⟨o2, ho2⟩ : ∃ o2 : Obj, o2 = .cells #[.int .i64 n1, .slice B0 lb.length d0] 56 (0, 0) := ⟨_, rfl⟩
  have K0 : ((w.alloc o1).alloc o2).heap[w.heap.size]? = some o1 := blk_alloc (blk_new w o1) _
  have K1 : ((w.alloc o1).alloc o2).heap[w.heap.size + 1]? = some o2 := by have := blk_new (w.alloc o1) o2; rwa [World.size_alloc] at this
  have HB0 : Below w.heap.size w ((w.alloc o1).alloc o2) := below_alloc (below_alloc (Below.refl _ _) _) _
  rw [ho1, ho2] at K0 K1 HB0
  clear ho1 ho2 o1 o2
  have KA := Aside0.mk K0
  have KO := Aside0.mk K1
  have HB := Aside0.mk HB0
  clear K0 K1 HB0
  refine (callsIn_wide (n := 6)).1 ?_
  refine callsIn_of_wp Tryd.func9 rfl trivial ?_ rfl
  simp only [Tryd.ntmps9, List.size_toArray, List.length_cons, List.length_nil, Nat.reduceAdd, Nat.reduceSub, Array.replicate_succ, Array.replicate_zero, List.push_toArray, List.append_toArray, List.nil_append, List.cons_append]
  have qKA0 := (blk_cell KA.out 0).trans rfl; have qKA1 := (blk_cell KA.out 1).trans rfl
  gi_wp2_with fail
  refine ⟨trivial, ?_⟩; gi_at_call 47
  refine (callsIn_wide.2 (twins_marked A0 c0 l0 _ (Kd.C_below HC.out HB.out) hc_l0 hn_l0 he_l0)).mono ?_
  rintro e w1 ⟨gHT, capHT, rfl, ho, hb⟩
  have mHT := Aside0.mk ho; clear ho
  have nKA_ := Aside0.mk (blk_below KA.out hb)
  have nKO_ := Aside0.mk (blk_below KO.out hb)
  have nHB_ := Aside0.mk (below_step HB.out hb)
  clear KA KO HB
  have KA := nKA_; have KO := nKO_; have HB := nHB_
  clear nKA_ nKO_ nHB_
  clear hb; have HT := mHT; clear mHT
  clear qKA0 qKA1
  have qKO0 := (blk_cell KO.out 0).trans rfl; have qKO1 := (blk_cell KO.out 1).trans rfl
  gi_wp2_with fail
  refine ⟨trivial, ?_⟩; gi_at_call 47
  refine (callsIn_wide.2 (twins_marked B0 d0 lb _ (Kd.C_below HO.out HB.out) hc_lb hn_lb he_lb)).mono ?_
  rintro e w2 ⟨gHU, capHU, rfl, ho, hb⟩
  have mHU := Aside0.mk ho; clear ho
  have nKA_ := Aside0.mk (blk_below KA.out hb)
  have nKO_ := Aside0.mk (blk_below KO.out hb)
  have nHB_ := Aside0.mk (below_step HB.out hb)
  have nHT_ := Aside0.mk (Kd.R_below HT.out hb)
  clear KA KO HB HT
  have KA := nKA_; have KO := nKO_; have HB := nHB_; have HT := nHT_
  clear nKA_ nKO_ nHB_ nHT_
  clear hb; have HU := mHU; clear mHU
  clear qKO0 qKO1
  have qKA0 := (blk_cell KA.out 0).trans rfl; have qKA1 := (blk_cell KA.out 1).trans rfl
  have qKO0 := (blk_cell KO.out 0).trans rfl; have qKO1 := (blk_cell KO.out 1).trans rfl
  have lT := Aside0.mk (tws_fits HT.out); have lU := Aside0.mk (tws_fits HU.out)
  have y1 := blk_alloc (blk_new w2 (.cells #[.int .i64 n0, .slice (some ⟨gHT, 0, none⟩) l0.length capHT] 56 (0, 0))) (.cells #[.int .i64 n1, .slice (some ⟨gHU, 0, none⟩) lb.length capHU] 56 (0, 0)); have y2 : ((w2.alloc (.cells #[.int .i64 n0, .slice (some ⟨gHT, 0, none⟩) l0.length capHT] 56 (0, 0))).alloc (.cells #[.int .i64 n1, .slice (some ⟨gHU, 0, none⟩) lb.length capHU] 56 (0, 0))).heap[w2.heap.size + 1]? = some (.cells #[.int .i64 n1, .slice (some ⟨gHU, 0, none⟩) lb.length capHU] 56 (0, 0)) := by have := blk_new (w2.alloc (.cells #[.int .i64 n0, .slice (some ⟨gHT, 0, none⟩) l0.length capHT] 56 (0, 0))) (.cells #[.int .i64 n1, .slice (some ⟨gHU, 0, none⟩) lb.length capHU] 56 (0, 0)); rwa [World.size_alloc] at this
  have e0 := (blk_cell (blk_alloc KO.out (.cells #[.int .i64 n0, .slice (some ⟨gHT, 0, none⟩) l0.length capHT] 56 (0, 0))) 0).trans rfl
  have qT0 := (blk_cell y1 0).trans rfl; have qT1 := (blk_cell y1 1).trans rfl; have qU0 := (blk_cell y2 0).trans rfl; have qU1 := (blk_cell y2 1).trans rfl
  have KT := Aside0.mk y1; have KU := Aside0.mk y2; clear y1 y2
  have nKA_ := Aside0.mk (blk_alloc KA.out (.cells #[.int .i64 n0, .slice (some ⟨gHT, 0, none⟩) l0.length capHT] 56 (0, 0)))
  have nKO_ := Aside0.mk (blk_alloc KO.out (.cells #[.int .i64 n0, .slice (some ⟨gHT, 0, none⟩) l0.length capHT] 56 (0, 0)))
  have nHB_ := Aside0.mk (below_alloc HB.out (.cells #[.int .i64 n0, .slice (some ⟨gHT, 0, none⟩) l0.length capHT] 56 (0, 0)))
  have nHT_ := Aside0.mk (Kd.R_alloc HT.out (.cells #[.int .i64 n0, .slice (some ⟨gHT, 0, none⟩) l0.length capHT] 56 (0, 0)))
  have nHU_ := Aside0.mk (Kd.R_alloc HU.out (.cells #[.int .i64 n0, .slice (some ⟨gHT, 0, none⟩) l0.length capHT] 56 (0, 0)))
  clear KA KO HB HT HU
  have KA := nKA_; have KO := nKO_; have HB := nHB_; have HT := nHT_; have HU := nHU_
  clear nKA_ nKO_ nHB_ nHT_ nHU_
  have nKA_ := Aside0.mk (blk_alloc KA.out (.cells #[.int .i64 n1, .slice (some ⟨gHU, 0, none⟩) lb.length capHU] 56 (0, 0)))
  have nKO_ := Aside0.mk (blk_alloc KO.out (.cells #[.int .i64 n1, .slice (some ⟨gHU, 0, none⟩) lb.length capHU] 56 (0, 0)))
  have nHB_ := Aside0.mk (below_alloc HB.out (.cells #[.int .i64 n1, .slice (some ⟨gHU, 0, none⟩) lb.length capHU] 56 (0, 0)))
  have nHT_ := Aside0.mk (Kd.R_alloc HT.out (.cells #[.int .i64 n1, .slice (some ⟨gHU, 0, none⟩) lb.length capHU] 56 (0, 0)))
  have nHU_ := Aside0.mk (Kd.R_alloc HU.out (.cells #[.int .i64 n1, .slice (some ⟨gHU, 0, none⟩) lb.length capHU] 56 (0, 0)))
  clear KA KO HB HT HU
  have KA := nKA_; have KO := nKO_; have HB := nHB_; have HT := nHT_; have HU := nHU_
  clear nKA_ nKO_ nHB_ nHT_ nHU_
  gi_wp2_with fail
  refine ⟨trivial, ?_⟩; gi_at_call 46
  refine (callsIn_wide.2 (bitset_Product.calls k1 n0 _ _ l0 n1 _ _ lb _ _ _ _ (tws_reads (Kd.R_reads' HT.out).2.2) lT.out (tws_reads (Kd.R_reads' HU.out).2.2) lU.out (tz_at HG.out HB.out) H1.out)).mono ?_
  rintro e w3 ⟨vt, rfl, ho, hb⟩
  obtain ⟨AQ1, cQ1, et⟩ := Kd.S_slice ho
  subst et
  have lQ1 := Aside0.mk (Kd.S_reads' ho).2.1; have mQ1 := Aside0.mk (Kd.S_reads' ho).2.2
  clear ho
  have nKA_ := Aside0.mk (blk_below KA.out hb)
  have nKO_ := Aside0.mk (blk_below KO.out hb)
  have nHB_ := Aside0.mk (below_step HB.out hb)
  have nHT_ := Aside0.mk (Kd.R_below HT.out hb)
  have nHU_ := Aside0.mk (Kd.R_below HU.out hb)
  have nKT_ := Aside0.mk (blk_below KT.out hb)
  have nKU_ := Aside0.mk (blk_below KU.out hb)
  clear KA KO HB HT HU KT KU
  have KA := nKA_; have KO := nKO_; have HB := nHB_; have HT := nHT_; have HU := nHU_; have KT := nKT_; have KU := nKU_
  clear nKA_ nKO_ nHB_ nHT_ nHU_ nKT_ nKU_
  have Q1 := mQ1; clear mQ1
  have xK1 := Aside0.mk (blk_new w3 (.cells #[.int .i64 x1, .slice AQ1 y1.length cQ1] 56 (0, 0)))
  clear hb
  have nKA_ := Aside0.mk (blk_alloc KA.out (.cells #[.int .i64 x1, .slice AQ1 y1.length cQ1] 56 (0, 0)))
  have nKO_ := Aside0.mk (blk_alloc KO.out (.cells #[.int .i64 x1, .slice AQ1 y1.length cQ1] 56 (0, 0)))
  have nHB_ := Aside0.mk (below_alloc HB.out (.cells #[.int .i64 x1, .slice AQ1 y1.length cQ1] 56 (0, 0)))
  have nHT_ := Aside0.mk (Kd.R_alloc HT.out (.cells #[.int .i64 x1, .slice AQ1 y1.length cQ1] 56 (0, 0)))
  have nHU_ := Aside0.mk (Kd.R_alloc HU.out (.cells #[.int .i64 x1, .slice AQ1 y1.length cQ1] 56 (0, 0)))
  have nKT_ := Aside0.mk (blk_alloc KT.out (.cells #[.int .i64 x1, .slice AQ1 y1.length cQ1] 56 (0, 0)))
  have nKU_ := Aside0.mk (blk_alloc KU.out (.cells #[.int .i64 x1, .slice AQ1 y1.length cQ1] 56 (0, 0)))
  have nQ1_ := Aside0.mk (Kd.C_alloc Q1.out (.cells #[.int .i64 x1, .slice AQ1 y1.length cQ1] 56 (0, 0)))
  clear KA KO HB HT HU KT KU Q1
  have KA := nKA_; have KO := nKO_; have HB := nHB_; have HT := nHT_; have HU := nHU_; have KT := nKT_; have KU := nKU_; have Q1 := nQ1_
  clear nKA_ nKO_ nHB_ nHT_ nHU_ nKT_ nKU_ nQ1_
  have K1 := xK1; clear xK1
  clear qT0 qT1 qU0 qU1 qKA0 qKA1 qKO0 qKO1 e0
  have qKA0 := (blk_cell KA.out 0).trans rfl; have qKA1 := (blk_cell KA.out 1).trans rfl
  have qKO0 := (blk_cell KO.out 0).trans rfl; have qKO1 := (blk_cell KO.out 1).trans rfl
  gi_wp2_with fail
  refine ⟨trivial, ?_⟩; gi_at_call 54
  refine (callsIn_wide.2 (sloperef3_Product.calls k2 n0 _ _ l0 n1 _ _ lb _ _ _ _ (Kd.C_below HC.out HB.out) hc_l0 (Kd.C_below HO.out HB.out) hc_lb H2.out)).mono ?_
  rintro e w4 ⟨vt, rfl, ho, hb⟩
  obtain ⟨AQ2, cQ2, et⟩ := Kd.S_slice ho
  subst et
  have lQ2 := Aside0.mk (Kd.S_reads' ho).2.1; have mQ2 := Aside0.mk (Kd.S_reads' ho).2.2
  clear ho
  have nKA_ := Aside0.mk (blk_below KA.out hb)
  have nKO_ := Aside0.mk (blk_below KO.out hb)
  have nHB_ := Aside0.mk (below_step HB.out hb)
  have nHT_ := Aside0.mk (Kd.R_below HT.out hb)
  have nHU_ := Aside0.mk (Kd.R_below HU.out hb)
  have nKT_ := Aside0.mk (blk_below KT.out hb)
  have nKU_ := Aside0.mk (blk_below KU.out hb)
  have nQ1_ := Aside0.mk (Kd.C_below Q1.out hb)
  have nK1_ := Aside0.mk (blk_below K1.out hb)
  clear KA KO HB HT HU KT KU Q1 K1
  have KA := nKA_; have KO := nKO_; have HB := nHB_; have HT := nHT_; have HU := nHU_; have KT := nKT_; have KU := nKU_; have Q1 := nQ1_; have K1 := nK1_
  clear nKA_ nKO_ nHB_ nHT_ nHU_ nKT_ nKU_ nQ1_ nK1_
  have Q2 := mQ2; clear mQ2
  have xK2 := Aside0.mk (blk_new w4 (.cells #[.int .i64 x1, .slice AQ2 y1.length cQ2] 56 (0, 0)))
  clear hb
  have nKA_ := Aside0.mk (blk_alloc KA.out (.cells #[.int .i64 x1, .slice AQ2 y1.length cQ2] 56 (0, 0)))
  have nKO_ := Aside0.mk (blk_alloc KO.out (.cells #[.int .i64 x1, .slice AQ2 y1.length cQ2] 56 (0, 0)))
  have nHB_ := Aside0.mk (below_alloc HB.out (.cells #[.int .i64 x1, .slice AQ2 y1.length cQ2] 56 (0, 0)))
  have nHT_ := Aside0.mk (Kd.R_alloc HT.out (.cells #[.int .i64 x1, .slice AQ2 y1.length cQ2] 56 (0, 0)))
  have nHU_ := Aside0.mk (Kd.R_alloc HU.out (.cells #[.int .i64 x1, .slice AQ2 y1.length cQ2] 56 (0, 0)))
  have nKT_ := Aside0.mk (blk_alloc KT.out (.cells #[.int .i64 x1, .slice AQ2 y1.length cQ2] 56 (0, 0)))
  have nKU_ := Aside0.mk (blk_alloc KU.out (.cells #[.int .i64 x1, .slice AQ2 y1.length cQ2] 56 (0, 0)))
  have nQ1_ := Aside0.mk (Kd.C_alloc Q1.out (.cells #[.int .i64 x1, .slice AQ2 y1.length cQ2] 56 (0, 0)))
  have nK1_ := Aside0.mk (blk_alloc K1.out (.cells #[.int .i64 x1, .slice AQ2 y1.length cQ2] 56 (0, 0)))
  have nQ2_ := Aside0.mk (Kd.C_alloc Q2.out (.cells #[.int .i64 x1, .slice AQ2 y1.length cQ2] 56 (0, 0)))
  clear KA KO HB HT HU KT KU Q1 K1 Q2
  have KA := nKA_; have KO := nKO_; have HB := nHB_; have HT := nHT_; have HU := nHU_; have KT := nKT_; have KU := nKU_; have Q1 := nQ1_; have K1 := nK1_; have Q2 := nQ2_
  clear nKA_ nKO_ nHB_ nHT_ nHU_ nKT_ nKU_ nQ1_ nK1_ nQ2_
  have K2 := xK2; clear xK2
  clear qKA0 qKA1 qKO0 qKO1
  have qKT0 := (blk_cell KT.out 0).trans rfl; have qKT1 := (blk_cell KT.out 1).trans rfl
  gi_wp2_with fail
  refine ⟨trivial, ?_⟩; gi_at_call 45
  refine (callsIn_wide.2 (bitset_Both.calls k3 n0 _ _ l0 _ _ _ _ (tws_reads (Kd.R_reads' HT.out).2.2) lT.out (tz_at HG.out HB.out) H3.out)).mono ?_
  rintro e w5 ⟨vt, rfl, ho, hb⟩
  obtain ⟨AQ3, cQ3, et⟩ := Kd.S_slice ho
  subst et
  have lQ3 := Aside0.mk (Kd.S_reads' ho).2.1; have mQ3 := Aside0.mk (Kd.S_reads' ho).2.2
  clear ho
  have nKA_ := Aside0.mk (blk_below KA.out hb)
  have nKO_ := Aside0.mk (blk_below KO.out hb)
  have nHB_ := Aside0.mk (below_step HB.out hb)
  have nHT_ := Aside0.mk (Kd.R_below HT.out hb)
  have nHU_ := Aside0.mk (Kd.R_below HU.out hb)
  have nKT_ := Aside0.mk (blk_below KT.out hb)
  have nKU_ := Aside0.mk (blk_below KU.out hb)
  have nQ1_ := Aside0.mk (Kd.C_below Q1.out hb)
  have nK1_ := Aside0.mk (blk_below K1.out hb)
  have nQ2_ := Aside0.mk (Kd.C_below Q2.out hb)
  have nK2_ := Aside0.mk (blk_below K2.out hb)
  clear KA KO HB HT HU KT KU Q1 K1 Q2 K2
  have KA := nKA_; have KO := nKO_; have HB := nHB_; have HT := nHT_; have HU := nHU_; have KT := nKT_; have KU := nKU_; have Q1 := nQ1_; have K1 := nK1_; have Q2 := nQ2_; have K2 := nK2_
  clear nKA_ nKO_ nHB_ nHT_ nHU_ nKT_ nKU_ nQ1_ nK1_ nQ2_ nK2_
  have Q3 := mQ3; clear mQ3
  have xK3 := Aside0.mk (blk_new w5 (.cells #[.int .i64 x2, .slice AQ3 y2.length cQ3] 56 (0, 0)))
  clear hb
  have nKA_ := Aside0.mk (blk_alloc KA.out (.cells #[.int .i64 x2, .slice AQ3 y2.length cQ3] 56 (0, 0)))
  have nKO_ := Aside0.mk (blk_alloc KO.out (.cells #[.int .i64 x2, .slice AQ3 y2.length cQ3] 56 (0, 0)))
  have nHB_ := Aside0.mk (below_alloc HB.out (.cells #[.int .i64 x2, .slice AQ3 y2.length cQ3] 56 (0, 0)))
  have nHT_ := Aside0.mk (Kd.R_alloc HT.out (.cells #[.int .i64 x2, .slice AQ3 y2.length cQ3] 56 (0, 0)))
  have nHU_ := Aside0.mk (Kd.R_alloc HU.out (.cells #[.int .i64 x2, .slice AQ3 y2.length cQ3] 56 (0, 0)))
  have nKT_ := Aside0.mk (blk_alloc KT.out (.cells #[.int .i64 x2, .slice AQ3 y2.length cQ3] 56 (0, 0)))
  have nKU_ := Aside0.mk (blk_alloc KU.out (.cells #[.int .i64 x2, .slice AQ3 y2.length cQ3] 56 (0, 0)))
  have nQ1_ := Aside0.mk (Kd.C_alloc Q1.out (.cells #[.int .i64 x2, .slice AQ3 y2.length cQ3] 56 (0, 0)))
  have nK1_ := Aside0.mk (blk_alloc K1.out (.cells #[.int .i64 x2, .slice AQ3 y2.length cQ3] 56 (0, 0)))
  have nQ2_ := Aside0.mk (Kd.C_alloc Q2.out (.cells #[.int .i64 x2, .slice AQ3 y2.length cQ3] 56 (0, 0)))
  have nK2_ := Aside0.mk (blk_alloc K2.out (.cells #[.int .i64 x2, .slice AQ3 y2.length cQ3] 56 (0, 0)))
  have nQ3_ := Aside0.mk (Kd.C_alloc Q3.out (.cells #[.int .i64 x2, .slice AQ3 y2.length cQ3] 56 (0, 0)))
  clear KA KO HB HT HU KT KU Q1 K1 Q2 K2 Q3
  have KA := nKA_; have KO := nKO_; have HB := nHB_; have HT := nHT_; have HU := nHU_; have KT := nKT_; have KU := nKU_; have Q1 := nQ1_; have K1 := nK1_; have Q2 := nQ2_; have K2 := nK2_; have Q3 := nQ3_
  clear nKA_ nKO_ nHB_ nHT_ nHU_ nKT_ nKU_ nQ1_ nK1_ nQ2_ nK2_ nQ3_
  have K3 := xK3; clear xK3
  clear qKT0 qKT1
  have qKA0 := (blk_cell KA.out 0).trans rfl; have qKA1 := (blk_cell KA.out 1).trans rfl
  gi_wp2_with fail
  refine ⟨trivial, ?_⟩; gi_at_call 55
  refine (callsIn_wide.2 (sloperef3_Both.calls k4 n0 _ _ l0 _ _ _ _ (Kd.C_below HC.out HB.out) hc_l0 H4.out)).mono ?_
  rintro e w6 ⟨vt, rfl, ho, hb⟩
  obtain ⟨AQ4, cQ4, et⟩ := Kd.S_slice ho
  subst et
  have lQ4 := Aside0.mk (Kd.S_reads' ho).2.1; have mQ4 := Aside0.mk (Kd.S_reads' ho).2.2
  clear ho
  have nKA_ := Aside0.mk (blk_below KA.out hb)
  have nKO_ := Aside0.mk (blk_below KO.out hb)
  have nHB_ := Aside0.mk (below_step HB.out hb)
  have nHT_ := Aside0.mk (Kd.R_below HT.out hb)
  have nHU_ := Aside0.mk (Kd.R_below HU.out hb)
  have nKT_ := Aside0.mk (blk_below KT.out hb)
  have nKU_ := Aside0.mk (blk_below KU.out hb)
  have nQ1_ := Aside0.mk (Kd.C_below Q1.out hb)
  have nK1_ := Aside0.mk (blk_below K1.out hb)
  have nQ2_ := Aside0.mk (Kd.C_below Q2.out hb)
  have nK2_ := Aside0.mk (blk_below K2.out hb)
  have nQ3_ := Aside0.mk (Kd.C_below Q3.out hb)
  have nK3_ := Aside0.mk (blk_below K3.out hb)
  clear KA KO HB HT HU KT KU Q1 K1 Q2 K2 Q3 K3
  have KA := nKA_; have KO := nKO_; have HB := nHB_; have HT := nHT_; have HU := nHU_; have KT := nKT_; have KU := nKU_; have Q1 := nQ1_; have K1 := nK1_; have Q2 := nQ2_; have K2 := nK2_; have Q3 := nQ3_; have K3 := nK3_
  clear nKA_ nKO_ nHB_ nHT_ nHU_ nKT_ nKU_ nQ1_ nK1_ nQ2_ nK2_ nQ3_ nK3_
  have Q4 := mQ4; clear mQ4
  have xK4 := Aside0.mk (blk_new w6 (.cells #[.int .i64 x2, .slice AQ4 y2.length cQ4] 56 (0, 0)))
  clear hb
  have nKA_ := Aside0.mk (blk_alloc KA.out (.cells #[.int .i64 x2, .slice AQ4 y2.length cQ4] 56 (0, 0)))
  have nKO_ := Aside0.mk (blk_alloc KO.out (.cells #[.int .i64 x2, .slice AQ4 y2.length cQ4] 56 (0, 0)))
  have nHB_ := Aside0.mk (below_alloc HB.out (.cells #[.int .i64 x2, .slice AQ4 y2.length cQ4] 56 (0, 0)))
  have nHT_ := Aside0.mk (Kd.R_alloc HT.out (.cells #[.int .i64 x2, .slice AQ4 y2.length cQ4] 56 (0, 0)))
  have nHU_ := Aside0.mk (Kd.R_alloc HU.out (.cells #[.int .i64 x2, .slice AQ4 y2.length cQ4] 56 (0, 0)))
  have nKT_ := Aside0.mk (blk_alloc KT.out (.cells #[.int .i64 x2, .slice AQ4 y2.length cQ4] 56 (0, 0)))
  have nKU_ := Aside0.mk (blk_alloc KU.out (.cells #[.int .i64 x2, .slice AQ4 y2.length cQ4] 56 (0, 0)))
  have nQ1_ := Aside0.mk (Kd.C_alloc Q1.out (.cells #[.int .i64 x2, .slice AQ4 y2.length cQ4] 56 (0, 0)))
  have nK1_ := Aside0.mk (blk_alloc K1.out (.cells #[.int .i64 x2, .slice AQ4 y2.length cQ4] 56 (0, 0)))
  have nQ2_ := Aside0.mk (Kd.C_alloc Q2.out (.cells #[.int .i64 x2, .slice AQ4 y2.length cQ4] 56 (0, 0)))
  have nK2_ := Aside0.mk (blk_alloc K2.out (.cells #[.int .i64 x2, .slice AQ4 y2.length cQ4] 56 (0, 0)))
  have nQ3_ := Aside0.mk (Kd.C_alloc Q3.out (.cells #[.int .i64 x2, .slice AQ4 y2.length cQ4] 56 (0, 0)))
  have nK3_ := Aside0.mk (blk_alloc K3.out (.cells #[.int .i64 x2, .slice AQ4 y2.length cQ4] 56 (0, 0)))
  have nQ4_ := Aside0.mk (Kd.C_alloc Q4.out (.cells #[.int .i64 x2, .slice AQ4 y2.length cQ4] 56 (0, 0)))
  clear KA KO HB HT HU KT KU Q1 K1 Q2 K2 Q3 K3 Q4
  have KA := nKA_; have KO := nKO_; have HB := nHB_; have HT := nHT_; have HU := nHU_; have KT := nKT_; have KU := nKU_; have Q1 := nQ1_; have K1 := nK1_; have Q2 := nQ2_; have K2 := nK2_; have Q3 := nQ3_; have K3 := nK3_; have Q4 := nQ4_
  clear nKA_ nKO_ nHB_ nHT_ nHU_ nKT_ nKU_ nQ1_ nK1_ nQ2_ nK2_ nQ3_ nK3_ nQ4_
  have K4 := xK4; clear xK4
  clear qKA0 qKA1
  have qKT0 := (blk_cell KT.out 0).trans rfl; have qKT1 := (blk_cell KT.out 1).trans rfl
  gi_wp2_with fail
  refine ⟨trivial, ?_⟩; gi_at_call 56
  refine (callsIn_wide.2 (bitset_Closure.calls k5 n0 _ _ l0 _ _ _ _ (tws_reads (Kd.R_reads' HT.out).2.2) lT.out H5.out)).mono ?_
  rintro e w7 ⟨vt, rfl, ho, hb⟩
  obtain ⟨AQ5, cQ5, et⟩ := Kd.S_slice ho
  subst et
  have lQ5 := Aside0.mk (Kd.S_reads' ho).2.1; have mQ5 := Aside0.mk (Kd.S_reads' ho).2.2
  clear ho
  have nKA_ := Aside0.mk (blk_below KA.out hb)
  have nKO_ := Aside0.mk (blk_below KO.out hb)
  have nHB_ := Aside0.mk (below_step HB.out hb)
  have nHT_ := Aside0.mk (Kd.R_below HT.out hb)
  have nHU_ := Aside0.mk (Kd.R_below HU.out hb)
  have nKT_ := Aside0.mk (blk_below KT.out hb)
  have nKU_ := Aside0.mk (blk_below KU.out hb)
  have nQ1_ := Aside0.mk (Kd.C_below Q1.out hb)
  have nK1_ := Aside0.mk (blk_below K1.out hb)
  have nQ2_ := Aside0.mk (Kd.C_below Q2.out hb)
  have nK2_ := Aside0.mk (blk_below K2.out hb)
  have nQ3_ := Aside0.mk (Kd.C_below Q3.out hb)
  have nK3_ := Aside0.mk (blk_below K3.out hb)
  have nQ4_ := Aside0.mk (Kd.C_below Q4.out hb)
  have nK4_ := Aside0.mk (blk_below K4.out hb)
  clear KA KO HB HT HU KT KU Q1 K1 Q2 K2 Q3 K3 Q4 K4
  have KA := nKA_; have KO := nKO_; have HB := nHB_; have HT := nHT_; have HU := nHU_; have KT := nKT_; have KU := nKU_; have Q1 := nQ1_; have K1 := nK1_; have Q2 := nQ2_; have K2 := nK2_; have Q3 := nQ3_; have K3 := nK3_; have Q4 := nQ4_; have K4 := nK4_
  clear nKA_ nKO_ nHB_ nHT_ nHU_ nKT_ nKU_ nQ1_ nK1_ nQ2_ nK2_ nQ3_ nK3_ nQ4_ nK4_
  have Q5 := mQ5; clear mQ5
  have xK5 := Aside0.mk (blk_new w7 (.cells #[.int .i64 x3, .slice AQ5 y3.length cQ5] 56 (0, 0)))
  clear hb
  have nKA_ := Aside0.mk (blk_alloc KA.out (.cells #[.int .i64 x3, .slice AQ5 y3.length cQ5] 56 (0, 0)))
  have nKO_ := Aside0.mk (blk_alloc KO.out (.cells #[.int .i64 x3, .slice AQ5 y3.length cQ5] 56 (0, 0)))
  have nHB_ := Aside0.mk (below_alloc HB.out (.cells #[.int .i64 x3, .slice AQ5 y3.length cQ5] 56 (0, 0)))
  have nHT_ := Aside0.mk (Kd.R_alloc HT.out (.cells #[.int .i64 x3, .slice AQ5 y3.length cQ5] 56 (0, 0)))
  have nHU_ := Aside0.mk (Kd.R_alloc HU.out (.cells #[.int .i64 x3, .slice AQ5 y3.length cQ5] 56 (0, 0)))
  have nKT_ := Aside0.mk (blk_alloc KT.out (.cells #[.int .i64 x3, .slice AQ5 y3.length cQ5] 56 (0, 0)))
  have nKU_ := Aside0.mk (blk_alloc KU.out (.cells #[.int .i64 x3, .slice AQ5 y3.length cQ5] 56 (0, 0)))
  have nQ1_ := Aside0.mk (Kd.C_alloc Q1.out (.cells #[.int .i64 x3, .slice AQ5 y3.length cQ5] 56 (0, 0)))
  have nK1_ := Aside0.mk (blk_alloc K1.out (.cells #[.int .i64 x3, .slice AQ5 y3.length cQ5] 56 (0, 0)))
  have nQ2_ := Aside0.mk (Kd.C_alloc Q2.out (.cells #[.int .i64 x3, .slice AQ5 y3.length cQ5] 56 (0, 0)))
  have nK2_ := Aside0.mk (blk_alloc K2.out (.cells #[.int .i64 x3, .slice AQ5 y3.length cQ5] 56 (0, 0)))
  have nQ3_ := Aside0.mk (Kd.C_alloc Q3.out (.cells #[.int .i64 x3, .slice AQ5 y3.length cQ5] 56 (0, 0)))
  have nK3_ := Aside0.mk (blk_alloc K3.out (.cells #[.int .i64 x3, .slice AQ5 y3.length cQ5] 56 (0, 0)))
  have nQ4_ := Aside0.mk (Kd.C_alloc Q4.out (.cells #[.int .i64 x3, .slice AQ5 y3.length cQ5] 56 (0, 0)))
  have nK4_ := Aside0.mk (blk_alloc K4.out (.cells #[.int .i64 x3, .slice AQ5 y3.length cQ5] 56 (0, 0)))
  have nQ5_ := Aside0.mk (Kd.C_alloc Q5.out (.cells #[.int .i64 x3, .slice AQ5 y3.length cQ5] 56 (0, 0)))
  clear KA KO HB HT HU KT KU Q1 K1 Q2 K2 Q3 K3 Q4 K4 Q5
  have KA := nKA_; have KO := nKO_; have HB := nHB_; have HT := nHT_; have HU := nHU_; have KT := nKT_; have KU := nKU_; have Q1 := nQ1_; have K1 := nK1_; have Q2 := nQ2_; have K2 := nK2_; have Q3 := nQ3_; have K3 := nK3_; have Q4 := nQ4_; have K4 := nK4_; have Q5 := nQ5_
  clear nKA_ nKO_ nHB_ nHT_ nHU_ nKT_ nKU_ nQ1_ nK1_ nQ2_ nK2_ nQ3_ nK3_ nQ4_ nK4_ nQ5_
  have K5 := xK5; clear xK5
  clear qKT0 qKT1
  have qKA0 := (blk_cell KA.out 0).trans rfl; have qKA1 := (blk_cell KA.out 1).trans rfl
  gi_wp2_with fail
  refine ⟨trivial, ?_⟩; gi_at_call 57
  refine (callsIn_wide.2 (sloperef3_Closure.calls k6 n0 _ _ l0 _ _ _ _ (Kd.C_below HC.out HB.out) hc_l0 H6.out)).mono ?_
  rintro e w8 ⟨vt, rfl, ho, hb⟩
  obtain ⟨AQ6, cQ6, et⟩ := Kd.S_slice ho
  subst et
  have lQ6 := Aside0.mk (Kd.S_reads' ho).2.1; have mQ6 := Aside0.mk (Kd.S_reads' ho).2.2
  clear ho
  have nKA_ := Aside0.mk (blk_below KA.out hb)
  have nKO_ := Aside0.mk (blk_below KO.out hb)
  have nHB_ := Aside0.mk (below_step HB.out hb)
  have nHT_ := Aside0.mk (Kd.R_below HT.out hb)
  have nHU_ := Aside0.mk (Kd.R_below HU.out hb)
  have nKT_ := Aside0.mk (blk_below KT.out hb)
  have nKU_ := Aside0.mk (blk_below KU.out hb)
  have nQ1_ := Aside0.mk (Kd.C_below Q1.out hb)
  have nK1_ := Aside0.mk (blk_below K1.out hb)
  have nQ2_ := Aside0.mk (Kd.C_below Q2.out hb)
  have nK2_ := Aside0.mk (blk_below K2.out hb)
  have nQ3_ := Aside0.mk (Kd.C_below Q3.out hb)
  have nK3_ := Aside0.mk (blk_below K3.out hb)
  have nQ4_ := Aside0.mk (Kd.C_below Q4.out hb)
  have nK4_ := Aside0.mk (blk_below K4.out hb)
  have nQ5_ := Aside0.mk (Kd.C_below Q5.out hb)
  have nK5_ := Aside0.mk (blk_below K5.out hb)
  clear KA KO HB HT HU KT KU Q1 K1 Q2 K2 Q3 K3 Q4 K4 Q5 K5
  have KA := nKA_; have KO := nKO_; have HB := nHB_; have HT := nHT_; have HU := nHU_; have KT := nKT_; have KU := nKU_; have Q1 := nQ1_; have K1 := nK1_; have Q2 := nQ2_; have K2 := nK2_; have Q3 := nQ3_; have K3 := nK3_; have Q4 := nQ4_; have K4 := nK4_; have Q5 := nQ5_; have K5 := nK5_
  clear nKA_ nKO_ nHB_ nHT_ nHU_ nKT_ nKU_ nQ1_ nK1_ nQ2_ nK2_ nQ3_ nK3_ nQ4_ nK4_ nQ5_ nK5_
  have Q6 := mQ6; clear mQ6
  have xK6 := Aside0.mk (blk_new w8 (.cells #[.int .i64 x3, .slice AQ6 y3.length cQ6] 56 (0, 0)))
  clear hb
  have nKA_ := Aside0.mk (blk_alloc KA.out (.cells #[.int .i64 x3, .slice AQ6 y3.length cQ6] 56 (0, 0)))
  have nKO_ := Aside0.mk (blk_alloc KO.out (.cells #[.int .i64 x3, .slice AQ6 y3.length cQ6] 56 (0, 0)))
  have nHB_ := Aside0.mk (below_alloc HB.out (.cells #[.int .i64 x3, .slice AQ6 y3.length cQ6] 56 (0, 0)))
  have nHT_ := Aside0.mk (Kd.R_alloc HT.out (.cells #[.int .i64 x3, .slice AQ6 y3.length cQ6] 56 (0, 0)))
  have nHU_ := Aside0.mk (Kd.R_alloc HU.out (.cells #[.int .i64 x3, .slice AQ6 y3.length cQ6] 56 (0, 0)))
  have nKT_ := Aside0.mk (blk_alloc KT.out (.cells #[.int .i64 x3, .slice AQ6 y3.length cQ6] 56 (0, 0)))
  have nKU_ := Aside0.mk (blk_alloc KU.out (.cells #[.int .i64 x3, .slice AQ6 y3.length cQ6] 56 (0, 0)))
  have nQ1_ := Aside0.mk (Kd.C_alloc Q1.out (.cells #[.int .i64 x3, .slice AQ6 y3.length cQ6] 56 (0, 0)))
  have nK1_ := Aside0.mk (blk_alloc K1.out (.cells #[.int .i64 x3, .slice AQ6 y3.length cQ6] 56 (0, 0)))
  have nQ2_ := Aside0.mk (Kd.C_alloc Q2.out (.cells #[.int .i64 x3, .slice AQ6 y3.length cQ6] 56 (0, 0)))
  have nK2_ := Aside0.mk (blk_alloc K2.out (.cells #[.int .i64 x3, .slice AQ6 y3.length cQ6] 56 (0, 0)))
  have nQ3_ := Aside0.mk (Kd.C_alloc Q3.out (.cells #[.int .i64 x3, .slice AQ6 y3.length cQ6] 56 (0, 0)))
  have nK3_ := Aside0.mk (blk_alloc K3.out (.cells #[.int .i64 x3, .slice AQ6 y3.length cQ6] 56 (0, 0)))
  have nQ4_ := Aside0.mk (Kd.C_alloc Q4.out (.cells #[.int .i64 x3, .slice AQ6 y3.length cQ6] 56 (0, 0)))
  have nK4_ := Aside0.mk (blk_alloc K4.out (.cells #[.int .i64 x3, .slice AQ6 y3.length cQ6] 56 (0, 0)))
  have nQ5_ := Aside0.mk (Kd.C_alloc Q5.out (.cells #[.int .i64 x3, .slice AQ6 y3.length cQ6] 56 (0, 0)))
  have nK5_ := Aside0.mk (blk_alloc K5.out (.cells #[.int .i64 x3, .slice AQ6 y3.length cQ6] 56 (0, 0)))
  have nQ6_ := Aside0.mk (Kd.C_alloc Q6.out (.cells #[.int .i64 x3, .slice AQ6 y3.length cQ6] 56 (0, 0)))
  clear KA KO HB HT HU KT KU Q1 K1 Q2 K2 Q3 K3 Q4 K4 Q5 K5 Q6
  have KA := nKA_; have KO := nKO_; have HB := nHB_; have HT := nHT_; have HU := nHU_; have KT := nKT_; have KU := nKU_; have Q1 := nQ1_; have K1 := nK1_; have Q2 := nQ2_; have K2 := nK2_; have Q3 := nQ3_; have K3 := nK3_; have Q4 := nQ4_; have K4 := nK4_; have Q5 := nQ5_; have K5 := nK5_; have Q6 := nQ6_
  clear nKA_ nKO_ nHB_ nHT_ nHU_ nKT_ nKU_ nQ1_ nK1_ nQ2_ nK2_ nQ3_ nK3_ nQ4_ nK4_ nQ5_ nK5_ nQ6_
  have K6 := xK6; clear xK6
  clear qKA0 qKA1
  have qK10 := (blk_cell K1.out 0).trans rfl; have qK11 := (blk_cell K1.out 1).trans rfl
  have qK20 := (blk_cell K2.out 0).trans rfl; have qK21 := (blk_cell K2.out 1).trans rfl
  gi_wp2_with fail
  refine ⟨trivial, ?_⟩; gi_at_call 44
  refine (callsIn_wide.2 (slopelaw3_sameTable.calls s1 x1 _ _ y1 x1 _ _ y1 _ _ Q1.out lQ1.out Q2.out lQ2.out S1.out)).mono ?_
  rintro e w9 ⟨rfl, hb⟩
  clear qK10 qK11 qK20 qK21
  have nKA_ := Aside0.mk (blk_below KA.out hb)
  have nKO_ := Aside0.mk (blk_below KO.out hb)
  have nHB_ := Aside0.mk (below_step HB.out hb)
  have nHT_ := Aside0.mk (Kd.R_below HT.out hb)
  have nHU_ := Aside0.mk (Kd.R_below HU.out hb)
  have nKT_ := Aside0.mk (blk_below KT.out hb)
  have nKU_ := Aside0.mk (blk_below KU.out hb)
  have nQ3_ := Aside0.mk (Kd.C_below Q3.out hb)
  have nK3_ := Aside0.mk (blk_below K3.out hb)
  have nQ4_ := Aside0.mk (Kd.C_below Q4.out hb)
  have nK4_ := Aside0.mk (blk_below K4.out hb)
  have nQ5_ := Aside0.mk (Kd.C_below Q5.out hb)
  have nK5_ := Aside0.mk (blk_below K5.out hb)
  have nQ6_ := Aside0.mk (Kd.C_below Q6.out hb)
  have nK6_ := Aside0.mk (blk_below K6.out hb)
  clear KA KO HB HT HU KT KU Q3 K3 Q4 K4 Q5 K5 Q6 K6 K1 K2 Q1 Q2
  have KA := nKA_; have KO := nKO_; have HB := nHB_; have HT := nHT_; have HU := nHU_; have KT := nKT_; have KU := nKU_; have Q3 := nQ3_; have K3 := nK3_; have Q4 := nQ4_; have K4 := nK4_; have Q5 := nQ5_; have K5 := nK5_; have Q6 := nQ6_; have K6 := nK6_
  clear nKA_ nKO_ nHB_ nHT_ nHU_ nKT_ nKU_ nQ3_ nK3_ nQ4_ nK4_ nQ5_ nK5_ nQ6_ nK6_
  clear hb
  gi_wp2_with fail
  refine ⟨trivial, ?_⟩; gi_at_call 21
  refine (callsIn_wide.2 (slopelaw3_num.calls e1 e1 _ rfl)).mono ?_
  rintro e w10 ⟨rfl, hd⟩
  have hb := hd.below; clear hd
  have nKA_ := Aside0.mk (blk_below KA.out hb)
  have nKO_ := Aside0.mk (blk_below KO.out hb)
  have nHB_ := Aside0.mk (below_step HB.out hb)
  have nHT_ := Aside0.mk (Kd.R_below HT.out hb)
  have nHU_ := Aside0.mk (Kd.R_below HU.out hb)
  have nKT_ := Aside0.mk (blk_below KT.out hb)
  have nKU_ := Aside0.mk (blk_below KU.out hb)
  have nQ3_ := Aside0.mk (Kd.C_below Q3.out hb)
  have nK3_ := Aside0.mk (blk_below K3.out hb)
  have nQ4_ := Aside0.mk (Kd.C_below Q4.out hb)
  have nK4_ := Aside0.mk (blk_below K4.out hb)
  have nQ5_ := Aside0.mk (Kd.C_below Q5.out hb)
  have nK5_ := Aside0.mk (blk_below K5.out hb)
  have nQ6_ := Aside0.mk (Kd.C_below Q6.out hb)
  have nK6_ := Aside0.mk (blk_below K6.out hb)
  clear KA KO HB HT HU KT KU Q3 K3 Q4 K4 Q5 K5 Q6 K6
  have KA := nKA_; have KO := nKO_; have HB := nHB_; have HT := nHT_; have HU := nHU_; have KT := nKT_; have KU := nKU_; have Q3 := nQ3_; have K3 := nK3_; have Q4 := nQ4_; have K4 := nK4_; have Q5 := nQ5_; have K5 := nK5_; have Q6 := nQ6_; have K6 := nK6_
  clear nKA_ nKO_ nHB_ nHT_ nHU_ nKT_ nKU_ nQ3_ nK3_ nQ4_ nK4_ nQ5_ nK5_ nQ6_ nK6_
  clear hb
  have qK30 := (blk_cell K3.out 0).trans rfl; have qK31 := (blk_cell K3.out 1).trans rfl
  have qK40 := (blk_cell K4.out 0).trans rfl; have qK41 := (blk_cell K4.out 1).trans rfl
  gi_wp2_with fail
  refine ⟨trivial, ?_⟩; gi_at_call 44
  refine (callsIn_wide.2 (slopelaw3_sameTable.calls s2 x2 _ _ y2 x2 _ _ y2 _ _ Q3.out lQ3.out Q4.out lQ4.out S2.out)).mono ?_
  rintro e w11 ⟨rfl, hb⟩
  clear qK30 qK31 qK40 qK41
  have nKA_ := Aside0.mk (blk_below KA.out hb)
  have nKO_ := Aside0.mk (blk_below KO.out hb)
  have nHB_ := Aside0.mk (below_step HB.out hb)
  have nHT_ := Aside0.mk (Kd.R_below HT.out hb)
  have nHU_ := Aside0.mk (Kd.R_below HU.out hb)
  have nKT_ := Aside0.mk (blk_below KT.out hb)
  have nKU_ := Aside0.mk (blk_below KU.out hb)
  have nQ5_ := Aside0.mk (Kd.C_below Q5.out hb)
  have nK5_ := Aside0.mk (blk_below K5.out hb)
  have nQ6_ := Aside0.mk (Kd.C_below Q6.out hb)
  have nK6_ := Aside0.mk (blk_below K6.out hb)
  clear KA KO HB HT HU KT KU Q5 K5 Q6 K6 K3 K4 Q3 Q4
  have KA := nKA_; have KO := nKO_; have HB := nHB_; have HT := nHT_; have HU := nHU_; have KT := nKT_; have KU := nKU_; have Q5 := nQ5_; have K5 := nK5_; have Q6 := nQ6_; have K6 := nK6_
  clear nKA_ nKO_ nHB_ nHT_ nHU_ nKT_ nKU_ nQ5_ nK5_ nQ6_ nK6_
  clear hb
  gi_wp2_with fail
  refine ⟨trivial, ?_⟩; gi_at_call 21
  refine (callsIn_wide.2 (slopelaw3_num.calls e2 e2 _ rfl)).mono ?_
  rintro e w12 ⟨rfl, hd⟩
  have hb := hd.below; clear hd
  have nKA_ := Aside0.mk (blk_below KA.out hb)
  have nKO_ := Aside0.mk (blk_below KO.out hb)
  have nHB_ := Aside0.mk (below_step HB.out hb)
  have nHT_ := Aside0.mk (Kd.R_below HT.out hb)
  have nHU_ := Aside0.mk (Kd.R_below HU.out hb)
  have nKT_ := Aside0.mk (blk_below KT.out hb)
  have nKU_ := Aside0.mk (blk_below KU.out hb)
  have nQ5_ := Aside0.mk (Kd.C_below Q5.out hb)
  have nK5_ := Aside0.mk (blk_below K5.out hb)
  have nQ6_ := Aside0.mk (Kd.C_below Q6.out hb)
  have nK6_ := Aside0.mk (blk_below K6.out hb)
  clear KA KO HB HT HU KT KU Q5 K5 Q6 K6
  have KA := nKA_; have KO := nKO_; have HB := nHB_; have HT := nHT_; have HU := nHU_; have KT := nKT_; have KU := nKU_; have Q5 := nQ5_; have K5 := nK5_; have Q6 := nQ6_; have K6 := nK6_
  clear nKA_ nKO_ nHB_ nHT_ nHU_ nKT_ nKU_ nQ5_ nK5_ nQ6_ nK6_
  clear hb
  have qK50 := (blk_cell K5.out 0).trans rfl; have qK51 := (blk_cell K5.out 1).trans rfl
  have qK60 := (blk_cell K6.out 0).trans rfl; have qK61 := (blk_cell K6.out 1).trans rfl
  gi_wp2_with fail
  refine ⟨trivial, ?_⟩; gi_at_call 44
  refine (callsIn_wide.2 (slopelaw3_sameTable.calls s3 x3 _ _ y3 x3 _ _ y3 _ _ Q5.out lQ5.out Q6.out lQ6.out S3.out)).mono ?_
  rintro e w13 ⟨rfl, hb⟩
  clear qK50 qK51 qK60 qK61
  have nKA_ := Aside0.mk (blk_below KA.out hb)
  have nKO_ := Aside0.mk (blk_below KO.out hb)
  have nHB_ := Aside0.mk (below_step HB.out hb)
  have nHT_ := Aside0.mk (Kd.R_below HT.out hb)
  have nHU_ := Aside0.mk (Kd.R_below HU.out hb)
  have nKT_ := Aside0.mk (blk_below KT.out hb)
  have nKU_ := Aside0.mk (blk_below KU.out hb)
  clear KA KO HB HT HU KT KU K5 K6 Q5 Q6
  have KA := nKA_; have KO := nKO_; have HB := nHB_; have HT := nHT_; have HU := nHU_; have KT := nKT_; have KU := nKU_
  clear nKA_ nKO_ nHB_ nHT_ nHU_ nKT_ nKU_
  clear hb
  gi_wp2_with fail
  refine ⟨trivial, ?_⟩; gi_at_call 21
  refine (callsIn_wide.2 (slopelaw3_num.calls e3 e3 _ rfl)).mono ?_
  rintro e w14 ⟨rfl, hd⟩
  have hb := hd.below; clear hd
  have nKA_ := Aside0.mk (blk_below KA.out hb)
  have nKO_ := Aside0.mk (blk_below KO.out hb)
  have nHB_ := Aside0.mk (below_step HB.out hb)
  have nHT_ := Aside0.mk (Kd.R_below HT.out hb)
  have nHU_ := Aside0.mk (Kd.R_below HU.out hb)
  have nKT_ := Aside0.mk (blk_below KT.out hb)
  have nKU_ := Aside0.mk (blk_below KU.out hb)
  clear KA KO HB HT HU KT KU
  have KA := nKA_; have KO := nKO_; have HB := nHB_; have HT := nHT_; have HU := nHU_; have KT := nKT_; have KU := nKU_
  clear nKA_ nKO_ nHB_ nHT_ nHU_ nKT_ nKU_
  clear hb
  have qKA0 := (blk_cell KA.out 0).trans rfl; have qKA1 := (blk_cell KA.out 1).trans rfl
  gi_wp2_with fail
  refine ⟨trivial, ?_⟩; gi_at_call 53
  refine (callsIn_wide.2 (keptAll_marked gHT capHT l0 A0 c0 _ (Kd.R_reads' HT.out).2.2 (Kd.R_reads' HT.out).2.1 (Kd.C_below HC.out HB.out) hc_l0)).mono ?_
  rintro e w15 ⟨rfl, hb⟩
  clear qKA0 qKA1
  have nKA_ := Aside0.mk (blk_below KA.out hb)
  have nKO_ := Aside0.mk (blk_below KO.out hb)
  have nHB_ := Aside0.mk (below_step HB.out hb)
  have nHU_ := Aside0.mk (Kd.R_below HU.out hb)
  have nKT_ := Aside0.mk (blk_below KT.out hb)
  have nKU_ := Aside0.mk (blk_below KU.out hb)
  clear KA KO HB HU KT KU HT
  have KA := nKA_; have KO := nKO_; have HB := nHB_; have HU := nHU_; have KT := nKT_; have KU := nKU_
  clear nKA_ nKO_ nHB_ nHU_ nKT_ nKU_
  clear hb
  have qKO0 := (blk_cell KO.out 0).trans rfl; have qKO1 := (blk_cell KO.out 1).trans rfl
  gi_wp2_with fail
  refine ⟨trivial, ?_⟩; gi_at_call 53
  refine (callsIn_wide.2 (keptAll_marked gHU capHU lb B0 d0 _ (Kd.R_reads' HU.out).2.2 (Kd.R_reads' HU.out).2.1 (Kd.C_below HO.out HB.out) hc_lb)).mono ?_
  rintro e w16 ⟨rfl, hb⟩
  clear qKO0 qKO1
  have nKA_ := Aside0.mk (blk_below KA.out hb)
  have nKO_ := Aside0.mk (blk_below KO.out hb)
  have nHB_ := Aside0.mk (below_step HB.out hb)
  have nKT_ := Aside0.mk (blk_below KT.out hb)
  have nKU_ := Aside0.mk (blk_below KU.out hb)
  clear KA KO HB KT KU HU
  have KA := nKA_; have KO := nKO_; have HB := nHB_; have KT := nKT_; have KU := nKU_
  clear nKA_ nKO_ nHB_ nKT_ nKU_
  clear hb
  gi_wp2_with fail
  refine bodyPost_ret (v := .bool true) ?_ rfl ⟨rfl, HB.out⟩
  simp [results, Tryd.f9, go_sem]
theorem BitProducts_calls (n0 n1 : Int) (A0 : Option Addr) (c0 : Nat) (l0 : List S24) (B0 : Option Addr) (d0 : Nat) (lb : List S24) (w : World) (hr0 : Kd.C k24 w A0 l0.length l0) (hc0 : l0.length ≤ c0) (hr1 : Kd.C k24 w B0 lb.length lb) (hc1 : lb.length ≤ d0) (hG : Tz w)
    (hn0 : l0.length * 32 ≤ 140737488351232) (he0 : ∀ x ∈ l0, x.f1.length * 8 ≤ 140737488351232) (hn1 : lb.length * 32 ≤ 140737488351232) (he1 : ∀ x ∈ lb, x.f1.length * 8 ≤ 140737488351232) (hg0 : Goods l0) (hg1 : Goods lb) :
    Calls Tryd.prog 9 #[.agg #[.int .i64 n0, .slice A0 l0.length c0], .agg #[.int .i64 n1, .slice B0 lb.length d0]] w fun e w' => e = .returned (.bool true) ∧ Below w.heap.size w w' := by
  obtain ⟨x1, y1, e1, ⟨k1, h1⟩, ⟨k2, h2⟩, s1, t1⟩ := Products_alike n0 n1 l0 lb (by omega) hg0 (by omega) hg1
  obtain ⟨x2, y2, e2, ⟨k3, h3⟩, ⟨k4, h4⟩, s2, t2⟩ := Boths_alike n0 l0 (by omega) hg0
  obtain ⟨x3, y3, e3, ⟨k5, h5⟩, ⟨k6, h6⟩, s3, t3⟩ := Closures_alike n0 l0 (by omega) hg0
  exact BitProducts_walk k1 k2 k3 k4 k5 k6 s1 s2 s3 n0 n1 A0 c0 l0 B0 d0 lb w hr0 hc0 hr1 hc1 hG hn0 he0 hn1 he1 x1 x2 x3 e1 e2 e3 y1 y2 y3 (h1 k1 (Nat.le_refl _)) (h2 k2 (Nat.le_refl _)) (h3 k3 (Nat.le_refl _)) (h4 k4 (Nat.le_refl _)) (h5 k5 (Nat.le_refl _)) (h6 k6 (Nat.le_refl _)) (t1 s1 (Nat.le_refl _)) (t2 s2 (Nat.le_refl _)) (t3 s3 (Nat.le_refl _))
end Go.Proofs.YtjmkhdhffmlhiaaDoor.PAll
end
