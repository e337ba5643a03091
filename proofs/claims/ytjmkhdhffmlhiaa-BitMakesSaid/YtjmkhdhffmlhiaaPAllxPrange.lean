/- What Range and the document's answer to it come to: plain laws. -/
import Derived.Test.YtjmkhdhffmlhiaaPAllxPmake
import Derived.Test.YtjmkhdhffmlhiaaPAllxQbitsetXRange
import Derived.Test.YtjmkhdhffmlhiaaPAllxQsloperef3XRange
namespace Go.Proofs.Ytjmkhdhffmlhiaa.PAll
open Go.RowKit Go.Proofs.YtjmkhdhffmlhiaaW.PrintWords Go.Proofs.YtjmkhdhffmlhiaaW.PrintMore

theorem mx_eq (a b : Int) : mx a b = max a b := by unfold mx; omega
theorem mn_eq (a b : Int) : mn a b = min a b := by unfold mn; omega

theorem from_eq (lo i : Nat) (h : (lo : Int) ≤ 9223372036854775807) (hi : i ≤ 64) : mx (wrap64 ((lo : Int) - ((64 * i : Nat) : Int))) 0 = ((lo - 64 * i : Nat) : Int) := by
  rw [w64_nat (by omega) (by omega)]
  unfold mx
  split <;> omega
theorem upto_eq (hi i : Nat) (h : hi ≤ 4096) (h2 : i ≤ 64) : mn (wrap64 ((hi : Int) - ((64 * i : Nat) : Int))) 64 = min ((hi : Int) - 64 * i) 64 := by
  rw [w64_nat (by omega) (by omega)]
  unfold mn
  split <;> omega
set_option maxHeartbeats 1000000 in
theorem Range_loop (n lo hi : Nat) (hn : n ≤ 4096) (hlo : (lo : Int) ≤ 9223372036854775807) (hhi : hi ≤ n) : ∀ (d i : Nat) (ws : List Int), i + d = ws.length → ws.length = (n + 63) / 64 → Wds ws →
    (∀ e, hb ws e = (decide (e < 64 * i) && (decide (lo ≤ e) && decide (e < hi)))) →
    ∃ ws', Is n (fun e => decide (lo ≤ e) && decide (e < hi)) ws' ∧ Ev (fun k => bitset_Range.l0 k (lo : Int) (hi : Int) (ws.length : Int) (i : Int) (n : Int) ws) ((n : Int), ws', 0) := by
  intro d
  induction d with
  | zero =>
    intro i ws h1 h2 hw h3
    refine ⟨ws, ⟨h2, hw, fun e => ?_⟩, ⟨1, fun k hk => ?_⟩⟩
    · rw [h3]
      by_cases h4 : e < hi
      · have h5 : e < 64 * i := by omega
        have h6 : e < n := by omega
        simp [h4, h5, h6]
      · simp [h4]
    · obtain ⟨k, rfl⟩ : ∃ m, k = m + 1 := ⟨k - 1, by omega⟩
      simp only [bitset_Range.l0]
      rw [if_neg (by omega)]
  | succ d ih =>
    intro i ws h1 h2 hw h3
    have hi64 : i < 64 := by omega
    have Hi1 := Aside0.mk (show wrap64 ((i : Int) * 64) = ((64 * i : Nat) : Int) by unfold wrap64; omega)
    have Hf := Aside0.mk (from_eq lo i hlo (by omega))
    have Ht := Aside0.mk (upto_eq hi i (by omega) (by omega))
    have Hinc := Aside0.mk (show wrap64 ((i : Int) + 1) = ((i + 1 : Nat) : Int) by unfold wrap64; omega)
    by_cases hlt : lo - 64 * i < min (hi - 64 * i) 64 ∧ 64 * i < hi
    · obtain ⟨f, hfd⟩ : ∃ f, lo - 64 * i = f := ⟨_, rfl⟩
      obtain ⟨t, htd⟩ : ∃ t, min (hi - 64 * i) 64 = t := ⟨_, rfl⟩
      have hft : f < t := by omega
      have ht64 : t ≤ 64 := by omega
      have ht0 : min ((hi : Int) - 64 * i) 64 = (t : Int) := by omega
      have hsp := fun j => span_tb hft ht64 j
      have Hd1 := Aside0.mk (show wrap64 ((t : Int) - (f : Int)) = (t : Int) - (f : Int) from w64_nat (by omega) (by omega))
      have Hd2 := Aside0.mk (show wrap64 (64 - ((t : Int) - (f : Int))) = 64 - ((t : Int) - (f : Int)) from w64_nat (by omega) (by omega))
      obtain ⟨v, hv⟩ : ∃ v, shl .u64 (shr .u64 18446744073709551615 (64 - ((t : Int) - (f : Int)))) (f : Int) = v := ⟨_, rfl⟩
      rw [hv] at hsp
      have Hv := Aside0.mk hv
      clear hv
      have hlen : (ws.set i v).length = ws.length := by simp
      obtain ⟨ws', h4, h5⟩ := ih (i + 1) (ws.set i v) (by omega) (by omega) (hw.set i (hsp 0).2) (fun e => by
        rw [hb_set _ _ _ (by omega)]
        by_cases he : i = e / 64
        · rw [if_pos he, (hsp _).1]
          have h7 : e < 64 * (i + 1) := by omega
          have h8 : f ≤ e % 64 ↔ lo ≤ e := by omega
          have h9 : e % 64 < t ↔ e < hi := by omega
          simp only [h7, h8, h9, decide_true, Bool.true_and]
        · rw [if_neg he, h3]
          have h7 : e < 64 * i ↔ e < 64 * (i + 1) := by omega
          simp only [h7])
      rw [hlen] at h5
      refine ⟨ws', h4, Ev.step (fun k => ?_) h5⟩
      conv => lhs; rw [bitset_Range.l0]
      rw [if_pos (by omega), Hi1.out, Hf.out, Ht.out, ht0, hfd, if_pos (by omega), Hd1.out, Hd2.out, if_pos (by omega), if_pos (by omega), if_pos (by omega), Hinc.out, Hv.out, Int.toNat_natCast]
    · obtain ⟨ws', h4, h5⟩ := ih (i + 1) ws (by omega) h2 hw (fun e => by
        rw [h3]
        by_cases he : i = e / 64
        · have h6 : ¬ (lo ≤ e ∧ e < hi) := by omega
          rw [← Bool.decide_and, decide_eq_false h6]
          simp
        · have h7 : e < 64 * i ↔ e < 64 * (i + 1) := by omega
          simp only [h7])
      refine ⟨ws', h4, Ev.step (fun k => ?_) h5⟩
      conv => lhs; rw [bitset_Range.l0]
      rw [if_pos (by omega), Hi1.out, Hf.out, Ht.out, if_neg (by omega), Hinc.out]
/-- What Range answers. -/
def RangeSays (size lo hi : Int) (r : Int × List Int × Int) : Prop :=
  ((size < 0 ∨ 4096 < size) ∧ r = (0, [], 60)) ∨ (0 ≤ size ∧ size ≤ 4096 ∧ ∃ ws, Is size.toNat (fun e => decide (lo ≤ (e : Int)) && decide ((e : Int) < hi)) ws ∧ r = (size, ws, 0))
theorem RangeSays.eq {size lo hi : Int} {r q : Int × List Int × Int} (h : RangeSays size lo hi r) (k : RangeSays size lo hi q) : r = q := by
  rcases h with ⟨h1, rfl⟩ | ⟨h1, h2, ws, h4, rfl⟩ <;> rcases k with ⟨k1, rfl⟩ | ⟨k1, k2, vs, k4, rfl⟩
  · rfl
  · omega
  · omega
  · rw [h4.eq k4 (fun _ _ => rfl)]
theorem Range_eq (size lo hi : Int) (hl : lo ≤ 9223372036854775807) : ∃ r, RangeSays size lo hi r ∧ Ev (fun k => bitset_Range.f k size lo hi) r := by
  by_cases hs : 0 ≤ size ∧ size ≤ 4096
  · obtain ⟨n, rfl⟩ := Int.eq_ofNat_of_zero_le hs.1
    have hn : n ≤ 4096 := by omega
    have h1 : mx lo 0 = (lo.toNat : Int) := by rw [mx_eq]; omega
    have h2 : mx (mn hi (n : Int)) 0 = ((min hi (n : Int)).toNat : Int) := by rw [mx_eq, mn_eq]; omega
    have hlen : (List.replicate ((n + 63) / 64) (0 : Int)).length = (n + 63) / 64 := by simp
    obtain ⟨ws, h3, h4⟩ := Range_loop n lo.toNat (min hi (n : Int)).toNat hn (by omega) (by omega) ((n + 63) / 64) 0 (List.replicate ((n + 63) / 64) 0) (by omega) hlen (Wds.replicate _) (fun e => by rw [hb_replicate]; simp)
    refine ⟨_, .inr ⟨by omega, by omega, ws, ?_, rfl⟩, Ev.congr (fun k => ?_) h4⟩
    · rw [Int.toNat_natCast]
      refine h3.congr fun e he => ?_
      rw [← Bool.decide_and, ← Bool.decide_and]
      congr 1
      simp only [eq_iff_iff]
      omega
    · unfold bitset_Range.f
      rw [sized_yes hn, Option.bind_some, if_pos rfl, blank_eq hn, Option.bind_some, h1, h2]
      rfl
  · refine ⟨_, .inl ⟨by omega, rfl⟩, Ev.const fun k => ?_⟩
    unfold bitset_Range.f
    rw [sized_no (by omega), Option.bind_some, if_neg (by simp)]
theorem rRange_loop (n : Nat) (lo hi : Int) (hn : n ≤ 4096) : ∀ (d i : Nat) (inb : List Bool), i + d = n → inb.length = n → (∀ e, e < i → inb.getD e false = (decide (lo ≤ (e : Int)) && decide ((e : Int) < hi))) →
    ∃ ws, Is n (fun e => decide (lo ≤ (e : Int)) && decide ((e : Int) < hi)) ws ∧ Ev (fun k => sloperef3_Range.l0 k (n : Int) lo hi inb (i : Int)) ((n : Int), ws, 0) := by
  intro d
  induction d with
  | zero =>
    intro i inb h1 h2 h3
    obtain ⟨ws, h4, h5⟩ := Of_eq inb (by omega)
    rw [h2] at h4 h5
    refine ⟨ws, h4.congr fun e he => h3 e (by omega), ?_⟩
    refine Ev.step (f := fun k => (sloperef3_Of.f k inb).bind fun b => some (b.1, b.2, 0)) (fun k => ?_) (Ev.bind (f := fun _ b => some (b.1, b.2, 0)) h5 (Ev.now _))
    conv => lhs; rw [sloperef3_Range.l0]
    rw [if_neg (by omega)]
  | succ d ih =>
    intro i inb h1 h2 h3
    have hinc : wrap64 ((i : Int) + 1) = ((i + 1 : Nat) : Int) := by unfold wrap64; omega
    have hset : ∀ b, b = (decide (lo ≤ (i : Int)) && decide ((i : Int) < hi)) → ∀ e, e < i + 1 → (inb.set i b).getD e false = (decide (lo ≤ (e : Int)) && decide ((e : Int) < hi)) := by
      intro b hb e he
      rw [List.getD_eq_getElem?_getD, List.getElem?_set]
      by_cases h4 : i = e
      · subst h4; simp [h2, show i < n by omega, hb]
      · rw [if_neg h4, ← List.getD_eq_getElem?_getD]; exact h3 e (by omega)
    by_cases hx : lo ≤ (i : Int)
    · obtain ⟨ws, h4, h5⟩ := ih (i + 1) (inb.set i (decide ((i : Int) < hi))) (by omega) (by simpa using h2) (hset _ (by simp [hx]))
      refine ⟨ws, h4, Ev.step (fun k => ?_) h5⟩
      conv => lhs; rw [sloperef3_Range.l0]
      rw [if_pos (by omega), if_pos hx, if_pos (by omega), if_pos (by omega), hinc, Int.toNat_natCast]
    · obtain ⟨ws, h4, h5⟩ := ih (i + 1) (inb.set i false) (by omega) (by simpa using h2) (hset _ (by simp [hx]))
      refine ⟨ws, h4, Ev.step (fun k => ?_) h5⟩
      conv => lhs; rw [sloperef3_Range.l0]
      rw [if_pos (by omega), if_neg hx, if_pos (by omega), if_pos (by omega), hinc, Int.toNat_natCast]
theorem rRange_eq (size lo hi : Int) : ∃ r, RangeSays size lo hi r ∧ Ev (fun k => sloperef3_Range.f k size lo hi) r := by
  by_cases hs : 0 ≤ size ∧ size ≤ 4096
  · obtain ⟨n, rfl⟩ := Int.eq_ofNat_of_zero_le hs.1
    have hn : n ≤ 4096 := by omega
    obtain ⟨ws, h3, h4⟩ := rRange_loop n lo hi hn n 0 (List.replicate n false) (by omega) (by simp) (fun e he => by omega)
    refine ⟨_, .inr ⟨by omega, by omega, ws, by rw [Int.toNat_natCast]; exact h3, rfl⟩, Ev.congr (fun k => ?_) h4⟩
    unfold sloperef3_Range.f
    rw [rsized_yes hn, Option.bind_some, if_pos rfl, if_pos (by omega), Int.toNat_natCast, if_pos (by omega)]
    rfl
  · refine ⟨_, .inl ⟨by omega, rfl⟩, Ev.const fun k => ?_⟩
    unfold sloperef3_Range.f
    rw [rsized_no (by omega), Option.bind_some, if_neg (by simp)]
    rfl
theorem same_eq (s : Int) (ws : List Int) (hb : ws.length ≤ 9223372036854775807) : Ev (fun k => slopelaw3_same.f k s ws s ws) true := by
  have key : ∀ d i : Nat, i + d = ws.length → Ev (fun k => slopelaw3_same.l0 k (i : Int) s ws s ws) true := by
    intro d
    induction d with
    | zero =>
      intro i h
      refine ⟨1, fun k hk => ?_⟩
      obtain ⟨k, rfl⟩ : ∃ m, k = m + 1 := ⟨k - 1, by omega⟩
      simp only [slopelaw3_same.l0]
      rw [if_neg (by omega)]
    | succ d ih =>
      intro i h
      refine Ev.step (fun k => ?_) (ih (i + 1) (by omega))
      conv => lhs; rw [slopelaw3_same.l0]
      rw [if_pos (by omega), if_pos (by omega), if_pos (by omega), if_pos rfl, show wrap64 ((i : Int) + 1) = ((i + 1 : Nat) : Int) by unfold wrap64; omega]
  refine Ev.congr (fun k => ?_) (Ev.step (g := fun k => slopelaw3_same.j0 k false s ws s ws) (fun k => ?_) (key ws.length 0 (by omega)))
  · unfold slopelaw3_same.f
    rw [if_pos rfl]
    congr 1
    simp
  · rw [slopelaw3_same.j0, if_neg (by simp)]
    rfl
end Go.Proofs.Ytjmkhdhffmlhiaa.PAll
