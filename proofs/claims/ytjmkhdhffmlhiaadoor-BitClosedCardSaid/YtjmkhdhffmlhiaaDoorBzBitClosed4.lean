import Derived.Test.YtjmkhdhffmlhiaaDoorBzBitClosed2
import Derived.Test.YtjmkhdhffmlhiaaDoorBzBitClosed3
import Derived.Lib.Hide
import Derived.StillTailTactics
import Derived.Laws.IdiomCopy
section
namespace Go.Proofs.YtjmkhdhffmlhiaaDoor.PAll
open Go.RowKit Go.Proofs.YtjmkhdhffmlhiaaDoorW.PrintWords Go.Proofs.YtjmkhdhffmlhiaaDoorW.PrintLast Go.Proofs.YtjmkhdhffmlhiaaDoorW.PrintMore
def foldw (g : Int → Int → Int) (b ws : List Int) : Option (List Int) :=
  if ws.length ≤ b.length then some (List.zipWith g b ws ++ b.drop ws.length) else none
def folds (g : Int → Int → Int) : List Int → List S24 → Option (List Int)
  | b, [] => some b
  | b, s :: l => (foldw g b s.f1).bind fun c => folds g c l
theorem foldw_length {g : Int → Int → Int} {b ws c : List Int} (h : foldw g b ws = some c) : c.length = b.length := by
  unfold foldw at h
  split at h
  · cases h; simp; omega
  · cases h
def stepw (g : Int → Int → Int) : Nat → List Int → List Int → Option (List Int)
  | _, b, [] => some b
  | i, b, x :: l => if i < b.length then stepw g (i + 1) (b.set i (g (rd b i) x)) l else none
theorem stepw_from (g : Int → Int → Int) (l : List Int) : ∀ (i : Nat) (b : List Int), i + l.length ≤ b.length → stepw g i b l = some (b.take i ++ List.zipWith g (b.drop i) l ++ b.drop (i + l.length)) := by
  induction l with
  | nil => intro i b h; simp [stepw]
  | cons x l ih =>
    intro i b h
    simp only [List.length_cons] at h
    have hi : i < b.length := by omega
    rw [stepw, if_pos hi, ih _ _ (by simp; omega)]
    have h1 : rd b (i : Int) = b[i] := by simp [rd, List.getD_eq_getElem?_getD, List.getElem?_eq_getElem hi]
    rw [h1, List.drop_eq_getElem_cons hi]
    simp only [List.zipWith_cons_cons]
    rw [List.drop_set_of_lt (by omega), List.drop_set_of_lt (by omega), List.take_add_one, List.take_set_of_le (by omega)]
    simp [hi, Nat.add_assoc, Nat.add_comm 1]
theorem stepw_of_foldw {g : Int → Int → Int} {b ws c : List Int} (h : foldw g b ws = some c) : stepw g 0 b ws = some c := by
  unfold foldw at h
  split at h
  · rename_i hl
    rw [stepw_from g ws 0 b (by omega)]
    simpa using h
  · cases h
theorem free_of_row {w : World} {g : Nat} {t : TypeId} {cs : Array Value} (h : w.heap[g]? = some (.cells cs t (0, 0))) (j : Nat) : w.frozen? ⟨g, j, none⟩ = false := by simp [World.frozen?, h]
theorem kept_not {S : Nat → Prop} {w : World} {A : Option Addr} {n : Nat} {xs : List S24} (hr : ∀ W_, Kept w W_ S → Kd.C k24 W_ A n xs) (i : Int) (h0 : 0 ≤ i) (h1 : i < n) {ad : Addr} (hA : A = some ad) : ad.block < w.heap.size ∧ ¬ S ad.block := by
  obtain ⟨ad', A', c', e, hc, _⟩ := at_T24 (hr w (Kept.refl _ _)) i h0 h1
  have : ad' = ad := by rw [hA] at e; exact (Option.some.inj e).symm
  subst this
  have hb : (ad'.add (i.toNat * 2)).block = ad'.block := by unfold Addr.add; split <;> rfl
  have hlt : ad'.block < w.heap.size := by rw [← hb]; exact World.block_lt_of_cell? w _ hc
  refine ⟨hlt, fun hs => ?_⟩
  have hk : Kept w { w with heap := w.heap.setIfInBounds ad'.block (.map #[] 0) } S := by
    refine ⟨by simp, fun k hk hn => ?_⟩
    have : ad'.block ≠ k := fun he => hn (he ▸ hs)
    simp [this]
  obtain ⟨ad2, A2, c2, e2, hc2, _⟩ := at_T24 (hr _ hk) i h0 h1
  have : ad2 = ad' := by rw [hA] at e2; exact (Option.some.inj e2).symm
  subst this
  simp [World.cell?, hb, hlt] at hc2
theorem elem_kept {S : Nat → Prop} {w : World} {A : Option Addr} {n : Nat} {xs : List S24} (hr : ∀ W_, Kept w W_ S → Kd.C k24 W_ A n xs) (i : Int) (h0 : 0 ≤ i) (h1 : i < n) :
    ∃ ad A' c', A = some ad ∧ (rd_T24 xs i).f1.length ≤ c' ∧ ∀ W_, Kept w W_ S →
      W_.cell? (ad.add (i.toNat * 2)) = some (.int .i64 (rd_T24 xs i).f0) ∧ W_.cell? ⟨(ad.add (i.toNat * 2)).block, (ad.add (i.toNat * 2)).off + 1, none⟩ = some (.slice A' (rd_T24 xs i).f1.length c') ∧
      Kd.C (Kd.int .u64) W_ A' (rd_T24 xs i).f1.length (rd_T24 xs i).f1 := by
  obtain ⟨ad, A', c', e, hc, hd, hl, hC⟩ := at_T24 (hr w (Kept.refl _ _)) i h0 h1
  obtain ⟨hlt, hn⟩ := kept_not hr i h0 h1 e
  refine ⟨ad, A', c', e, hl, fun W_ hk => ?_⟩
  have hb : (ad.add (i.toNat * 2)).block = ad.block := by unfold Addr.add; split <;> rfl
  have hd2 := Go.Proofs.YtjmkhdhffmlhiaaDoorW.PrintWords.cell_kept hd hk (by rw [hb]; exact hn)
  obtain ⟨ad2, A2, c2, e2, hc2, hd3, _, hC2⟩ := at_T24 (hr W_ hk) i h0 h1
  have : ad2 = ad := by rw [e] at e2; exact (Option.some.inj e2).symm
  subst this
  rw [hd2] at hd3
  have hA : A' = A2 := by injection hd3 with h; injection h
  subst hA
  exact ⟨hc2, hd2, hC2⟩
theorem calls_or (x y : Int) (W : World) : Calls Tryd.prog 89 #[.int .u64 x, .int .u64 y] W fun e W' => e = .returned (.int .u64 (Go.bits .or .u64 x y)) ∧ W' = W := by
  go_enter Tryd.func89, Tryd.ntmps89
  go_wp2
  go_ret
  exact ⟨rfl, rfl⟩
def bitset_fold_or.f (a0_0 : Int) (l0_1 : List Int) (l1 : List S24) (_a2 : Unit) : Option (Int × List Int) := (folds (Go.bits .or .u64) l0_1 l1).map fun r => (a0_0, r)
set_option maxHeartbeats 4000000 in
set_option maxRecDepth 100000 in
theorem bitset_fold_or.puts (a0_0 : Int) (P0_1_ : Nat → Prop) (u9000_ : Value) (l0_1 : List Int) (A1 : Option Addr) (c1 : Nat) (l1 : List (S24)) (a2 : Unit) (r1 : Int) (r2 : List Int) (w0 w : World) (hB : Below w0.heap.size w0 w) (ho0_1 : Kd.R (Kd.int .u64) 87 w w0.heap.size P0_1_ u9000_ l0_1) (hr1 : ∀ W_, Kept w W_ (fun k_ => P0_1_ k_) → Kd.C k24 W_ A1 l1.length l1) (hc1 : l1.length ≤ c1) (h : bitset_fold_or.f a0_0 l0_1 l1 a2 = some (r1, r2)) :
    Calls Tryd.prog 88 #[.agg #[.int .i64 a0_0, u9000_], .slice A1 l1.length c1, .func (.func 89) #[] #[]] w fun e w' => e = .returned (.agg #[.int .i64 r1, u9000_]) ∧ Kd.R (Kd.int .u64) 87 w' w0.heap.size (fun k_ => (P0_1_ k_ ∨ w.heap.size ≤ k_)) u9000_ r2 ∧ Below w0.heap.size w0 w' ∧ Kept w w' (fun k_ => P0_1_ k_) := by
  obtain ⟨H, rfl⟩ : folds (Go.bits .or .u64) l0_1 l1 = some r2 ∧ r1 = a0_0 := by
    unfold bitset_fold_or.f at h
    obtain ⟨q, hq, e⟩ := Option.map_eq_some_iff.1 h
    simp only [Prod.mk.injEq] at e
    exact ⟨e.2 ▸ hq, e.1.symm⟩
  clear h
  have HH := Aside0.mk H
  have HR1 := Aside0.mk hr1
  have HC := Aside0.mk hc1
  have hm1 := (hr1 w (Kept.refl _ _)).2.1
  clear H hr1 hc1
  have HB := Aside0.mk hB
  have HO := Aside0.mk ho0_1
  have hu26 := Tryd.underlying24
  clear hB ho0_1
  obtain ⟨Au, cu, hu⟩ := Kd.R_slice HO.out
  subst hu
  go_enter Tryd.func88, Tryd.ntmps88
  go_wp2_with fail
  go_loopg [13] (l1.length) (fun gk v13 wr => ∃ (k : Nat) (ws : List Int), v13 = .int .i64 k ∧ Aside0 (k ≤ l1.length) ∧ Aside0 (gk + k = l1.length) ∧ Aside0 (folds (Go.bits .or .u64) ws (l1.drop k) = some r2) ∧ Aside0 (Kd.R (Kd.int .u64) 87 wr w0.heap.size (fun k_ => (P0_1_ k_ ∨ w.heap.size ≤ k_)) (.slice Au l0_1.length cu) ws) ∧ Aside0 (Below w0.heap.size w0 wr) ∧ Aside0 (Kept w wr (fun k_ => P0_1_ k_)) ∧ Aside0 (ws.length = l0_1.length) ∧ Aside0 (wr.heap[w.heap.size]? = some (.cells #[.int .i64 r1, .slice Au l0_1.length cu] 24 (0, 0))) ∧ Aside0 (wr.heap[w.heap.size + 1]? = some (.cells #[.int .i64 0, .slice none 0 0] 24 (0, 0))))
  case atStart =>
    refine ⟨0, l0_1, rfl, ⟨by omega⟩, ⟨by simp⟩, ⟨by simpa using HH.out⟩, ⟨?_⟩, ⟨?_⟩, ⟨?_⟩, ⟨rfl⟩, ⟨?_⟩, ⟨?_⟩⟩
    · exact Kd.R_mono (Kd.R_alloc (Kd.R_alloc HO.out _) _) (fun _ h => .inl h)
    · exact (HB.out.alloc HB.out.size _).alloc (by simp; exact Nat.le_succ_of_le HB.out.size) _
    · exact (((Kept.refl w _).alloc _).alloc _)
    · exact blk_alloc (blk_new w _) _
    · exact (by have := blk_new (w.alloc (.cells #[.int .i64 r1, .slice Au l0_1.length cu] 24)) (.cells #[.int .i64 0, .slice none 0 0] 24); simpa using this)
  case round =>
    obtain ⟨k, ws, rfl, hk, hg, hF, hO, hB, hK, hL, b3, b6⟩ := hrel
    by_cases hlt : k < l1.length
    · obtain ⟨gk', rfl⟩ : ∃ m, gk = m + 1 := ⟨gk - 1, by have := hg.out; omega⟩
      obtain ⟨ad, A', c', eA, hlc, hel⟩ := elem_kept HR1.out (k : Int) (by omega) (by omega)
      subst eA
      obtain ⟨s, hs⟩ : ∃ s, rd_T24 l1 (k : Int) = s := ⟨_, rfl⟩
      rw [hs] at hel hlc
      simp only [Int.toNat_natCast] at hel
      obtain ⟨q0, q1, hC⟩ := hel wr hK.out
      have HEL := Aside0.mk hel
      have hm2 := hC.2.1
      have hd : decide (k < l1.length) = true := decide_eq_true hlt
      clear hel hC
      obtain ⟨s0, xs⟩ := s
      simp only at q0 q1 hlc hm2
      have HF : ∃ c, foldw (Go.bits .or .u64) ws xs = some c ∧ folds (Go.bits .or .u64) c (l1.drop (k + 1)) = some r2 := by
        have := hF.out
        rw [List.drop_eq_getElem_cons hlt] at this
        have hk2 : l1[k] = ⟨s0, xs⟩ := by rw [← hs]; simp [rd_T24, List.getD_eq_getElem?_getD, List.getElem?_eq_getElem hlt]
        rw [hk2] at this
        simpa [folds, Option.bind_eq_some_iff] using this
      obtain ⟨c, hfw, hF2⟩ := HF
      have HFW := Aside0.mk hfw
      have HF2 := Aside0.mk hF2
      clear hfw hF2 hs
      have HX := Aside0.mk (stepw_of_foldw HFW.out)
      go_wp2_with fail
      obtain ⟨wo, rfl⟩ : ∃ wo : World, wo = wr := ⟨_, rfl⟩
      go_loopg [20] (xs.length) (fun gj v20 w2 => ∃ (i : Nat) (vs : List Int), v20 = .int .i64 i ∧ Aside0 (gj + i = xs.length) ∧ Aside0 (stepw (Go.bits .or .u64) i vs (xs.drop i) = some c) ∧ Aside0 (Kd.R (Kd.int .u64) 87 w2 w0.heap.size (fun k_ => (P0_1_ k_ ∨ w.heap.size ≤ k_)) (.slice Au l0_1.length cu) vs) ∧ Aside0 (Below w0.heap.size w0 w2) ∧ Aside0 (Kept w w2 (fun k_ => P0_1_ k_)) ∧ Aside0 (vs.length = l0_1.length) ∧ Aside0 (w2.heap[w.heap.size]? = some (.cells #[.int .i64 r1, .slice Au l0_1.length cu] 24 (0, 0))) ∧ Aside0 (w2.heap[w.heap.size + 1]? = some (.cells #[.int .i64 0, .slice none 0 0] 24 (0, 0))))
      case atStart => exact ⟨0, ws, rfl, ⟨by simp⟩, ⟨by simpa using HX.out⟩, ⟨Kd.R_alloc hO.out _⟩, ⟨hB.out.alloc hB.out.size _⟩, ⟨hK.out.alloc _⟩, hL, ⟨blk_alloc b3.out _⟩, ⟨blk_alloc b6.out _⟩⟩
      case round =>
        obtain ⟨i, vs, rfl, hg2, hX2, hO2, hB2, hK2, hL2, b32, b62⟩ := hrel
        by_cases hi : i < xs.length
        · obtain ⟨gj_, rfl⟩ : ∃ m, gk = m + 1 := ⟨gk - 1, by have := hg2.out; omega⟩
          have hX3 := hX2.out
          rw [List.drop_eq_getElem_cons hi, stepw] at hX3
          by_cases hv : i < vs.length
          · rw [if_pos hv] at hX3
            have HX3 := Aside0.mk hX3
            clear hX3
            obtain ⟨g, cap, eg, hgb, hgl, cells, hcells⟩ := Kd.R_form hO2.out (by omega)
            injection eg with eg1 eg2 eg3
            subst eg1
            have hL3 := hL2.out
            obtain ⟨_, _, hC⟩ := HEL.out wr hK2.out
            obtain ⟨ad2, eA2, hx⟩ := Kd.at_int hC (i : Int) (by omega) (by omega)
            subst eA2
            rw [Int.toNat_natCast] at hx
            have hO3 := hO2.out
            rw [← hL3] at hO3
            obtain ⟨hc, hf⟩ := Kd.R_cell (0 : Int) hO3 (i : Int) (by omega) (by omega)
            rw [Int.toNat_natCast] at hc hf
            have q0' := cell_of_row wr w.heap.size 1 _ _ _ b32.out
            simp only [List.getElem?_toArray, List.getElem?_cons_zero, List.getElem?_cons_succ] at q0'
            have hd2 : decide (i < xs.length) = true := decide_eq_true hi
            obtain ⟨xi, hxi⟩ : ∃ xi, rd xs (i : Int) = xi := ⟨_, rfl⟩
            obtain ⟨vi, hvi⟩ : ∃ vi, rdOf (0 : Int) vs (i : Int) = vi := ⟨_, rfl⟩
            rw [hxi] at hx
            rw [hvi] at hc
            have HXI := Aside0.mk hxi
            have HVI := Aside0.mk hvi
            have hv2 : i < l0_1.length := by omega
            have HCELL := Aside0.mk hcells
            clear hxi hvi hO3 hC eg2 eg3 q0 q1 hcells hL3
            go_wp2_with fail
            go_still_tail 12, (by kernel_rfl)
            still_call (calls_or vi xi _)
            repeat still_step
            refine wpStill_nil ?_
            go_wp2
            have hne3 : (⟨g, i, none⟩ : Addr).block ≠ w.heap.size := fun e => by
              have h1 := b32.out
              have h2 : g = w.heap.size := e
              rw [← h2, HCELL.out] at h1
              cases h1
            have hne6 : (⟨g, i, none⟩ : Addr).block ≠ w.heap.size + 1 := fun e => by
              have h1 := b62.out
              have h2 : g = w.heap.size + 1 := e
              rw [← h2, HCELL.out] at h1
              cases h1
            have hput := (Kd.R_putn hO2.out (i : Int) (Go.bits .or .u64 vi xi))
            rw [Int.toNat_natCast] at hput
            go_roundg gj_
            case rel =>
              refine ⟨i + 1, vs.set i (Go.bits .or .u64 vi xi), by go_num, ⟨by have := hg2.out; omega⟩, ⟨?_⟩, ⟨Kd.R_drew hput⟩, ⟨?_⟩, ⟨?_⟩, ⟨by simpa using hL2.out⟩, ⟨blk_drew (blk_far b32.out hne3.symm _)⟩, ⟨blk_drew (blk_far b62.out hne6.symm _)⟩⟩
              · have h1 := HX3.out
                have h2 := HXI.out
                have h3 := HVI.out
                have h4 : rd vs (i : Int) = vi := h3
                have h5 : xs[i] = xi := by rw [← h2]; simp [rd, List.getD_eq_getElem?_getD, List.getElem?_eq_getElem hi]
                rw [h4, h5] at h1
                exact h1
              · exact below_drew (hB2.out.setCell hgb _)
              · exact (hK2.out.setCell ((hO2.out.1 g rfl).imp id id) _).drew
            case measure => omega
          · rw [if_neg hv] at hX3
            cases hX3
        · have e := Lib.hid (show i = xs.length by have := hg2.out; omega)
          have hd2 : decide (i < xs.length) = false := decide_eq_false hi
          have hc2 : vs = c := by have := hX2.out; rw [e.out] at this; simpa [stepw] using this
          subst hc2
          clear q0 q1
          go_wp2
          go_roundg gk'
          case rel => exact ⟨k + 1, vs, by go_num, ⟨by omega⟩, ⟨by have := hg.out; omega⟩, HF2, hO2, hB2, hK2, hL2, b32, b62⟩
          case measure => omega
    · have e := Lib.hid (show k = l1.length by have := hk.out; omega)
      have hd : decide (k < l1.length) = false := decide_eq_false hlt
      have q0 := cell_of_row wr w.heap.size 0 _ _ _ b3.out
      have q1 := cell_of_row wr w.heap.size 1 _ _ _ b3.out
      have f0 := free_of_row b6.out 0
      have f1 := free_of_row b6.out 1
      have g0 := cell_of_row wr (w.heap.size + 1) 0 _ _ _ b6.out
      have g1 := cell_of_row wr (w.heap.size + 1) 1 _ _ _ b6.out
      simp only [List.getElem?_toArray, List.getElem?_cons_zero, List.getElem?_cons_succ] at q0 q1 g0 g1
      clear hlt
      go_wp2
      refine bodyPost_ret (results_cell_row rfl _ _ (w.heap.size + 1) 24 #[.int .i64 r1, .slice Au l0_1.length cu] (0, 0) _ rfl ?_ Tryd.underlying24 rfl (by kernel_rfl)) rfl ?_
      · refine blk_put (cs := #[.int .i64 r1, .slice none 0 0]) ?_ 1 _ rfl
        refine blk_put (cs := #[.int .i64 0, .slice none 0 0]) ?_ 0 _ rfl
        exact b6.out
      · have hw : ws = r2 := by have := hF.out; rw [e.out] at this; simpa [folds] using this
        subst hw
        refine ⟨rfl, ?_, ?_, ?_⟩
        · exact Kd.R_mono (Kd.R_far (p := ⟨w.heap.size + 1, 1, none⟩) (Kd.R_far (p := ⟨w.heap.size + 1, 0, none⟩) (Kd.R_types hO.out b6.out (by decide)) (fun _ hk => hk.2) _) (fun _ hk => hk.2) _) (fun _ hk => hk.1)
        · exact (hB.out.setCell (by simp; exact Nat.le_succ_of_le HB.out.size) _).setCell (by simp; exact Nat.le_succ_of_le HB.out.size) _
        · exact (hK.out.setCell (.inr (by simp)) _).setCell (.inr (by simp)) _
theorem bitset_fold_or.calls (a0_0 : Int) (P0_1_ : Nat → Prop) (u9000_ : Value) (l0_1 : List Int) (A1 : Option Addr) (c1 : Nat) (l1 : List (S24)) (a2 : Unit) (r1 : Int) (r2 : List Int) (w0 w : World) (hB : Below w0.heap.size w0 w) (ho0_1 : Kd.R (Kd.int .u64) 87 w w0.heap.size P0_1_ u9000_ l0_1) (hr1 : ∀ W_, Kept w W_ (fun k_ => P0_1_ k_) → Kd.C k24 W_ A1 l1.length l1) (hc1 : l1.length ≤ c1) (h : bitset_fold_or.f a0_0 l0_1 l1 a2 = some (r1, r2)) :
    Calls Tryd.prog 88 #[.agg #[.int .i64 a0_0, u9000_], .slice A1 l1.length c1, .func (.func 89) #[] #[]] w fun e w' => ∃ v1_ : Value, e = .returned (.agg #[.int .i64 r1, v1_]) ∧ Kd.R (Kd.int .u64) 87 w' w0.heap.size (fun k_ => (P0_1_ k_ ∨ w.heap.size ≤ k_)) v1_ r2 ∧ Below w0.heap.size w0 w' ∧ Kept w w' (fun k_ => P0_1_ k_) := (bitset_fold_or.puts a0_0 P0_1_ u9000_ l0_1 A1 c1 l1 a2 r1 r2 w0 w hB ho0_1 hr1 hc1 h).mono fun e w' hh => ⟨_, hh⟩
theorem calls_andNot (x y : Int) (W : World) : Calls Tryd.prog 98 #[.int .u64 x, .int .u64 y] W fun e W' => e = .returned (.int .u64 (Go.bits .andNot .u64 x y)) ∧ W' = W := by
  go_enter Tryd.func98, Tryd.ntmps98
  go_wp2
  go_ret
  exact ⟨rfl, rfl⟩
def bitset_fold_andNot.f (a0_0 : Int) (l0_1 : List Int) (l1 : List S24) (_a2 : Unit) : Option (Int × List Int) := (folds (Go.bits .andNot .u64) l0_1 l1).map fun r => (a0_0, r)
set_option maxHeartbeats 4000000 in
set_option maxRecDepth 100000 in
theorem bitset_fold_andNot.puts (a0_0 : Int) (P0_1_ : Nat → Prop) (u9000_ : Value) (l0_1 : List Int) (A1 : Option Addr) (c1 : Nat) (l1 : List (S24)) (a2 : Unit) (r1 : Int) (r2 : List Int) (w0 w : World) (hB : Below w0.heap.size w0 w) (ho0_1 : Kd.R (Kd.int .u64) 87 w w0.heap.size P0_1_ u9000_ l0_1) (hr1 : ∀ W_, Kept w W_ (fun k_ => P0_1_ k_) → Kd.C k24 W_ A1 l1.length l1) (hc1 : l1.length ≤ c1) (h : bitset_fold_andNot.f a0_0 l0_1 l1 a2 = some (r1, r2)) :
    Calls Tryd.prog 88 #[.agg #[.int .i64 a0_0, u9000_], .slice A1 l1.length c1, .func (.func 98) #[] #[]] w fun e w' => e = .returned (.agg #[.int .i64 r1, u9000_]) ∧ Kd.R (Kd.int .u64) 87 w' w0.heap.size (fun k_ => (P0_1_ k_ ∨ w.heap.size ≤ k_)) u9000_ r2 ∧ Below w0.heap.size w0 w' ∧ Kept w w' (fun k_ => P0_1_ k_) := by
  obtain ⟨H, rfl⟩ : folds (Go.bits .andNot .u64) l0_1 l1 = some r2 ∧ r1 = a0_0 := by
    unfold bitset_fold_andNot.f at h
    obtain ⟨q, hq, e⟩ := Option.map_eq_some_iff.1 h
    simp only [Prod.mk.injEq] at e
    exact ⟨e.2 ▸ hq, e.1.symm⟩
  clear h
  have HH := Aside0.mk H
  have HR1 := Aside0.mk hr1
  have HC := Aside0.mk hc1
  have hm1 := (hr1 w (Kept.refl _ _)).2.1
  clear H hr1 hc1
  have HB := Aside0.mk hB
  have HO := Aside0.mk ho0_1
  have hu26 := Tryd.underlying24
  clear hB ho0_1
  obtain ⟨Au, cu, hu⟩ := Kd.R_slice HO.out
  subst hu
  go_enter Tryd.func88, Tryd.ntmps88
  go_wp2_with fail
  go_loopg [13] (l1.length) (fun gk v13 wr => ∃ (k : Nat) (ws : List Int), v13 = .int .i64 k ∧ Aside0 (k ≤ l1.length) ∧ Aside0 (gk + k = l1.length) ∧ Aside0 (folds (Go.bits .andNot .u64) ws (l1.drop k) = some r2) ∧ Aside0 (Kd.R (Kd.int .u64) 87 wr w0.heap.size (fun k_ => (P0_1_ k_ ∨ w.heap.size ≤ k_)) (.slice Au l0_1.length cu) ws) ∧ Aside0 (Below w0.heap.size w0 wr) ∧ Aside0 (Kept w wr (fun k_ => P0_1_ k_)) ∧ Aside0 (ws.length = l0_1.length) ∧ Aside0 (wr.heap[w.heap.size]? = some (.cells #[.int .i64 r1, .slice Au l0_1.length cu] 24 (0, 0))) ∧ Aside0 (wr.heap[w.heap.size + 1]? = some (.cells #[.int .i64 0, .slice none 0 0] 24 (0, 0))))
  case atStart =>
    refine ⟨0, l0_1, rfl, ⟨by omega⟩, ⟨by simp⟩, ⟨by simpa using HH.out⟩, ⟨?_⟩, ⟨?_⟩, ⟨?_⟩, ⟨rfl⟩, ⟨?_⟩, ⟨?_⟩⟩
    · exact Kd.R_mono (Kd.R_alloc (Kd.R_alloc HO.out _) _) (fun _ h => .inl h)
    · exact (HB.out.alloc HB.out.size _).alloc (by simp; exact Nat.le_succ_of_le HB.out.size) _
    · exact (((Kept.refl w _).alloc _).alloc _)
    · exact blk_alloc (blk_new w _) _
    · exact (by have := blk_new (w.alloc (.cells #[.int .i64 r1, .slice Au l0_1.length cu] 24)) (.cells #[.int .i64 0, .slice none 0 0] 24); simpa using this)
  case round =>
    obtain ⟨k, ws, rfl, hk, hg, hF, hO, hB, hK, hL, b3, b6⟩ := hrel
    by_cases hlt : k < l1.length
    · obtain ⟨gk', rfl⟩ : ∃ m, gk = m + 1 := ⟨gk - 1, by have := hg.out; omega⟩
      obtain ⟨ad, A', c', eA, hlc, hel⟩ := elem_kept HR1.out (k : Int) (by omega) (by omega)
      subst eA
      obtain ⟨s, hs⟩ : ∃ s, rd_T24 l1 (k : Int) = s := ⟨_, rfl⟩
      rw [hs] at hel hlc
      simp only [Int.toNat_natCast] at hel
      obtain ⟨q0, q1, hC⟩ := hel wr hK.out
      have HEL := Aside0.mk hel
      have hm2 := hC.2.1
      have hd : decide (k < l1.length) = true := decide_eq_true hlt
      clear hel hC
      obtain ⟨s0, xs⟩ := s
      simp only at q0 q1 hlc hm2
      have HF : ∃ c, foldw (Go.bits .andNot .u64) ws xs = some c ∧ folds (Go.bits .andNot .u64) c (l1.drop (k + 1)) = some r2 := by
        have := hF.out
        rw [List.drop_eq_getElem_cons hlt] at this
        have hk2 : l1[k] = ⟨s0, xs⟩ := by rw [← hs]; simp [rd_T24, List.getD_eq_getElem?_getD, List.getElem?_eq_getElem hlt]
        rw [hk2] at this
        simpa [folds, Option.bind_eq_some_iff] using this
      obtain ⟨c, hfw, hF2⟩ := HF
      have HFW := Aside0.mk hfw
      have HF2 := Aside0.mk hF2
      clear hfw hF2 hs
      have HX := Aside0.mk (stepw_of_foldw HFW.out)
      go_wp2_with fail
      obtain ⟨wo, rfl⟩ : ∃ wo : World, wo = wr := ⟨_, rfl⟩
      go_loopg [20] (xs.length) (fun gj v20 w2 => ∃ (i : Nat) (vs : List Int), v20 = .int .i64 i ∧ Aside0 (gj + i = xs.length) ∧ Aside0 (stepw (Go.bits .andNot .u64) i vs (xs.drop i) = some c) ∧ Aside0 (Kd.R (Kd.int .u64) 87 w2 w0.heap.size (fun k_ => (P0_1_ k_ ∨ w.heap.size ≤ k_)) (.slice Au l0_1.length cu) vs) ∧ Aside0 (Below w0.heap.size w0 w2) ∧ Aside0 (Kept w w2 (fun k_ => P0_1_ k_)) ∧ Aside0 (vs.length = l0_1.length) ∧ Aside0 (w2.heap[w.heap.size]? = some (.cells #[.int .i64 r1, .slice Au l0_1.length cu] 24 (0, 0))) ∧ Aside0 (w2.heap[w.heap.size + 1]? = some (.cells #[.int .i64 0, .slice none 0 0] 24 (0, 0))))
      case atStart => exact ⟨0, ws, rfl, ⟨by simp⟩, ⟨by simpa using HX.out⟩, ⟨Kd.R_alloc hO.out _⟩, ⟨hB.out.alloc hB.out.size _⟩, ⟨hK.out.alloc _⟩, hL, ⟨blk_alloc b3.out _⟩, ⟨blk_alloc b6.out _⟩⟩
      case round =>
        obtain ⟨i, vs, rfl, hg2, hX2, hO2, hB2, hK2, hL2, b32, b62⟩ := hrel
        by_cases hi : i < xs.length
        · obtain ⟨gj_, rfl⟩ : ∃ m, gk = m + 1 := ⟨gk - 1, by have := hg2.out; omega⟩
          have hX3 := hX2.out
          rw [List.drop_eq_getElem_cons hi, stepw] at hX3
          by_cases hv : i < vs.length
          · rw [if_pos hv] at hX3
            have HX3 := Aside0.mk hX3
            clear hX3
            obtain ⟨g, cap, eg, hgb, hgl, cells, hcells⟩ := Kd.R_form hO2.out (by omega)
            injection eg with eg1 eg2 eg3
            subst eg1
            have hL3 := hL2.out
            obtain ⟨_, _, hC⟩ := HEL.out wr hK2.out
            obtain ⟨ad2, eA2, hx⟩ := Kd.at_int hC (i : Int) (by omega) (by omega)
            subst eA2
            rw [Int.toNat_natCast] at hx
            have hO3 := hO2.out
            rw [← hL3] at hO3
            obtain ⟨hc, hf⟩ := Kd.R_cell (0 : Int) hO3 (i : Int) (by omega) (by omega)
            rw [Int.toNat_natCast] at hc hf
            have q0' := cell_of_row wr w.heap.size 1 _ _ _ b32.out
            simp only [List.getElem?_toArray, List.getElem?_cons_zero, List.getElem?_cons_succ] at q0'
            have hd2 : decide (i < xs.length) = true := decide_eq_true hi
            obtain ⟨xi, hxi⟩ : ∃ xi, rd xs (i : Int) = xi := ⟨_, rfl⟩
            obtain ⟨vi, hvi⟩ : ∃ vi, rdOf (0 : Int) vs (i : Int) = vi := ⟨_, rfl⟩
            rw [hxi] at hx
            rw [hvi] at hc
            have HXI := Aside0.mk hxi
            have HVI := Aside0.mk hvi
            have hv2 : i < l0_1.length := by omega
            have HCELL := Aside0.mk hcells
            clear hxi hvi hO3 hC eg2 eg3 q0 q1 hcells hL3
            go_wp2_with fail
            go_still_tail 12, (by kernel_rfl)
            still_call (calls_andNot vi xi _)
            repeat still_step
            refine wpStill_nil ?_
            go_wp2
            have hne3 : (⟨g, i, none⟩ : Addr).block ≠ w.heap.size := fun e => by
              have h1 := b32.out
              have h2 : g = w.heap.size := e
              rw [← h2, HCELL.out] at h1
              cases h1
            have hne6 : (⟨g, i, none⟩ : Addr).block ≠ w.heap.size + 1 := fun e => by
              have h1 := b62.out
              have h2 : g = w.heap.size + 1 := e
              rw [← h2, HCELL.out] at h1
              cases h1
            have hput := (Kd.R_putn hO2.out (i : Int) (Go.bits .andNot .u64 vi xi))
            rw [Int.toNat_natCast] at hput
            go_roundg gj_
            case rel =>
              refine ⟨i + 1, vs.set i (Go.bits .andNot .u64 vi xi), by go_num, ⟨by have := hg2.out; omega⟩, ⟨?_⟩, ⟨Kd.R_drew hput⟩, ⟨?_⟩, ⟨?_⟩, ⟨by simpa using hL2.out⟩, ⟨blk_drew (blk_far b32.out hne3.symm _)⟩, ⟨blk_drew (blk_far b62.out hne6.symm _)⟩⟩
              · have h1 := HX3.out
                have h2 := HXI.out
                have h3 := HVI.out
                have h4 : rd vs (i : Int) = vi := h3
                have h5 : xs[i] = xi := by rw [← h2]; simp [rd, List.getD_eq_getElem?_getD, List.getElem?_eq_getElem hi]
                rw [h4, h5] at h1
                exact h1
              · exact below_drew (hB2.out.setCell hgb _)
              · exact (hK2.out.setCell ((hO2.out.1 g rfl).imp id id) _).drew
            case measure => omega
          · rw [if_neg hv] at hX3
            cases hX3
        · have e := Lib.hid (show i = xs.length by have := hg2.out; omega)
          have hd2 : decide (i < xs.length) = false := decide_eq_false hi
          have hc2 : vs = c := by have := hX2.out; rw [e.out] at this; simpa [stepw] using this
          subst hc2
          clear q0 q1
          go_wp2
          go_roundg gk'
          case rel => exact ⟨k + 1, vs, by go_num, ⟨by omega⟩, ⟨by have := hg.out; omega⟩, HF2, hO2, hB2, hK2, hL2, b32, b62⟩
          case measure => omega
    · have e := Lib.hid (show k = l1.length by have := hk.out; omega)
      have hd : decide (k < l1.length) = false := decide_eq_false hlt
      have q0 := cell_of_row wr w.heap.size 0 _ _ _ b3.out
      have q1 := cell_of_row wr w.heap.size 1 _ _ _ b3.out
      have f0 := free_of_row b6.out 0
      have f1 := free_of_row b6.out 1
      have g0 := cell_of_row wr (w.heap.size + 1) 0 _ _ _ b6.out
      have g1 := cell_of_row wr (w.heap.size + 1) 1 _ _ _ b6.out
      simp only [List.getElem?_toArray, List.getElem?_cons_zero, List.getElem?_cons_succ] at q0 q1 g0 g1
      clear hlt
      go_wp2
      refine bodyPost_ret (results_cell_row rfl _ _ (w.heap.size + 1) 24 #[.int .i64 r1, .slice Au l0_1.length cu] (0, 0) _ rfl ?_ Tryd.underlying24 rfl (by kernel_rfl)) rfl ?_
      · refine blk_put (cs := #[.int .i64 r1, .slice none 0 0]) ?_ 1 _ rfl
        refine blk_put (cs := #[.int .i64 0, .slice none 0 0]) ?_ 0 _ rfl
        exact b6.out
      · have hw : ws = r2 := by have := hF.out; rw [e.out] at this; simpa [folds] using this
        subst hw
        refine ⟨rfl, ?_, ?_, ?_⟩
        · exact Kd.R_mono (Kd.R_far (p := ⟨w.heap.size + 1, 1, none⟩) (Kd.R_far (p := ⟨w.heap.size + 1, 0, none⟩) (Kd.R_types hO.out b6.out (by decide)) (fun _ hk => hk.2) _) (fun _ hk => hk.2) _) (fun _ hk => hk.1)
        · exact (hB.out.setCell (by simp; exact Nat.le_succ_of_le HB.out.size) _).setCell (by simp; exact Nat.le_succ_of_le HB.out.size) _
        · exact (hK.out.setCell (.inr (by simp)) _).setCell (.inr (by simp)) _
theorem bitset_fold_andNot.calls (a0_0 : Int) (P0_1_ : Nat → Prop) (u9000_ : Value) (l0_1 : List Int) (A1 : Option Addr) (c1 : Nat) (l1 : List (S24)) (a2 : Unit) (r1 : Int) (r2 : List Int) (w0 w : World) (hB : Below w0.heap.size w0 w) (ho0_1 : Kd.R (Kd.int .u64) 87 w w0.heap.size P0_1_ u9000_ l0_1) (hr1 : ∀ W_, Kept w W_ (fun k_ => P0_1_ k_) → Kd.C k24 W_ A1 l1.length l1) (hc1 : l1.length ≤ c1) (h : bitset_fold_andNot.f a0_0 l0_1 l1 a2 = some (r1, r2)) :
    Calls Tryd.prog 88 #[.agg #[.int .i64 a0_0, u9000_], .slice A1 l1.length c1, .func (.func 98) #[] #[]] w fun e w' => ∃ v1_ : Value, e = .returned (.agg #[.int .i64 r1, v1_]) ∧ Kd.R (Kd.int .u64) 87 w' w0.heap.size (fun k_ => (P0_1_ k_ ∨ w.heap.size ≤ k_)) v1_ r2 ∧ Below w0.heap.size w0 w' ∧ Kept w w' (fun k_ => P0_1_ k_) := (bitset_fold_andNot.puts a0_0 P0_1_ u9000_ l0_1 A1 c1 l1 a2 r1 r2 w0 w hB ho0_1 hr1 hc1 h).mono fun e w' hh => ⟨_, hh⟩
end Go.Proofs.YtjmkhdhffmlhiaaDoor.PAll
end
section
namespace Go.Proofs.YtjmkhdhffmlhiaaDoor.PAll
set_option linter.unusedVariables false
set_option linter.unusedSimpArgs false
open Go.RowKit Go.Shelf Go.Proofs.YtjmkhdhffmlhiaaDoorW.PrintWords Go.Proofs.YtjmkhdhffmlhiaaDoorW.PrintLast Go.Proofs.YtjmkhdhffmlhiaaDoorW.PrintMore
attribute [local go_sem] Oper.semAt_some
def orw (b ws : List Int) : List Int := List.zipWith (Go.bits .or .u64) b ws ++ b.drop ws.length
theorem orw_eq {b ws : List Int} (h : ws.length ≤ b.length) : foldw (Go.bits .or .u64) b ws = some (orw b ws) := by unfold foldw orw; rw [if_pos h]
theorem orw_length {b ws : List Int} (h : ws.length ≤ b.length) : (orw b ws).length = b.length := foldw_length (orw_eq h)
def prodS (lb : List S24) (j : Nat) (rows : List S24) (e : Int) : List S24 := rows.set j ⟨(rd_T24 rows (j : Int)).f0, orw (rd_T24 rows (j : Int)).f1 (rd_T24 lb e).f1⟩
def prodA (lb : List S24) : Nat → List S24 → List S24 → List S24
  | _, [], rows => rows
  | j, s :: l, rows => prodA lb (j + 1) l ((els (64 * s.f1.length) s.f1).foldl (prodS lb j) rows)
theorem Rok.prod {n m j : Nat} {lb rows : List S24} (h : Rok n m rows) (hj : j < n) (hb : ∀ s ∈ lb, s.f1.length = (m + 63) / 64) {x : Int} (h0 : 0 ≤ x) (h1 : x < lb.length) : Rok n m (prodS lb j rows x) := by
  obtain ⟨e, rfl⟩ := Int.eq_ofNat_of_zero_le h0
  have he : e < lb.length := by omega
  have hjl : j < rows.length := by rw [h.1]; exact hj
  refine ⟨by unfold prodS; rw [List.length_set, h.1], fun r hr => ?_⟩
  unfold prodS at hr
  rcases List.mem_or_eq_of_mem_set hr with hr | rfl
  · exact h.2 r hr
  · rw [rdT_nat rows hjl, rdT_nat lb he]
    have a1 := h.2 _ (List.getElem_mem hjl)
    have a2 := hb _ (List.getElem_mem he)
    simp only
    rw [orw_length (by omega)]
    exact a1
theorem Rok.prods {n m j : Nat} {lb : List S24} (hj : j < n) (hb : ∀ s ∈ lb, s.f1.length = (m + 63) / 64) : ∀ (xs : List Int) {rows : List S24}, Rok n m rows → (∀ x ∈ xs, 0 ≤ x ∧ x < lb.length) → Rok n m (xs.foldl (prodS lb j) rows)
  | [], _, h, _ => h
  | x :: xs, _, h, hx => Rok.prods hj hb xs (h.prod hj hb (hx x List.mem_cons_self).1 (hx x List.mem_cons_self).2) (fun y hy => hx y (List.mem_cons_of_mem _ hy))
theorem fold_row (rows : List S24) (j : Nat) (w0 W : World) (ok : Nat → Prop) (g cap : Nat) (hB : Below w0.heap.size w0 W) (hS : Kd.S k24 24 W w0.heap.size ok (.slice (some ⟨g, 0, none⟩) rows.length cap) rows) (hj : j < rows.length) (x : S24) (A1 : Option Addr)
    (hx : Kd.C k24 w0 A1 1 [x]) (hl : x.f1.length ≤ (rd_T24 rows (j : Int)).f1.length) :
    ∃ v, W.cell? ⟨g, j * 2, none⟩ = some (.int .i64 (rd_T24 rows (j : Int)).f0) ∧ W.cell? ⟨g, j * 2 + 1, none⟩ = some v ∧
      Calls Tryd.prog 88 #[.agg #[.int .i64 (rd_T24 rows (j : Int)).f0, v], .slice A1 1 1, .func (.func 89) #[] #[]] W fun e w' => e = .returned (.agg #[.int .i64 (rd_T24 rows (j : Int)).f0, v]) ∧
        Kd.S k24 24 w' w0.heap.size ok (.slice (some ⟨g, 0, none⟩) rows.length cap) (rows.set j ⟨(rd_T24 rows (j : Int)).f0, orw (rd_T24 rows (j : Int)).f1 x.f1⟩) ∧ Below w0.heap.size w0 w' ∧ Kept W w' ok ∧ KeepsOthers W w' := by
  obtain ⟨oki, c, hcl, hM, hcc, hfr, hoki, hH⟩ := Kd.S_elem hS (rd_T24 rows (j : Int)) (j : Int) (by omega) (by omega)
  rw [Int.toNat_natCast] at hM hcc hfr
  have he : rows.getD j (rd_T24 rows (j : Int)) = rd_T24 rows (j : Int) := by rw [rdT_nat rows hj, List.getD_eq_getElem?_getD, List.getElem?_eq_getElem hj]; rfl
  rw [he] at hM
  obtain ⟨v, rfl, hR⟩ := k24_openM hM
  refine ⟨v, hcc 0 _ rfl, hcc 1 _ rfl, (bitset_fold_or.puts _ (fun k => some k = v.ownBlock) v _ A1 1 [x] () (rd_T24 rows (j : Int)).f0 (orw (rd_T24 rows (j : Int)).f1 x.f1) w0 W hB (Kd.R_tight rfl hR) (Kd.C_kept_came k24_heap hx hB (fun k hk => Kd.R_base hR k hk.symm)) (Nat.le_refl _) (by unfold bitset_fold_or.f; simp [folds, orw_eq hl])).mono ?_⟩
  rintro e w' ⟨rfl, hR', hB', hK'⟩
  have hR2 : Kd.R (Kd.int .u64) 87 w' w0.heap.size oki v (orw (rd_T24 rows (j : Int)).f1 x.f1) := Kd.R_mono (Kd.R_tight rfl hR') (fun k hk => hR.1 k hk.symm)
  refine ⟨rfl, ?_, hB', ⟨hK'.1, fun k hk hn => hK'.2 k hk (fun h => hn (hoki k (hR.1 k h.symm)).1)⟩, ko_kept hR hK'⟩
  have h2 := Kd.H_back (Kd.H_kept hH hK' (fun k _ h he => h (hR.1 k he.symm))) (k24_mkM w' w0.heap.size oki ⟨(rd_T24 rows (j : Int)).f0, orw (rd_T24 rows (j : Int)).f1 x.f1⟩ hR2) (fun _ h => h)
  rwa [Int.toNat_natCast] at h2
end Go.Proofs.YtjmkhdhffmlhiaaDoor.PAll
end
section
namespace Go.Proofs.YtjmkhdhffmlhiaaDoor.PAll
set_option linter.unusedVariables false
set_option linter.unusedSimpArgs false
open Go.RowKit Go.Shelf Go.Proofs.YtjmkhdhffmlhiaaDoorW.PrintWords Go.Proofs.YtjmkhdhffmlhiaaDoorW.PrintLast Go.Proofs.YtjmkhdhffmlhiaaDoorW.PrintMore
attribute [local go_sem] Oper.semAt_some
set_option maxHeartbeats 8000000 in
set_option maxRecDepth 100000 in
theorem Product_yes (k : Nat) (n m : Nat) (A0 : Option Addr) (c0 : Nat) (l0 : List S24) (B0 : Option Addr) (d0 : Nat) (lb rows : List S24) (w : World) (hr0 : Kd.C k24 w A0 l0.length l0) (hc0 : l0.length ≤ c0) (hr1 : Kd.C k24 w B0 lb.length lb) (hc1 : lb.length ≤ d0) (hG : Tz w) (hT : TabP (n : Int) l0) (hg : Goods l0) (hTb : TabP (m : Int) lb) (hnb : n = lb.length)
    (hM : bitset_MayTable.f k (n : Int) l0 = some true) (hMb : bitset_MayTable.f k (m : Int) lb = some true) (hBl : bitset_blanks.f k (m : Int) (l0.length : Int) = some ((m : Int), rows)) (hRk : Rok l0.length m rows) :
    Calls Tryd.prog 46 #[.agg #[.int .i64 (n : Int), .slice A0 l0.length c0], .agg #[.int .i64 (m : Int), .slice B0 lb.length d0]] w fun e w' => ∃ v : Value, e = .returned (.tuple #[.agg #[.int .i64 (m : Int), v], .int .i64 0]) ∧ Kd.S k24 24 w' w.heap.size (fun _ => True) v (prodA lb 0 l0 rows) ∧ Below w.heap.size w w' := by
  subst hnb
  have hu24 := Tryd.underlying24
  have hu56 := Tryd.underlying56
  have HC := Aside0.mk hr0
  have HD := Aside0.mk hr1
  have HG := Aside0.mk hG
  have HM := Aside0.mk hM
  have HMb := Aside0.mk hMb
  have HBl := Aside0.mk hBl
  clear hr0 hr1 hG hM hMb hBl
  obtain ⟨o1, ho1⟩ : ∃ o1 : Obj, o1 = .cells #[.int .i64 lb.length, .slice A0 l0.length c0] 56 (0, 0) := ⟨_, rfl⟩
  obtain ⟨o2, ho2⟩ : ∃ o2 : Obj, o2 = .cells #[.int .i64 m, .slice B0 lb.length d0] 56 (0, 0) := ⟨_, rfl⟩
  obtain ⟨o3, ho3⟩ : ∃ o3 : Obj, o3 = .cells #[.int .i64 0, .slice none 0 0] 56 (0, 0) := ⟨_, rfl⟩
  have K0 : (((w.alloc o1).alloc o2).alloc o3).heap[w.heap.size]? = some o1 := blk_alloc (blk_alloc (blk_new w o1) _) _
  have K1 : (((w.alloc o1).alloc o2).alloc o3).heap[w.heap.size + 1]? = some o2 := by have := blk_alloc (blk_new (w.alloc o1) o2) o3; rwa [World.size_alloc] at this
  have K2 : (((w.alloc o1).alloc o2).alloc o3).heap[w.heap.size + 1 + 1]? = some o3 := by have := blk_new ((w.alloc o1).alloc o2) o3; rwa [World.size_alloc, World.size_alloc] at this
  have HB0 : Below w.heap.size w (((w.alloc o1).alloc o2).alloc o3) := below_alloc (below_alloc (below_alloc (Below.refl _ _) _) _) _
  rw [ho1, ho2, ho3] at K0 K1 K2 HB0
  clear ho1 ho2 ho3 o1 o2 o3
  have KA := Aside0.mk K0
  have KB := Aside0.mk K1
  have KD := Aside0.mk K2
  have HB := Aside0.mk HB0
  have HS0 := Aside0.mk (below_size HB0)
  have hs3 : w.heap.size + 3 ≤ ((((w.alloc (.cells #[.int .i64 lb.length, .slice A0 l0.length c0] 56 (0, 0))).alloc (.cells #[.int .i64 m, .slice B0 lb.length d0] 56 (0, 0))).alloc (.cells #[.int .i64 0, .slice none 0 0] 56 (0, 0)))).heap.size := by rw [World.size_alloc, World.size_alloc, World.size_alloc]; omega
  have HS3 := Aside0.mk hs3
  clear K0 K1 K2 HB0 hs3
  refine (callsIn_wide (n := 6)).1 ?_
  refine callsIn_of_wp_marks Tryd.func46 rfl trivial ?_ rfl
  simp only [Tryd.ntmps46, List.size_toArray, List.length_cons, List.length_nil, Nat.reduceAdd, Nat.reduceSub, Array.replicate_succ, Array.replicate_zero, List.push_toArray, List.append_toArray, List.nil_append, List.cons_append]
  have q0 := (blk_cell KB.out 0).trans rfl
  have q1 := (blk_cell KB.out 1).trans rfl
  gi_wp2_with fail
  refine ⟨trivial, ?_⟩; gi_at_call 85
  refine (callsIn_wide.2 (bitset_MayTable.calls k lb.length _ _ l0 true _ (Kd.C_alloc (Kd.C_alloc (Kd.C_alloc HC.out _) _) _) hc0 HM.out)).mono ?_
  rintro e w0 ⟨rfl, hb⟩
  have n0_ := Aside0.mk (blk_below KA.out hb); have n1_ := Aside0.mk (blk_below KB.out hb); have n2_ := Aside0.mk (blk_below KD.out hb); have n3_ := Aside0.mk (below_step HB.out hb); have n4_ := Aside0.mk (Nat.le_trans HS3.out (below_size hb))
  clear KA KB KD HB hb q0 q1 HS3
  have KA := n0_; have KB := n1_; have KD := n2_; have HB := n3_; have HS3 := n4_
  clear n0_ n1_ n2_ n3_ n4_
  have q0 := (blk_cell KB.out 0).trans rfl; have q1 := (blk_cell KB.out 1).trans rfl
  gi_wp2_with fail
  refine ⟨trivial, ?_⟩; gi_at_call 85
  refine (callsIn_wide.2 (bitset_MayTable.calls k m _ _ lb true _ (Kd.C_below HD.out HB.out) hc1 HMb.out)).mono ?_
  rintro e w1 ⟨rfl, hb⟩
  have n0_ := Aside0.mk (blk_below KA.out hb); have n1_ := Aside0.mk (blk_below KB.out hb); have n2_ := Aside0.mk (blk_below KD.out hb); have n3_ := Aside0.mk (below_step HB.out hb); have n4_ := Aside0.mk (Nat.le_trans HS3.out (below_size hb))
  clear KA KB KD HB hb q0 q1 HS3
  have KA := n0_; have KB := n1_; have KD := n2_; have HB := n3_; have HS3 := n4_
  clear n0_ n1_ n2_ n3_ n4_
  have q0 := (blk_cell KB.out 0).trans rfl; have q1 := (blk_cell KB.out 1).trans rfl
  have q2 := (blk_cell KA.out 0).trans rfl; have q3 := (blk_cell KA.out 1).trans rfl
  gi_wp2_with (first
    | (refine ⟨trivial, ?_⟩; gi_at_call 86; refine (callsIn_wide.2 (bitset_blanks.calls k m l0.length m rows _ HBl.out)).mono ?_; rintro e w2 ⟨vt, rfl, ho, hb⟩
       obtain ⟨At, ct, et⟩ := Kd.S_slice ho
       subst et
       have n0_ := Aside0.mk (blk_below KA.out hb); have n1_ := Aside0.mk (blk_below KB.out hb); have n2_ := Aside0.mk (blk_below KD.out hb); have n3_ := Aside0.mk (below_step HB.out hb); have HT := Aside0.mk (Kd.S_lower (Kd.S_mono (Kd.S_bound ho) (fun k_ hk_ => show w1.heap.size ≤ k_ ∧ k_ < w2.heap.size from ⟨hk_.2.1, hk_.2.2.1⟩)) (below_size HB.out))
       have HS2 := Aside0.mk (below_size hb)
       clear KA KB KD HB hb ho q0 q1 q2 q3
       have KA := n0_; have KB := n1_; have KD := n2_; have HB := n3_
       clear n0_ n1_ n2_ n3_
       have q0 := (blk_cell (blk_alloc KA.out (.cells #[.int .i64 m, .slice At rows.length ct] 56 (0, 0))) 0).trans rfl; have q1 := (blk_cell (blk_alloc KA.out (.cells #[.int .i64 m, .slice At rows.length ct] 56 (0, 0))) 1).trans rfl))
  refine wpIn_loop (fun a W => ∃ (j : Nat) (rk : List S24) (ds : List Deferred) (u7 u8 u36 u37 u38 u39 u40 u41 u57 : Value), a = { tmps := #[.agg #[.int .i64 lb.length, .slice A0 l0.length c0], .agg #[.int .i64 m, .slice B0 lb.length d0], .pointer (some ⟨w.heap.size, 0, none⟩), .pointer (some ⟨w.heap.size + 1, 0, none⟩), .pointer (some ⟨w.heap.size + 1 + 1, 0, none⟩), .int .i64 0, .pointer (some ⟨w2.heap.size, 0, none⟩), u7, u8, undef, .agg #[.int .i64 lb.length, .slice A0 l0.length c0], .bool true, .bool false, .bool false, .agg #[.int .i64 m, .slice B0 lb.length d0], .bool true, .bool false, .bool false, undef, .pointer (some ⟨w.heap.size, 0, none⟩), .int .i64 lb.length, .pointer (some ⟨w.heap.size + 1, 1, none⟩), .slice B0 lb.length d0, .int .i64 lb.length, .bool false, undef, .pointer (some ⟨w.heap.size + 1, 0, none⟩), .int .i64 m, .pointer (some ⟨w.heap.size, 1, none⟩), .slice A0 l0.length c0, .int .i64 l0.length, .agg #[.int .i64 m, .slice At rows.length ct], .pointer (some ⟨w.heap.size, 1, none⟩), .slice A0 l0.length c0, .int .i64 l0.length, .int .i64 j, u36, u37, u38, u39, u40, u41, undef, undef, undef, undef, undef, undef, undef, undef, undef, undef, undef, undef, undef, undef, undef, u57, undef], defers := ds } ∧ Aside0 (j ≤ l0.length) ∧ Aside0 (prodA lb j (l0.drop j) rk = prodA lb 0 l0 rows) ∧ Aside0 (Rok l0.length m rk) ∧ Aside0 (Marks w2.heap.size W ds) ∧
      Aside0 (W.heap[w.heap.size]? = some (.cells #[.int .i64 lb.length, .slice A0 l0.length c0] 56 (0, 0))) ∧ Aside0 (W.heap[w.heap.size + 1]? = some (.cells #[.int .i64 m, .slice B0 lb.length d0] 56 (0, 0))) ∧ Aside0 (W.heap[w.heap.size + 1 + 1]? = some (.cells #[.int .i64 0, .slice none 0 0] 56 (0, 0))) ∧ Aside0 (W.heap[w2.heap.size]? = some (.cells #[.int .i64 m, .slice At rows.length ct] 56 (0, 0))) ∧
      Aside0 (Kd.S k24 24 W w.heap.size (fun k_ => w1.heap.size ≤ k_ ∧ k_ < w2.heap.size) (.slice At rows.length ct) rk) ∧ Aside0 (Below w.heap.size w W))
    (fun a _ => l0.length - (intOf (a.tmps.getD 35 undef)).toNat) ?start ?round
  case start =>
    exact ⟨0, rows, [], undef, undef, undef, undef, undef, undef, undef, undef, undef, rfl, ⟨Nat.zero_le _⟩, ⟨rfl⟩, ⟨hRk⟩, ⟨Marks.none _ _⟩, ⟨blk_alloc KA.out _⟩, ⟨blk_alloc KB.out _⟩, ⟨blk_alloc KD.out _⟩, ⟨blk_new _ _⟩, ⟨Kd.S_alloc HT.out _⟩, ⟨below_alloc HB.out _⟩⟩
  case round =>
    clear KA KB KD HB HT q0 q1
    rintro a wr ⟨j, rk, ds, u7, u8, u36, u37, u38, u39, u40, u41, u57, rfl, hj, hA, hRj, HMk, KA, KB, KD, KU, HT, HB⟩
    by_cases hlt : j < l0.length
    · obtain ⟨ad, A1, c1, eA, q0, q1, hlc, hC1⟩ := at_T24 (Kd.C_below HC.out HB.out) (j : Int) (by omega) (by omega)
      subst eA
      simp only [Int.toNat_natCast] at q0 q1
      obtain ⟨s, hs⟩ : ∃ s, rd_T24 l0 (j : Int) = s := ⟨_, rfl⟩
      have hsl : s = l0[j] := by rw [← hs, rdT_nat l0 hlt]
      rw [hs] at q0 q1 hlc hC1
      have hsm : MayP (lb.length : Int) s.f1 ∧ s.f0 = (lb.length : Int) := by
        have := hT.2.2.2 _ (List.getElem_mem hlt)
        rw [← hsl] at this
        refine ⟨?_, this.2⟩
        have h2 := this.1; unfold MayS at h2; rwa [this.2] at h2
      have hsg : Wds s.f1 := by have := hg _ (List.getElem_mem hlt); rw [← hsl] at this; exact this.1
      obtain ⟨s0, ws⟩ := s
      obtain rfl : s0 = (lb.length : Int) := hsm.2
      simp only at q0 q1 hlc hC1 hsm hsg
      have hd : decide (j < l0.length) = true := decide_eq_true hlt
      have HC1 := Aside0.mk hC1
      clear hC1
      gi_wp2_with (refine ⟨trivial, ?_⟩; gi_at_call 39; refine (callsIn_wide.2 (All_calls lb.length A1 c1 ws ws _ (Kd.C_alloc (Kd.C_alloc HC1.out _) _) hlc (own_eq hsm.1 hsg))).mono ?_; rintro e w3 ⟨B, Ar, cr, rfl, kb, hle, hR, hb⟩)
      have n0_ := Aside0.mk (blk_below (blk_alloc (blk_alloc KA.out (.cells #[.int .i64 j] 3 (0, 0))) (.cells #[.int .i64 lb.length, .slice A1 ws.length c1] 24 (0, 0))) hb)
      have n7_ := Aside0.mk (blk_below (blk_alloc (blk_alloc KB.out (.cells #[.int .i64 j] 3 (0, 0))) (.cells #[.int .i64 lb.length, .slice A1 ws.length c1] 24 (0, 0))) hb)
      have n1_ := Aside0.mk (blk_below (blk_alloc (blk_alloc KD.out (.cells #[.int .i64 j] 3 (0, 0))) (.cells #[.int .i64 lb.length, .slice A1 ws.length c1] 24 (0, 0))) hb)
      have n2_ := Aside0.mk (blk_below (blk_alloc (blk_alloc KU.out (.cells #[.int .i64 j] 3 (0, 0))) (.cells #[.int .i64 lb.length, .slice A1 ws.length c1] 24 (0, 0))) hb)
      have n3_ := Aside0.mk (Kd.S_below (Kd.S_alloc (Kd.S_alloc HT.out (.cells #[.int .i64 j] 3 (0, 0))) (.cells #[.int .i64 lb.length, .slice A1 ws.length c1] 24 (0, 0))) hb)
      have n4_ := Aside0.mk (below_step (below_alloc (below_alloc HB.out (.cells #[.int .i64 j] 3 (0, 0))) (.cells #[.int .i64 lb.length, .slice A1 ws.length c1] 24 (0, 0))) hb)
      have n5_ := Aside0.mk (blk_below (blk_alloc (blk_new wr (.cells #[.int .i64 j] 3 (0, 0))) (.cells #[.int .i64 lb.length, .slice A1 ws.length c1] 24 (0, 0))) hb)
      have n6_ := Aside0.mk (HMk.out.keep (W' := w3) fun k_ _ hk_ => by
        have h1 : ((wr.alloc (.cells #[.int .i64 j] 3 (0, 0))).alloc (.cells #[.int .i64 lb.length, .slice A1 ws.length c1] 24 (0, 0))).heap[k_]? = wr.heap[k_]? := (below_alloc (below_alloc (Below.refl wr.heap.size wr) (.cells #[.int .i64 j] 3 (0, 0))) (.cells #[.int .i64 lb.length, .slice A1 ws.length c1] 24 (0, 0))).block k_ hk_
        exact (hb.block k_ (by rw [World.size_alloc, World.size_alloc]; omega)).trans h1)
      have hUr := blk_lt KU.out
      have hw12 : w.heap.size + 3 ≤ w1.heap.size := HS3.out
      have hle' : wr.heap.size + 2 ≤ B := by rw [World.size_alloc, World.size_alloc] at hle; omega
      have hRb : ∀ k_, (Value.slice Ar ws.length cr).ownBlock = some k_ → wr.heap.size + 2 ≤ k_ := fun k_ hk_ => by
        have := Kd.R_base hR k_ hk_
        rw [World.size_alloc, World.size_alloc] at this; omega
      clear KA KB KD KU HT HB HMk hb hle q0 q1
      have KA := n0_; have KB := n7_; have KD := n1_; have KU := n2_; have HT := n3_; have HB := n4_; have KI := n5_; have HMk := n6_
      clear n0_ n1_ n2_ n3_ n4_ n5_ n6_ n7_
      have hcB := (blk_cell kb 0).trans rfl
      have hBlt := blk_lt kb
      have htab : 0 < w.heap.size := World.block_lt_of_cell? w _ (HG.out 0 (by decide))
      have hKne : ∀ k_, (k_ = B ∨ k_ = 0 ∨ some k_ = (Value.slice Ar ws.length cr).ownBlock) → ¬ (w1.heap.size ≤ k_ ∧ k_ < w2.heap.size) := by
        intro k_ hk_ e
        rcases hk_ with rfl | rfl | hk_
        · omega
        · omega
        · have := hRb k_ hk_.symm; omega
      have hKlt : ∀ k_, (k_ = B ∨ k_ = 0 ∨ some k_ = (Value.slice Ar ws.length cr).ownBlock) → k_ < w3.heap.size := by
        intro k_ hk_
        rcases hk_ with rfl | rfl | hk_
        · exact hBlt
        · exact Nat.lt_of_lt_of_le htab (below_size HB.out)
        · exact Kd.R_lt hR k_ hk_.symm
      have hHeld := held_row (K := fun k_ => k_ = B ∨ k_ = 0 ∨ some k_ = (Value.slice Ar ws.length cr).ownBlock) hR (fun k_ hk_ => .inr (.inr hk_))
      have HHeld := Aside0.mk hHeld
      have HKne := Aside0.mk hKne
      have HKlt := Aside0.mk hKlt
      have HR3 := Aside0.mk hR
      clear hHeld hKne hKlt hR
      have hbw : ∀ s ∈ lb, s.f1.length = (m + 63) / 64 := fun s hs => by
        have h1 := hTb.2.2.2 s hs
        have h2 := h1.1
        unfold MayS at h2
        rw [h1.2] at h2
        simpa using h2.2.2.1
      refine wpIn_rangeFunc_ownF rfl (by decide) (gf := 82) (lb := #[.pointer (some ⟨B, 0, none⟩)]) rfl trivial (enters_of Tryd.func82 (by kernel_rfl) rfl)
        (all_stopsM _ 5 (by decide) B _ ws hsg (by have := hsm.1.2.2.1; have := hsm.1.2.1; omega) w3 hBlt (.inr (.inl rfl)) hcB HHeld.out (tz_at HG.out HB.out)) (fun h g => Ke.trans h g) (fun W l o o' hl ho hc hw k_ hk_ => ?kb) (Below.refl _ _) (fun _ => rfl)
        (fun pre W => ((Kd.S k24 24 W w.heap.size (fun k_ => w1.heap.size ≤ k_ ∧ k_ < w2.heap.size) (.slice At rows.length ct) ((pre.map (·.1)).foldl (prodS lb j) rk)) ∧ Kept w3 W (fun k_ => w1.heap.size ≤ k_ ∧ k_ < w2.heap.size)) ∧ Below w.heap.size w W)
        (fun _ _ _ => False)
        (OwnFrom.and (fun s X Y row hs hg_ hr => ⟨S_abide hs.1 hg_ (fun r e => (hr r e).2), Nat.le_trans hs.2.1 hg_.size, fun i hi hn => (hg_.block i (Nat.lt_of_lt_of_le hi hs.2.1) (fun e => by have := (hr i e.symm).1; omega)).trans (hs.2.2 i hi hn)⟩) (ownFrom_below (Nat.le_refl _) (below_size HB.out)))
        (fun _ _ _ _ _ hs _ _ => hs)
        ⟨⟨HT.out, Kept.refl _ _⟩, HB.out⟩
        (fun x => { tmps := #[.agg #[.int .i64 lb.length, .slice (some ad) l0.length c0], .agg #[.int .i64 m, .slice B0 lb.length d0], .pointer (some ⟨w.heap.size, 0, none⟩), .pointer (some ⟨w.heap.size + 1, 0, none⟩), .pointer (some ⟨w.heap.size + 1 + 1, 0, none⟩), .int .i64 0, .pointer (some ⟨w2.heap.size, 0, none⟩), .pointer (some ⟨wr.heap.size, 0, none⟩), .pointer (some ⟨wr.heap.size + 1, 0, none⟩), .int .i64 x.1, .agg #[.int .i64 lb.length, .slice (some ad) l0.length c0], .bool true, .bool false, .bool false, .agg #[.int .i64 m, .slice B0 lb.length d0], .bool true, .bool false, .bool false, undef, .pointer (some ⟨w.heap.size, 0, none⟩), .int .i64 lb.length, .pointer (some ⟨w.heap.size + 1, 1, none⟩), .slice B0 lb.length d0, .int .i64 lb.length, .bool false, undef, .pointer (some ⟨w.heap.size + 1, 0, none⟩), .int .i64 m, .pointer (some ⟨w.heap.size, 1, none⟩), .slice (some ad) l0.length c0, .int .i64 l0.length, .agg #[.int .i64 m, .slice At rows.length ct], .pointer (some ⟨w.heap.size, 1, none⟩), .slice (some ad) l0.length c0, .int .i64 l0.length, .int .i64 j, .bool true, .int .i64 j, .pointer (some (ad.add (j * 2))), .agg #[.int .i64 lb.length, .slice A1 ws.length c1], .agg #[.int .i64 lb.length, .slice A1 ws.length c1], .func (.func 82) #[] #[.pointer (some ⟨B, 0, none⟩)], .int .i64 x.1, undef, undef, undef, undef, undef, undef, undef, undef, undef, undef, undef, undef, undef, undef, u57, undef], defers := [] }) ?assign ?body ?done ?stop
      case kb =>
        have h1 := HKlt.out k_ hk_
        exact World.putObj_heap_other (fun e => by omega)
      case assign =>
        intro l x W K hK
        gi_wp2
        exact hK
      case body =>
        rintro l pre ⟨x, hx⟩ W ⟨⟨hS, hKp⟩, hBl⟩ _
        have FU := blk_drew ((hKp.2 _ (blk_lt KU.out) (fun h => by omega)).trans KU.out)
        have FI := blk_drew ((hKp.2 _ (blk_lt KI.out) (fun h => by omega)).trans KI.out)
        have FB := blk_drew ((hKp.2 _ (blk_lt KB.out) (fun h => by omega)).trans KB.out)
        have hx2 := els_in hsm.1 hx
        obtain ⟨y, rfl⟩ := Int.eq_ofNat_of_zero_le hx2.1
        have hyb : y < lb.length := by omega
        have hlb4 : lb.length ≤ 4096 := hTb.2.2.1
        have hl4 : l0.length ≤ 4096 := hT.2.2.1
        have hRp : Rok l0.length m ((pre.map (·.1)).foldl (prodS lb j) rk) := Rok.prods hlt hbw _ hRj.out (fun z hz => by obtain ⟨z', _, rfl⟩ := List.mem_map.1 hz; exact els_in hsm.1 z'.2)
        obtain ⟨rp, hrp⟩ : ∃ rp, (pre.map (·.1)).foldl (prodS lb j) rk = rp := ⟨_, rfl⟩
        rw [hrp] at hS hRp
        have hjl : j < rp.length := by rw [hRp.1]; exact hlt
        obtain ⟨g, cap, ev, _, _, _⟩ := Kd.S_form hS (by omega)
        injection ev with e1 e2 e3
        subst e1 e3
        rw [e2] at hS FU
        obtain ⟨bd, _, _, eB, _⟩ := at_T24 HD.out (y : Int) (by omega) (by omega)
        subst eB
        have hmid := Kd.C_mid (lo := y) (hi := y + 1) HD.out (by omega) (by omega) hc1
        have hcy : ¬ (d0 = y) := by omega
        have hone : (lb.take (y + 1)).drop y = [lb[y]] := by rw [List.drop_take, Nat.add_sub_cancel_left, List.drop_eq_getElem_cons hyb]; rfl
        rw [if_neg hcy, hone] at hmid
        have hrdb := rdT_nat lb hyb
        obtain ⟨v, z0, z1, hcall⟩ := fold_row rp j w W.drew _ g ct (below_drew1 hBl) (Kd.S_drew hS) hjl lb[y] _ hmid (by
          rw [rdT_nat rp hjl, hRp.2 _ (List.getElem_mem hjl), hbw _ (List.getElem_mem hyb)]
          exact Nat.le_refl _)
        have hnew : prodS lb j rp (y : Int) = rp.set j ⟨(rd_T24 rp (j : Int)).f0, orw (rd_T24 rp (j : Int)).f1 lb[y].f1⟩ := by unfold prodS; rw [hrdb]
        obtain ⟨f0, hf0⟩ : ∃ f0, (rd_T24 rp (j : Int)).f0 = f0 := ⟨_, rfl⟩
        rw [hf0] at z0 hcall hnew
        have HCALL := Aside0.mk hcall
        clear hcall hmid
        have hmx : Tryd.prog.follows .mixedOrders = true := by kernel_rfl
        have hyc : y + 1 ≤ d0 := by omega
        have HY1 : Aside0 ((0 : Int) ≤ (y : Int) + 1) := ⟨by omega⟩
        have HY2 : Aside0 ((y : Int) + 1 ≤ (d0 : Int)) := ⟨by omega⟩
        have hw1 : wrap64 ((y : Int) + 1) = ((y + 1 : Nat) : Int) := by rw [w64_nat (by omega) (by omega)]; omega
        gi_wp2
        refine start_round (m := 14) (S := fun w' => w'.cell? ⟨w2.heap.size, 1, none⟩ = some (.slice (some ⟨g, 0, none⟩) rp.length ct) ∧ w'.cell? ⟨wr.heap.size, 0, none⟩ = some (.int .i64 j) ∧ w'.cell? ⟨w.heap.size + 1, 1, none⟩ = some (.slice (some bd) lb.length d0) ∧ w'.cell? ⟨g, j * 2, none⟩ = some (.int .i64 f0) ∧ w'.cell? ⟨g, j * 2 + 1, none⟩ = some v) (ds := [13]) #[false, false, false, false, false, false, false, false, false, false, false, false, false, false] hmx (by kernel_rfl) (fun _ _ h => h) rfl rfl ⟨(blk_cell FU 1).trans rfl, (blk_cell FI 0).trans rfl, (blk_cell FB 1).trans rfl, z0, z1⟩ (fun hHeld => ?_)
        refine pure_ (i := 0) (N := some 43) (v := ?_) (a' := ?_) #[true, false, false, false, false, false, false, false, false, false, false, false, false, false] rfl rfl (by kernel_rfl) (fun _ _ _ h => h) (Or.inl ⟨by rfl, ?_⟩) ?_ ?_
        rotate_left
        · intro w'
          go_simp
          with_reducible rfl
        rotate_left
        · simp only [Act.put, List.setIfInBounds_toArray, List.set_cons_zero, List.set_cons_succ, i64_w, i32_w]
          rfl
        refine pure_ (i := 5) (N := some 48) (v := ?_) (a' := ?_) #[true, false, false, false, false, true, false, false, false, false, false, false, false, false] rfl rfl (by kernel_rfl) (fun _ _ _ h => h) (Or.inl ⟨by rfl, ?_⟩) ?_ ?_
        rotate_left
        · intro w'
          go_simp
          with_reducible rfl
        rotate_left
        · simp only [Act.put, List.setIfInBounds_toArray, List.set_cons_zero, List.set_cons_succ, i64_w, i32_w]
          rfl
        refine pure_ (i := 7) (N := some 50) (v := ?_) (a' := ?_) #[true, false, false, false, false, true, false, true, false, false, false, false, false, false] rfl rfl (by kernel_rfl) (fun _ _ _ h => h) (Or.inl ⟨by rfl, ?_⟩) ?_ ?_
        rotate_left
        · intro w'
          go_simp
          with_reducible rfl
        rotate_left
        · simp only [Act.put, List.setIfInBounds_toArray, List.set_cons_zero, List.set_cons_succ, i64_w, i32_w]
          rfl
        refine pure_ (i := 8) (N := some 51) (v := ?_) (a' := ?_) #[true, false, false, false, false, true, false, true, true, false, false, false, false, false] rfl rfl (by kernel_rfl) (fun _ _ _ h => h) (Or.inl ⟨by rfl, ?_⟩) ?_ ?_
        rotate_left
        · intro w'
          go_simp
          with_reducible rfl
        rotate_left
        · simp only [Act.put, List.setIfInBounds_toArray, List.set_cons_zero, List.set_cons_succ, i64_w, i32_w]
          rfl
        refine pure_ (i := 10) (N := some 53) (v := ?_) (a' := ?_) #[true, false, false, false, false, true, false, true, true, false, true, false, false, false] rfl rfl (by kernel_rfl) (fun _ _ _ h => h) (Or.inl ⟨by rfl, ?_⟩) ?_ ?_
        rotate_left
        · intro w'
          go_simp
          with_reducible rfl
        rotate_left
        · simp only [Act.put, List.setIfInBounds_toArray, List.set_cons_zero, List.set_cons_succ, i64_w, i32_w]
          rfl
        refine pure_ (i := 9) (N := some 52) (v := ?_) (a' := ?_) #[true, false, false, false, false, true, false, true, true, true, true, false, false, false] rfl rfl (by kernel_rfl) (fun _ _ _ h => h) (Or.inl ⟨by rfl, ?_⟩) ?_ ?_
        rotate_left
        · intro w'
          go_simp
          with_reducible rfl
        rotate_left
        · simp only [Act.put, List.setIfInBounds_toArray, List.set_cons_zero, List.set_cons_succ, i64_w, i32_w]
          rfl
        refine pure_ (i := 11) (N := some 54) (v := ?_) (a' := ?_) #[true, false, false, false, false, true, false, true, true, true, true, true, false, false] rfl rfl (by kernel_rfl) (fun _ _ _ h => h) (Or.inl ⟨by rfl, ?_⟩) ?_ ?_
        rotate_left
        · intro w'
          go_simp
          with_reducible rfl
        rotate_left
        · simp only [Act.put, List.setIfInBounds_toArray, List.set_cons_zero, List.set_cons_succ, i64_w, i32_w]
          rfl
        refine take_ (i := 1) (N := some 44) (v := ?_) (a' := ?_) #[true, true, false, false, false, true, false, true, true, true, true, true, false, false] rfl rfl (by kernel_rfl) (fun _ _ _ h => h) (Or.inl ⟨by rfl, ?_⟩) hHeld ?_ ?_
        rotate_left
        · rintro w' ⟨s0, s1, s2, s3, s4⟩
          go_simp
          with_reducible rfl
        rotate_left
        · simp only [Act.put, List.setIfInBounds_toArray, List.set_cons_zero, List.set_cons_succ, i64_w, i32_w]
          rfl
        refine take_ (i := 2) (N := some 45) (v := ?_) (a' := ?_) #[true, true, true, false, false, true, false, true, true, true, true, true, false, false] rfl rfl (by kernel_rfl) (fun _ _ _ h => h) (Or.inl ⟨by rfl, ?_⟩) hHeld ?_ ?_
        rotate_left
        · rintro w' ⟨s0, s1, s2, s3, s4⟩
          go_simp
          with_reducible rfl
        rotate_left
        · simp only [Act.put, List.setIfInBounds_toArray, List.set_cons_zero, List.set_cons_succ, i64_w, i32_w]
          rfl
        refine take_ (i := 6) (N := some 49) (v := ?_) (a' := ?_) #[true, true, true, false, false, true, true, true, true, true, true, true, false, false] rfl rfl (by kernel_rfl) (fun _ _ _ h => h) (Or.inl ⟨by rfl, ?_⟩) hHeld ?_ ?_
        rotate_left
        · rintro w' ⟨s0, s1, s2, s3, s4⟩
          go_simp
          with_reducible rfl
        rotate_left
        · simp only [Act.put, List.setIfInBounds_toArray, List.set_cons_zero, List.set_cons_succ, i64_w, i32_w]
          rfl
        refine pure_ (i := 3) (N := some 46) (v := ?_) (a' := ?_) #[true, true, true, true, false, true, true, true, true, true, true, true, false, false] rfl rfl (by kernel_rfl) (fun _ _ _ h => h) (Or.inl ⟨by rfl, ?_⟩) ?_ ?_
        rotate_left
        · intro w'
          go_simp
          with_reducible rfl
        rotate_left
        · simp only [Act.put, List.setIfInBounds_toArray, List.set_cons_zero, List.set_cons_succ, i64_w, i32_w]
          rfl
        refine take_ (i := 4) (N := some 47) (v := ?_) (a' := ?_) #[true, true, true, true, true, true, true, true, true, true, true, true, false, false] rfl rfl (by kernel_rfl) (fun _ _ _ h => h) (Or.inl ⟨by rfl, ?_⟩) hHeld ?_ ?_
        rotate_left
        · rintro w' ⟨s0, s1, s2, s3, s4⟩
          go_simp
          with_reducible rfl
        rotate_left
        · simp only [Act.put, List.setIfInBounds_toArray, List.set_cons_zero, List.set_cons_succ, i64_w, i32_w]
          rfl
        refine pure_ (i := 12) (N := some 55) (v := ?_) (a' := ?_) #[true, true, true, true, true, true, true, true, true, true, true, true, true, false] rfl rfl (by kernel_rfl) (fun _ _ _ h => h) (Or.inl ⟨by rfl, ?_⟩) ?_ ?_
        rotate_left
        · intro w'
          go_simp
          simp only [eq_true HY1.out, eq_true HY2.out, and_self, if_true]
          with_reducible rfl
        rotate_left
        · simp only [Act.put, List.setIfInBounds_toArray, List.set_cons_zero, List.set_cons_succ, i64_w, i32_w]
          rfl
        refine last_ (i := 13) (N := some 56) #[true, true, true, true, true, true, true, true, true, true, true, true, true, true] rfl rfl (by kernel_rfl) (by decide) (fun K hK => ?_)
        refine goes_ Tryd.func88 (by kernel_rfl) rfl #[.agg #[.int .i64 f0, v], .slice (some (bd.add (y * 2))) 1 1, .func (.func 89) #[] #[]] (by rfl) rfl rfl (by (try simp only [List.map_toArray, List.map_cons, List.map_nil]); first | done | rfl) ?_
        refine HCALL.out.mono ?_
        rintro e w5 ⟨rfl, hS5, hB5, hK5, hO5⟩
        refine ⟨_, rfl, ?_⟩
        refine hK.out _ _ ?_
        clear hK K
        refine done_ (by kernel_rfl) ?_
        refine ⟨(KeepsOthers.drew _).trans hO5, fun k_ hk_ => hK5.2 k_ (Nat.lt_of_lt_of_le (HKlt.out k_ hk_) hKp.1) (HKne.out k_ hk_),
          ⟨?_, Nat.le_trans hKp.1 hK5.1, fun i hi hn => (hK5.2 i (Nat.lt_of_lt_of_le hi hKp.1) hn).trans (hKp.2 i hi hn)⟩, hB5⟩
        simp only [List.map_append, List.map_cons, List.map_nil, List.foldl_append, List.foldl_cons, List.foldl_nil]
        rw [hrp, hnew, e2]
        exact hS5
      case stop =>
        rintro D c pre W _ _ h _
        exact h.elim
      case done =>
        rintro D ys W hD hys ⟨⟨hS, hKp⟩, hBl⟩ hK
        have hys' : List.map (fun x => x.1) ys = els (64 * ws.length) ws := hys
        rw [hys'] at hS
        have hl4 : l0.length ≤ 4096 := hT.2.2.1
        gi_wp2
        rw [show ((j : Int) + 1) = ((j + 1 : Nat) : Int) from by omega]
        refine ⟨⟨j + 1, _, _, _, _, _, _, _, _, _, _, _, rfl, ⟨hlt⟩, ⟨?_⟩, ⟨Rok.prods hlt hbw _ hRj.out (fun z hz => els_in hsm.1 hz)⟩, ⟨HMk.out.cons (fun k_ hB_ hk_ => hKp.2 k_ hk_ (fun h => by omega)) hD ?_ hK⟩,
          ⟨(hKp.2 _ (blk_lt KA.out) (fun h => by omega)).trans KA.out⟩, ⟨(hKp.2 _ (blk_lt KB.out) (fun h => by omega)).trans KB.out⟩, ⟨(hKp.2 _ (blk_lt KD.out) (fun h => by omega)).trans KD.out⟩, ⟨(hKp.2 _ (blk_lt KU.out) (fun h => by omega)).trans KU.out⟩, ⟨hS⟩, ⟨hBl⟩⟩, ?_⟩
        · have := hA.out
          rw [List.drop_eq_getElem_cons hlt, ← hsl] at this
          exact this
        · have := blk_lt KU.out; omega
        · show l0.length - (intOf (.int .i64 ((j + 1 : Nat) : Int))).toNat < l0.length - (intOf (.int .i64 (j : Int))).toNat
          simp only [intOf, Int.toNat_natCast]
          omega
    · have hje : j = l0.length := by have := hj.out; omega
      subst hje
      have hd : decide (l0.length < l0.length) = false := by simp
      have q0 := (blk_cell KU.out 0).trans rfl
      have q1 := (blk_cell KU.out 1).trans rfl
      have q2 := (blk_cell KD.out 0).trans rfl
      have q3 := (blk_cell KD.out 1).trans rfl
      have z0 := blk_frozen KD.out 0
      have z1 := blk_frozen KD.out 1
      gi_wp2
      have hw12 : w.heap.size + 3 ≤ w1.heap.size := HS3.out
      obtain ⟨X, hX⟩ : ∃ X, (wr.setCell ⟨w.heap.size + 1 + 1, 0, none⟩ (Value.int IntKind.i64 m)).setCell ⟨w.heap.size + 1 + 1, 1, none⟩ (Value.slice At rows.length ct) = X := ⟨_, rfl⟩
      have hKX : Kept wr X (fun k_ => k_ = w.heap.size + 1 + 1) := by
        refine ⟨by rw [← hX, World.size_setCell, World.size_setCell]; exact Nat.le_refl _, fun k_ hk_ hn_ => ?_⟩
        rw [← hX, Below.heap_setCell _ _ _ _ hn_, Below.heap_setCell _ _ _ _ hn_]
      have hXg : X.heap[w.heap.size + 1 + 1]? = some (.cells #[.int .i64 m, .slice At rows.length ct] 56 (0, 0)) := hX ▸ blk_put (blk_put KD.out 0 (Value.int IntKind.i64 m) rfl) 1 (Value.slice At rows.length ct) rfl
      have hXB := wb (g := w.heap.size + 1 + 1) hX.symm HB.out (by omega)
      have hXS := Kd.S_kept HT.out hKX (fun k_ hk_ e => by omega)
      have hwr := blk_lt KU.out
      have hXM : Marks w.heap.size X ds := ((HMk.out.keep (W' := X) fun k_ hB_ hk_ => hKX.2 k_ hk_ (fun e => by have := HS2.out; omega))).low (by have := HS2.out; omega)
      rw [hX]
      refine Marks.leave hXM fun W' hb hcc => ?_
      have c0 := (blk_cell (hcc _ _ hXg rfl) 0).trans rfl
      have c1 := (blk_cell (hcc _ _ hXg rfl) 1).trans rfl
      refine ⟨.tuple #[.agg #[.int .i64 m, .slice At rows.length ct], .int .i64 0], ?_, _, rfl, ?_, hXB.trans hb⟩
      · simp [results, Tryd.f46, go_sem, c0, c1]
      · have hA2 : rk = prodA lb 0 l0 rows := by
          have := hA.out
          rw [List.drop_length] at this
          exact this
        rw [← hA2]
        exact Kd.S_mono (Kd.S_move (Kd.S_bound hXS) (fun k_ hk_ => by
          obtain ⟨q, hq, cells, hc⟩ := hk_.2.2.2
          exact (hcc _ _ hc rfl).trans hc.symm)) (fun _ _ => trivial)
end Go.Proofs.YtjmkhdhffmlhiaaDoor.PAll
end
section
namespace Go.Proofs.YtjmkhdhffmlhiaaDoor.PAll
open Go.RowKit Go.Proofs.YtjmkhdhffmlhiaaDoorW.PrintWords Go.Proofs.YtjmkhdhffmlhiaaDoorW.PrintMore
structure Bitly (g : Int → Int → Int) (f : Bool → Bool → Bool) : Prop where
  wd : ∀ a b, Wd a → Wd b → Wd (g a b)
  tb : ∀ a b j, Wd a → Wd b → tb (g a b) j = f (tb a j) (tb b j)
  ff : f false false = false
theorem bitly_or : Bitly (Go.bits .or .u64) (fun a b => a || b) := ⟨fun a b _ _ => (or_eq a b).2, fun _ _ j ha hb => tb_or ha hb j, rfl⟩
theorem bitly_andNot : Bitly (Go.bits .andNot .u64) (fun a b => a && !b) := ⟨fun a b _ _ => (andNot_eq a b).2, fun _ _ j ha hb => tb_andNot ha hb j, rfl⟩
theorem hb_zip {g : Int → Int → Int} {f : Bool → Bool → Bool} (h : Bitly g f) {b ws : List Int} (hb' : Wds b) (hw : Wds ws) (hl : ws.length = b.length) (e : Nat) : hb (List.zipWith g b ws) e = f (hb b e) (hb ws e) := by
  rcases Nat.lt_or_ge (e / 64) b.length with h1 | h1
  · have h2 : (List.zipWith g b ws).getD (e / 64) 0 = g (b.getD (e / 64) 0) (ws.getD (e / 64) 0) := by
      rw [List.getD_eq_getElem?_getD, List.getD_eq_getElem?_getD, List.getD_eq_getElem?_getD, List.getElem?_zipWith, List.getElem?_eq_getElem h1, List.getElem?_eq_getElem (by omega)]
      rfl
    unfold hb
    rw [h2, h.tb _ _ _ (hb'.getD _) (hw.getD _)]
  · rw [hb_high (ws := b) (by omega), hb_high (ws := ws) (by omega), hb_high (by rw [List.length_zipWith]; omega), h.ff]
theorem zip_Wds {g : Int → Int → Int} {f : Bool → Bool → Bool} (h : Bitly g f) {b ws : List Int} (hb' : Wds b) (hw : Wds ws) : Wds (List.zipWith g b ws) := by
  intro x hx
  obtain ⟨i, hi, rfl⟩ := List.getElem_of_mem hx
  rw [List.getElem_zipWith]
  rw [List.length_zipWith] at hi
  exact h.wd _ _ (hb' _ (List.getElem_mem _)) (hw _ (List.getElem_mem _))
theorem foldw_is {g : Int → Int → Int} {f : Bool → Bool → Bool} (h : Bitly g f) {n : Nat} {p q : Nat → Bool} {b ws : List Int} (hb' : Is n p b) (hw : Is n q ws) : ∃ c, foldw g b ws = some c ∧ Is n (fun d => f (p d) (q d)) c := by
  have hl : ws.length = b.length := by rw [hw.len, hb'.len]
  refine ⟨List.zipWith g b ws, ?_, ?_, zip_Wds h hb'.wds hw.wds, fun e => ?_⟩
  · unfold foldw
    rw [if_pos (by omega), List.drop_eq_nil_of_le (by omega), List.append_nil]
  · rw [List.length_zipWith, hl, Nat.min_self, hb'.len]
  · rw [hb_zip h hb'.wds hw.wds hl, hb'.has, hw.has]
    by_cases he : e < n
    · simp [he]
    · simp [he, h.ff]
theorem folds_is {g : Int → Int → Int} {f : Bool → Bool → Bool} (h : Bitly g f) {n : Nat} (l : List S24) (hl : ∀ x ∈ l, MayS x ∧ x.f0 = (n : Int) ∧ Wds x.f1) : ∀ {p : Nat → Bool} {b : List Int}, Is n p b →
    ∃ c, folds g b l = some c ∧ Is n (fun d => l.foldl (fun acc x => f acc (hb x.f1 d)) (p d)) c := by
  induction l with
  | nil => intro p b hb'; exact ⟨b, rfl, hb'⟩
  | cons x l ih =>
    intro p b hb'
    obtain ⟨h1, h2, h3⟩ := hl x List.mem_cons_self
    have h4 : Is n (hb x.f1) x.f1 := by
      have := MayP.is h1 h3
      rw [h2] at this
      simpa using this
    obtain ⟨c, h5, h6⟩ := foldw_is h hb' h4
    obtain ⟨c2, h7, h8⟩ := ih (fun y hy => hl y (List.mem_cons_of_mem _ hy)) h6
    refine ⟨c2, ?_, h8⟩
    rw [folds, h5, Option.bind_some, h7]
theorem foldl_any (l : List S24) (d : Nat) : ∀ a : Bool, l.foldl (fun acc x => acc || hb x.f1 d) a = (a || l.any (fun x => hb x.f1 d)) := by
  induction l with
  | nil => intro a; simp
  | cons x l ih => intro a; rw [List.foldl_cons, ih, List.any_cons, Bool.or_assoc]
end Go.Proofs.YtjmkhdhffmlhiaaDoor.PAll
end
section
namespace Go.Proofs.YtjmkhdhffmlhiaaDoor.PAll
set_option linter.unusedVariables false
set_option linter.unusedSimpArgs false
open Go.RowKit Go.Shelf Go.Proofs.YtjmkhdhffmlhiaaDoorW.PrintWords Go.Proofs.YtjmkhdhffmlhiaaDoorW.PrintLast Go.Proofs.YtjmkhdhffmlhiaaDoorW.PrintMore
attribute [local go_sem] Oper.semAt_some
set_option maxHeartbeats 8000000 in
set_option maxRecDepth 100000 in
theorem Product_no (k : Nat) (n m : Int) (A0 : Option Addr) (c0 : Nat) (l0 : List S24) (B0 : Option Addr) (d0 : Nat) (lb : List S24) (w : World) (hr0 : Kd.C k24 w A0 l0.length l0) (hc0 : l0.length ≤ c0) (hM : bitset_MayTable.f k n l0 = some false) :
    Calls Tryd.prog 46 #[.agg #[.int .i64 n, .slice A0 l0.length c0], .agg #[.int .i64 m, .slice B0 lb.length d0]] w fun e w' => ∃ v : Value, e = .returned (.tuple #[.agg #[.int .i64 0, v], .int .i64 61]) ∧ Kd.S k24 24 w' w.heap.size (fun _ => True) v [] ∧ Below w.heap.size w w' := by
  have hu24 := Tryd.underlying24
  have hu56 := Tryd.underlying56
  have HC := Aside0.mk hr0
  have HM := Aside0.mk hM
  clear hr0 hM
  obtain ⟨o1, ho1⟩ : ∃ o1 : Obj, o1 = .cells #[.int .i64 n, .slice A0 l0.length c0] 56 (0, 0) := ⟨_, rfl⟩
  obtain ⟨o2, ho2⟩ : ∃ o2 : Obj, o2 = .cells #[.int .i64 m, .slice B0 lb.length d0] 56 (0, 0) := ⟨_, rfl⟩
  obtain ⟨o3, ho3⟩ : ∃ o3 : Obj, o3 = .cells #[.int .i64 0, .slice none 0 0] 56 (0, 0) := ⟨_, rfl⟩
  have K1 : (((w.alloc o1).alloc o2).alloc o3).heap[w.heap.size + 1]? = some o2 := by have := blk_alloc (blk_new (w.alloc o1) o2) o3; rwa [World.size_alloc] at this
  have K2 : (((w.alloc o1).alloc o2).alloc o3).heap[w.heap.size + 1 + 1]? = some o3 := by have := blk_new ((w.alloc o1).alloc o2) o3; rwa [World.size_alloc, World.size_alloc] at this
  have HB0 : Below w.heap.size w (((w.alloc o1).alloc o2).alloc o3) := below_alloc (below_alloc (below_alloc (Below.refl _ _) _) _) _
  rw [ho1, ho2, ho3] at K1 K2 HB0
  clear ho1 ho2 ho3 o1 o2 o3
  have KB := Aside0.mk K1
  have KD := Aside0.mk K2
  have HB := Aside0.mk HB0
  clear K1 K2 HB0
  refine (callsIn_wide (n := 6)).1 ?_
  refine callsIn_of_wp_marks Tryd.func46 rfl trivial ?_ rfl
  simp only [Tryd.ntmps46, List.size_toArray, List.length_cons, List.length_nil, Nat.reduceAdd, Nat.reduceSub, Array.replicate_succ, Array.replicate_zero, List.push_toArray, List.append_toArray, List.nil_append, List.cons_append]
  gi_wp2_with fail
  refine ⟨trivial, ?_⟩; gi_at_call 85
  refine (callsIn_wide.2 (bitset_MayTable.calls k n _ _ l0 false _ (Kd.C_alloc (Kd.C_alloc (Kd.C_alloc HC.out _) _) _) hc0 HM.out)).mono ?_
  rintro e w1 ⟨rfl, hb⟩
  have n1_ := Aside0.mk (blk_below KB.out hb); have n2_ := Aside0.mk (blk_below KD.out hb); have n3_ := Aside0.mk (below_step HB.out hb)
  clear KB KD HB hb
  have KB := n1_; have KD := n2_; have HB := n3_
  clear n1_ n2_ n3_
  have k0 := (blk_cell KB.out 0).trans rfl; have k1 := (blk_cell KB.out 1).trans rfl
  have q0 := (blk_cell KD.out 0).trans rfl; have q1 := (blk_cell KD.out 1).trans rfl; have z0 := blk_frozen KD.out 0; have z1 := blk_frozen KD.out 1
  gi_wp2_with fail
  refine ⟨trivial, ?_⟩
  gi_wp2_with fail
  obtain ⟨X, hX⟩ : ∃ X, (World.setCell w1 ⟨w.heap.size + 1 + 1, 0, none⟩ (Value.int IntKind.i64 0)).setCell ⟨w.heap.size + 1 + 1, 1, none⟩ (Value.slice none 0 0) = X := ⟨_, rfl⟩
  have hXg : X.heap[w.heap.size + 1 + 1]? = some (.cells #[.int .i64 0, Value.slice none 0 0] 56 (0, 0)) := hX ▸ blk_put (blk_put KD.out 0 (Value.int IntKind.i64 0) rfl) 1 (Value.slice none 0 0) rfl
  have hXB := wb (g := w.heap.size + 1 + 1) hX.symm HB.out (by omega)
  try rw [hX]
  have c0 := (blk_cell hXg 0).trans rfl
  have c1 := (blk_cell hXg 1).trans rfl
  refine ⟨.tuple #[.agg #[.int .i64 0, .slice none 0 0], .int .i64 61], ?_, _, rfl, Kd.S_nil _ _ _ _ _, hXB⟩
  simp [results, Tryd.f46, go_sem, c0, c1]
set_option maxHeartbeats 8000000 in
set_option maxRecDepth 100000 in
theorem Product_no2 (k : Nat) (n m : Int) (A0 : Option Addr) (c0 : Nat) (l0 : List S24) (B0 : Option Addr) (d0 : Nat) (lb : List S24) (w : World) (hr0 : Kd.C k24 w A0 l0.length l0) (hc0 : l0.length ≤ c0) (hr1 : Kd.C k24 w B0 lb.length lb) (hc1 : lb.length ≤ d0) (b2 : Bool) (hb2 : b2 = true → n ≠ (lb.length : Int)) (hM : bitset_MayTable.f k n l0 = some true) (hMb : bitset_MayTable.f k m lb = some b2) :
    Calls Tryd.prog 46 #[.agg #[.int .i64 n, .slice A0 l0.length c0], .agg #[.int .i64 m, .slice B0 lb.length d0]] w fun e w' => ∃ v : Value, e = .returned (.tuple #[.agg #[.int .i64 0, v], .int .i64 (if b2 = true then 60 else 61)]) ∧ Kd.S k24 24 w' w.heap.size (fun _ => True) v [] ∧ Below w.heap.size w w' := by
  have hu24 := Tryd.underlying24
  have hu56 := Tryd.underlying56
  have HC := Aside0.mk hr0
  have HD := Aside0.mk hr1
  have HM := Aside0.mk hM
  have HMb := Aside0.mk hMb
  have HN := Aside0.mk hb2
  clear hr0 hr1 hM hMb hb2
  obtain ⟨o1, ho1⟩ : ∃ o1 : Obj, o1 = .cells #[.int .i64 n, .slice A0 l0.length c0] 56 (0, 0) := ⟨_, rfl⟩
  obtain ⟨o2, ho2⟩ : ∃ o2 : Obj, o2 = .cells #[.int .i64 m, .slice B0 lb.length d0] 56 (0, 0) := ⟨_, rfl⟩
  obtain ⟨o3, ho3⟩ : ∃ o3 : Obj, o3 = .cells #[.int .i64 0, .slice none 0 0] 56 (0, 0) := ⟨_, rfl⟩
  have K0 : (((w.alloc o1).alloc o2).alloc o3).heap[w.heap.size]? = some o1 := blk_alloc (blk_alloc (blk_new w o1) _) _
  have K1 : (((w.alloc o1).alloc o2).alloc o3).heap[w.heap.size + 1]? = some o2 := by have := blk_alloc (blk_new (w.alloc o1) o2) o3; rwa [World.size_alloc] at this
  have K2 : (((w.alloc o1).alloc o2).alloc o3).heap[w.heap.size + 1 + 1]? = some o3 := by have := blk_new ((w.alloc o1).alloc o2) o3; rwa [World.size_alloc, World.size_alloc] at this
  have HB0 : Below w.heap.size w (((w.alloc o1).alloc o2).alloc o3) := below_alloc (below_alloc (below_alloc (Below.refl _ _) _) _) _
  rw [ho1, ho2, ho3] at K0 K1 K2 HB0
  clear ho1 ho2 ho3 o1 o2 o3
  have KA := Aside0.mk K0
  have KB := Aside0.mk K1
  have KD := Aside0.mk K2
  have HB := Aside0.mk HB0
  clear K0 K1 K2 HB0
  refine (callsIn_wide (n := 6)).1 ?_
  refine callsIn_of_wp_marks Tryd.func46 rfl trivial ?_ rfl
  simp only [Tryd.ntmps46, List.size_toArray, List.length_cons, List.length_nil, Nat.reduceAdd, Nat.reduceSub, Array.replicate_succ, Array.replicate_zero, List.push_toArray, List.append_toArray, List.nil_append, List.cons_append]
  gi_wp2_with fail
  refine ⟨trivial, ?_⟩; gi_at_call 85
  refine (callsIn_wide.2 (bitset_MayTable.calls k n _ _ l0 true _ (Kd.C_alloc (Kd.C_alloc (Kd.C_alloc HC.out _) _) _) hc0 HM.out)).mono ?_
  rintro e w0 ⟨rfl, hb⟩
  have n0_ := Aside0.mk (blk_below KA.out hb); have n1_ := Aside0.mk (blk_below KB.out hb); have n2_ := Aside0.mk (blk_below KD.out hb); have n3_ := Aside0.mk (below_step HB.out hb)
  clear KA KB KD HB hb
  have KA := n0_; have KB := n1_; have KD := n2_; have HB := n3_
  clear n0_ n1_ n2_ n3_
  have q0 := (blk_cell KB.out 0).trans rfl; have q1 := (blk_cell KB.out 1).trans rfl
  gi_wp2_with fail
  refine ⟨trivial, ?_⟩; gi_at_call 85
  refine (callsIn_wide.2 (bitset_MayTable.calls k m _ _ lb b2 _ (Kd.C_below HD.out HB.out) hc1 HMb.out)).mono ?_
  rintro e w1 ⟨rfl, hb⟩
  have n0_ := Aside0.mk (blk_below KA.out hb); have n1_ := Aside0.mk (blk_below KB.out hb); have n2_ := Aside0.mk (blk_below KD.out hb); have n3_ := Aside0.mk (below_step HB.out hb)
  clear KA KB KD HB hb q0 q1
  have KA := n0_; have KB := n1_; have KD := n2_; have HB := n3_
  clear n0_ n1_ n2_ n3_
  have q0 := (blk_cell KB.out 0).trans rfl; have q1 := (blk_cell KB.out 1).trans rfl
  have q2 := (blk_cell KA.out 0).trans rfl
  have k0 := (blk_cell KD.out 0).trans rfl; have k1 := (blk_cell KD.out 1).trans rfl; have z0 := blk_frozen KD.out 0; have z1 := blk_frozen KD.out 1
  obtain ⟨X, hX⟩ : ∃ X, (World.setCell w1 ⟨w.heap.size + 1 + 1, 0, none⟩ (Value.int IntKind.i64 0)).setCell ⟨w.heap.size + 1 + 1, 1, none⟩ (Value.slice none 0 0) = X := ⟨_, rfl⟩
  have hXg : X.heap[w.heap.size + 1 + 1]? = some (.cells #[.int .i64 0, Value.slice none 0 0] 56 (0, 0)) := hX ▸ blk_put (blk_put KD.out 0 (Value.int IntKind.i64 0) rfl) 1 (Value.slice none 0 0) rfl
  have hXB := wb (g := w.heap.size + 1 + 1) hX.symm HB.out (by omega)
  have c0' := (blk_cell hXg 0).trans rfl
  have c1' := (blk_cell hXg 1).trans rfl
  cases b2 with
  | false =>
    gi_wp2_with fail
    try rw [hX]
    refine ⟨.tuple #[.agg #[.int .i64 0, .slice none 0 0], .int .i64 61], ?_, _, rfl, Kd.S_nil _ _ _ _ _, hXB⟩
    simp [results, Tryd.f46, go_sem, c0', c1']
  | true =>
    have hne : (n == (lb.length : Int)) = false := by simpa using HN.out rfl
    have hne2 : ¬ (n = (lb.length : Int)) := HN.out rfl
    gi_wp2_with fail
    try rw [hX]
    refine ⟨.tuple #[.agg #[.int .i64 0, .slice none 0 0], .int .i64 60], ?_, _, rfl, Kd.S_nil _ _ _ _ _, hXB⟩
    simp [results, Tryd.f46, go_sem, c0', c1']
def bitset_Product.f (k : Nat) (a0_0 : Int) (l0_1 : List S24) (a1_0 : Int) (l1_1 : List S24) : Option (Int × List S24 × Int) :=
  if (Goods l0_1 ∧ l0_1.length ≤ 9223372036854775807) ∧ (Goods l1_1 ∧ l1_1.length ≤ 9223372036854775807) then (bitset_MayTable.f k a0_0 l0_1).bind fun b => if b = true then (bitset_MayTable.f k a1_0 l1_1).bind fun b2 => if b2 = true then
    if a0_0 = (l1_1.length : Int) then (bitset_blanks.f k a1_0 (l0_1.length : Int)).bind fun t => some (t.1, prodA l1_1 0 l0_1 t.2, 0) else some (0, [], 60) else some (0, [], 61) else some (0, [], 61) else none
theorem bitset_Product.calls (k : Nat) (a0_0 : Int) (A0_1 : Option Addr) (c0_1 : Nat) (l0_1 : List (S24)) (a1_0 : Int) (A1_1 : Option Addr) (c1_1 : Nat) (l1_1 : List (S24)) (r1 : Int) (r2 : List (S24)) (r3 : Int) (w : World) (hr0_1 : Kd.C k24 w A0_1 l0_1.length l0_1) (hc0_1 : l0_1.length ≤ c0_1) (hr1_1 : Kd.C k24 w A1_1 l1_1.length l1_1) (hc1_1 : l1_1.length ≤ c1_1) (hG : Tz w) (h : bitset_Product.f k a0_0 l0_1 a1_0 l1_1 = some (r1, r2, r3)) :
    Calls Tryd.prog 46 #[.agg #[.int .i64 a0_0, .slice A0_1 l0_1.length c0_1], .agg #[.int .i64 a1_0, .slice A1_1 l1_1.length c1_1]] w fun e w' => ∃ v1_ : Value, e = .returned (.tuple #[.agg #[.int .i64 r1, v1_], .int .i64 r3]) ∧ Kd.S k24 24 w' w.heap.size (fun _ => True) v1_ r2 ∧ Below w.heap.size w w' := by
  unfold bitset_Product.f at h
  by_cases hg : (Goods l0_1 ∧ l0_1.length ≤ 9223372036854775807) ∧ (Goods l1_1 ∧ l1_1.length ≤ 9223372036854775807)
  · rw [if_pos hg] at h
    obtain ⟨b, hM, h⟩ := Option.bind_eq_some_iff.1 h
    cases b with
    | true =>
      have hT : TabP a0_0 l0_1 := tabp_true.1 (MayTable_is hg.1.1 hg.1.2 hM).symm
      rw [if_pos rfl] at h
      obtain ⟨b2, hMb, h⟩ := Option.bind_eq_some_iff.1 h
      cases b2 with
      | true =>
        have hTb : TabP a1_0 l1_1 := tabp_true.1 (MayTable_is hg.2.1 hg.2.2 hMb).symm
        rw [if_pos rfl] at h
        by_cases hn : a0_0 = (l1_1.length : Int)
        · rw [if_pos hn] at h
          obtain ⟨t, hBl, h⟩ := Option.bind_eq_some_iff.1 h
          obtain ⟨n, rfl⟩ := Int.eq_ofNat_of_zero_le hT.1
          obtain ⟨m, rfl⟩ := Int.eq_ofNat_of_zero_le hTb.1
          obtain ⟨rows, hR, hE⟩ := blanks_ev (m := m) (n := l0_1.length) (by have := hTb.2.1; omega) hT.2.2.1
          have ht := Ev.eq (Ev.of (bitset_blanks.mono _ _) hBl) hE
          subst ht
          simp only [Option.some.injEq, Prod.mk.injEq] at h
          obtain ⟨rfl, rfl, rfl⟩ := h
          exact Product_yes k n m A0_1 c0_1 l0_1 A1_1 c1_1 l1_1 rows w hr0_1 hc0_1 hr1_1 hc1_1 hG hT hg.1.1 hTb (by omega) hM hMb hBl hR.rok
        · rw [if_neg hn] at h
          cases h
          exact Product_no2 k a0_0 a1_0 A0_1 c0_1 l0_1 A1_1 c1_1 l1_1 w hr0_1 hc0_1 hr1_1 hc1_1 true (fun _ => hn) hM hMb
      | false =>
        rw [if_neg (by decide)] at h
        cases h
        exact Product_no2 k a0_0 a1_0 A0_1 c0_1 l0_1 A1_1 c1_1 l1_1 w hr0_1 hc0_1 hr1_1 hc1_1 false (fun h => by cases h) hM hMb
    | false =>
      rw [if_neg (by decide)] at h
      cases h
      exact Product_no k a0_0 a1_0 A0_1 c0_1 l0_1 A1_1 c1_1 l1_1 w hr0_1 hc0_1 hM
  · rw [if_neg hg] at h; cases h
theorem orw_is {n : Nat} {p q : Nat → Bool} {b ws : List Int} (hb' : Is n p b) (hw : Is n q ws) : Is n (fun d => p d || q d) (orw b ws) := by
  have hl : ws.length ≤ b.length := by rw [hw.len, hb'.len]; exact Nat.le_refl _
  obtain ⟨c, hc, hi⟩ := foldw_is bitly_or hb' hw
  rw [orw_eq hl] at hc
  cases hc
  exact hi
theorem RowsAre.prod {n m r : Nat} {p q : Nat → Nat → Bool} {lb rows : List S24} (hb' : RowsAre r m q lb) (h : RowsAre n m p rows) {j : Nat} (hj : j < n) {e : Nat} (he : e < r) : RowsAre n m (fun x d => p x d || (decide (x = j) && q e d)) (prodS lb j rows (e : Int)) := by
  have hjl : j < rows.length := by rw [h.1]; exact hj
  have hel : e < lb.length := by rw [hb'.1]; exact he
  unfold prodS
  rw [rdT_nat rows hjl, rdT_nat lb hel]
  obtain ⟨a1, a2⟩ := h.2 j hjl
  refine (h.set _ a1 (orw_is a2 (hb'.2 e hel).2)).congr fun x _ d _ => ?_
  by_cases hx : x = j
  · subst hx; simp
  · simp [hx]
theorem RowsAre.prods {n m r : Nat} {q : Nat → Nat → Bool} {lb : List S24} (hb' : RowsAre r m q lb) {j : Nat} (hj : j < n) : ∀ (xs : List Int) {p : Nat → Nat → Bool} {rows : List S24}, RowsAre n m p rows → (∀ z ∈ xs, 0 ≤ z ∧ z < r) → RowsAre n m (fun x d => p x d || (decide (x = j) && xs.any (fun z => q z.toNat d))) (xs.foldl (prodS lb j) rows)
  | [], p, rows, h, _ => h.congr fun x _ d _ => by simp
  | z :: xs, p, rows, h, hz => by
    obtain ⟨y, rfl⟩ := Int.eq_ofNat_of_zero_le (hz z List.mem_cons_self).1
    have hy : y < r := by have := (hz _ List.mem_cons_self).2; omega
    refine (RowsAre.prods hb' hj xs (RowsAre.prod hb' h hj hy) (fun z h => hz z (List.mem_cons_of_mem _ h))).congr fun x _ d _ => ?_
    simp only [List.any_cons, Int.toNat_natCast]
    generalize p x d = a1
    generalize decide (x = j) = a2
    generalize q y d = a3
    generalize xs.any (fun z => q z.toNat d) = a4
    revert a1 a2 a3 a4
    decide
def prodP (r : Nat) (p q : Nat → Nat → Bool) (x d : Nat) : Bool := (List.range r).any fun e => p x e && q e d
theorem els_any {r : Nat} {ws : List Int} (hM : MayP (r : Int) ws) (f : Nat → Bool) : (els (64 * ws.length) ws).any (fun z => f z.toNat) = (List.range r).any fun e => hb ws e && f e := by
  rw [Bool.eq_iff_iff, List.any_eq_true, List.any_eq_true]
  constructor
  · rintro ⟨z, hz, h⟩
    obtain ⟨j, _, j2, rfl⟩ := mem_els.1 hz
    have hj : j < r := by have := (els_in hM hz).2; omega
    exact ⟨j, List.mem_range.2 hj, by rw [j2]; simpa using h⟩
  · rintro ⟨e, he, h⟩
    rw [Bool.and_eq_true] at h
    exact ⟨(e : Int), mem_els.2 ⟨e, Nat.lt_of_not_le (fun hle => by rw [hb_high hle] at h; cases h.1), h.1, rfl⟩, by simpa using h.2⟩
theorem RowsAre.prodA {n m r : Nat} {q : Nat → Nat → Bool} {lb : List S24} (hb' : RowsAre r m q lb) : ∀ (l : List S24) (i : Nat) {p : Nat → Nat → Bool} {rows : List S24}, RowsAre n m p rows → i + l.length ≤ n → (∀ s ∈ l, MayP (r : Int) s.f1) → RowsAre n m (fun x d => p x d || (decide (i ≤ x) && (List.range r).any fun e => hb (l.getD (x - i) ⟨0, []⟩).f1 e && q e d)) (prodA lb i l rows)
  | [], i, p, rows, h, _, _ => h.congr fun x _ d _ => by simp [hb_high]
  | s :: l, i, p, rows, h, hi, hm => by
    simp only [List.length_cons] at hi
    have h1 := RowsAre.prods hb' (j := i) (by omega) (els (64 * s.f1.length) s.f1) h (fun z hz => els_in (hm s List.mem_cons_self) hz)
    refine (RowsAre.prodA hb' l (i + 1) h1 (by omega) (fun s hs => hm s (List.mem_cons_of_mem _ hs))).congr fun x _ d _ => ?_
    rw [els_any (hm s List.mem_cons_self) (fun e => q e d)]
    by_cases hx : x = i
    · subst hx
      have e1 : ¬ (x + 1 ≤ x) := by omega
      have e2 : x - x = 0 := by omega
      rw [e2]
      simp only [e1, Nat.le_refl, List.getD_cons_zero, decide_true, decide_false, Bool.true_and, Bool.false_and, Bool.or_false]
    · by_cases hix : i ≤ x
      · have h2 : i + 1 ≤ x := by omega
        obtain ⟨c, rfl⟩ : ∃ c, x = i + 1 + c := ⟨x - (i + 1), by omega⟩
        have e1 : i + 1 + c - (i + 1) = c := by omega
        have e2 : i + 1 + c - i = c + 1 := by omega
        rw [e1, e2]
        simp [hx, hix]
      · have h2 : ¬ i + 1 ≤ x := by omega
        simp [hx, hix, h2]
theorem Product_rows {n r m : Nat} (hn : n ≤ 4096) (hr : r ≤ 4096) (hm : m ≤ 4096) {p q : Nat → Nat → Bool} {l lb : List S24} (hR : RowsAre n r p l) (hB : RowsAre r m q lb) : ∃ rows, RowsAre n m (prodP r p q) rows ∧ Ev (fun k => bitset_Product.f k (r : Int) l (m : Int) lb) ((m : Int), rows, 0) := by
  obtain ⟨hT, hg⟩ := hR.tab hn hr
  obtain ⟨hTb, hgb⟩ := hB.tab hr hm
  have hl : l.length ≤ 9223372036854775807 := by rw [hR.1]; omega
  have hlb : lb.length ≤ 9223372036854775807 := by rw [hB.1]; omega
  obtain ⟨K, hM⟩ := MayTable_eq (r : Int) l hl hg
  obtain ⟨K2, hMb⟩ := MayTable_eq (m : Int) lb hlb hgb
  obtain ⟨rows, hBk, L, hE⟩ := blanks_ev (m := m) (n := l.length) hm (by rw [hR.1]; exact hn)
  refine ⟨prodA lb 0 l rows, ?_, K + K2 + L, fun k hk => ?_⟩
  · have h1 := RowsAre.prodA hB l 0 hBk (by omega) (fun s hs => by
      have h2 := hT.2.2.2 s hs
      have h3 := h2.1
      unfold MayS at h3
      rwa [h2.2] at h3)
    rw [hR.1] at h1
    refine h1.congr fun x hx d hd => ?_
    have hx' : x < l.length := by rw [hR.1]; exact hx
    have e : l.getD x ⟨0, []⟩ = l[x] := by simp [List.getD_eq_getElem?_getD, List.getElem?_eq_getElem hx']
    have h4 := (hR.2 x hx').2.has
    simp only [Bool.false_or, Nat.zero_le, decide_true, Bool.true_and, Nat.sub_zero]
    rw [e]
    unfold prodP
    rw [Bool.eq_iff_iff, List.any_eq_true, List.any_eq_true]
    constructor
    · rintro ⟨c, hc, h⟩
      exact ⟨c, hc, by rw [h4 c] at h; simpa [List.mem_range.1 hc] using h⟩
    · rintro ⟨c, hc, h⟩
      exact ⟨c, hc, by rw [h4 c]; simpa [List.mem_range.1 hc] using h⟩
  · show bitset_Product.f k (r : Int) l (m : Int) lb = _
    unfold bitset_Product.f
    have h1 := hM k (by omega)
    have h2 := hE k (by omega)
    have h3 := hMb k (by omega)
    simp only at h1 h2 h3
    rw [if_pos ⟨⟨hg, hl⟩, hgb, hlb⟩, h1, tabp_true.2 hT, Option.bind_some, if_pos rfl, h3, tabp_true.2 hTb, Option.bind_some, if_pos rfl, if_pos (by rw [hB.1]), h2, Option.bind_some]
end Go.Proofs.YtjmkhdhffmlhiaaDoor.PAll
end
section
namespace Go.Proofs.YtjmkhdhffmlhiaaDoor.PAll
open Go.RowKit Go.Proofs.YtjmkhdhffmlhiaaDoorW.PrintWords Go.Proofs.YtjmkhdhffmlhiaaDoorW.PrintLast Go.Proofs.YtjmkhdhffmlhiaaDoorW.PrintMore
attribute [local go_sem] max2_int min2_int max_two min_two max_three min_three max_four min_four w64_u8 w64_mod256   -- for this text's walks alone
set_option linter.unusedVariables false
set_option linter.unusedSimpArgs false
def bitset_square.f (a0_0 : Int) (l0_1 : List (S24)) : Option (Bool) := some (a0_0 == (l0_1.length : Int))
set_option maxHeartbeats 8000000 in
set_option maxRecDepth 100000 in
theorem bitset_square.calls (a0_0 : Int) (A0_1 : Option Addr) (c0_1 : Nat) (l0_1 : List (S24)) (r : Bool) (w : World) (hr0_1 : Kd.C k24 w A0_1 l0_1.length l0_1) (hc0_1 : l0_1.length ≤ c0_1) (h : bitset_square.f a0_0 l0_1 = some r) :
    Calls Tryd.prog 87 #[.agg #[.int .i64 a0_0, .slice A0_1 l0_1.length c0_1]] w fun e w' => e = .returned (.bool r) ∧ Below w.heap.size w w' := by
  have hu56 := Tryd.underlying56
  have HR0_1 := Aside0.mk hr0_1
  have HC0_1 := Aside0.mk hc0_1
  clear hr0_1 hc0_1
  have HB := Aside0.mk (Below.refl w.heap.size w)
  have H : (some (a0_0 == (l0_1.length : Int))) = some r := h
  clear h
  obtain rfl := Option.some.inj H
  go_enter Tryd.func87, Tryd.ntmps87
  go_wp2_with (first | ((with_reducible refine gate_dst (N := 1) rfl ?_); refine box_event ?hg (N := 1) ?hd (cs := #[.int .i64 a0_0, .slice A0_1 l0_1.length c0_1]) (t := 56) ?hr ?_; (case hd => rfl); (case hg => rfl); (case hr => first | (go_simp; done) | (go_simp; rfl)); intro gb101 hg w2 hbox hb; have n0_ := Aside0.mk (below_step (by repeat (first | (with_reducible first | exact HB.out | apply below_alloc | apply pw_below_drewN | apply below_drew1) | exact HB.out)) hb); have n1_ := Aside0.mk (hbox); have n2_ := Aside0.mk ((by rw [hg]; exact (below_size (by repeat (first | (with_reducible first | exact HB.out | apply below_alloc | apply pw_below_drewN | apply below_drew1) | exact HB.out))) : w.heap.size ≤ gb101)); have n3_ := Aside0.mk ((by rw [hg]; exact (below_size (by repeat (first | (with_reducible first | exact HB.out | apply below_alloc | apply pw_below_drewN | apply below_drew1) | exact HB.out))) : w.heap.size ≤ gb101)); clear HB; have HB := n0_; have BK101 := n1_; have GW101 := n2_; have GE101 := n3_; clear n0_ n1_ n2_ n3_; clear hb hbox hg; have hcz3_0 : w2.cell? ⟨gb101, 0, none⟩ = some (.int .i64 a0_0) := (blk_cell BK101.out 0).trans rfl; have hcz3_1 : w2.cell? ⟨gb101, 1, none⟩ = some (.slice A0_1 l0_1.length c0_1) := (blk_cell BK101.out 1).trans rfl; have hfz3_0 := blk_frozen BK101.out 0; have hfz3_1 := blk_frozen BK101.out 1))
  go_ret
  exact ⟨by first | rfl | (simp [errW_none, errW_some] <;> rfl) | (simp [*, errW_none, errW_some] <;> rfl), by repeat (first | (with_reducible first | exact HB.out | apply below_alloc | apply pw_below_drewN | apply below_drew1 | refine below_set ?_ GE101.out) | exact HB.out)⟩
end Go.Proofs.YtjmkhdhffmlhiaaDoor.PAll
end
section
namespace Go.Proofs.YtjmkhdhffmlhiaaDoor.PAll
set_option linter.unusedVariables false
open Go.RowKit Go.Shelf Go.Proofs.YtjmkhdhffmlhiaaDoorW.PrintWords Go.Proofs.YtjmkhdhffmlhiaaDoorW.PrintLast Go.Proofs.YtjmkhdhffmlhiaaDoorW.PrintMore
def bothS (j : Nat) (rows : List S24) (s : S24) : List S24 := rows.set j ⟨(rd_T24 rows (j : Int)).f0, orw (rd_T24 rows (j : Int)).f1 s.f1⟩
def bothA : Nat → List S24 → List S24 → List S24
  | _, [], rows => rows
  | j, s :: l, rows => bothA (j + 1) l (bothS j rows s)
def bitset_Both.f (k : Nat) (a0_0 : Int) (l0_1 : List S24) : Option (Int × List S24 × Int) :=
  if Goods l0_1 ∧ l0_1.length ≤ 9223372036854775807 then (bitset_MayTable.f k a0_0 l0_1).bind fun b => if b = true then
    if a0_0 = (l0_1.length : Int) then (bitset_Turn.f k a0_0 l0_1).bind fun t => some (t.1, bothA 0 l0_1 t.2.1, 0) else some (0, [], 60) else some (0, [], 61) else none
theorem bitset_Both.mono : ∀ a0_0 l0_1 k, LeO (bitset_Both.f k a0_0 l0_1) (bitset_Both.f (k + 1) a0_0 l0_1) := by
  intro a l k
  unfold bitset_Both.f
  split
  · exact LeO.bind (bitset_MayTable.mono _ _ _) fun b => LeO.ite (LeO.ite (LeO.bind (bitset_Turn.mono _ _ _) fun t => LeO.refl _) (LeO.refl _)) (LeO.refl _)
  · exact LeO.none _
theorem RowsAre.both {n m : Nat} {p : Nat → Nat → Bool} {rows : List S24} (h : RowsAre n m p rows) {j : Nat} (hj : j < n) {s : S24} {q : Nat → Bool} (hs : Is m q s.f1) : RowsAre n m (fun x d => p x d || (decide (x = j) && q d)) (bothS j rows s) := by
  have hjl : j < rows.length := by rw [h.1]; exact hj
  unfold bothS
  rw [rdT_nat rows hjl]
  obtain ⟨a1, a2⟩ := h.2 j hjl
  refine (h.set _ a1 (orw_is a2 hs)).congr fun x _ d _ => ?_
  by_cases hx : x = j
  · subst hx; simp
  · simp [hx]
theorem RowsAre.bothA {n m : Nat} : ∀ (l : List S24) (i : Nat) {p : Nat → Nat → Bool} {rows : List S24}, RowsAre n m p rows → i + l.length ≤ n → (∀ s ∈ l, MayP (m : Int) s.f1 ∧ Wds s.f1) → RowsAre n m (fun x d => p x d || (decide (i ≤ x) && hb (l.getD (x - i) ⟨0, []⟩).f1 d)) (bothA i l rows)
  | [], i, p, rows, h, _, _ => h.congr fun x _ d _ => by simp [hb_high]
  | s :: l, i, p, rows, h, hi, hm => by
    simp only [List.length_cons] at hi
    have hs := hm s List.mem_cons_self
    have h1 := h.both (j := i) (by omega) (s := s) (q := hb s.f1) (by have := hs.1.is hs.2; rwa [Int.toNat_natCast] at this)
    refine (RowsAre.bothA l (i + 1) h1 (by omega) (fun s hs => hm s (List.mem_cons_of_mem _ hs))).congr fun x _ d _ => ?_
    by_cases hx : x = i
    · subst hx
      have e1 : ¬ (x + 1 ≤ x) := by omega
      have e2 : x - x = 0 := by omega
      rw [e2]
      simp only [e1, Nat.le_refl, List.getD_cons_zero, decide_true, decide_false, Bool.true_and, Bool.false_and, Bool.or_false]
    · by_cases hix : i ≤ x
      · have h2 : i + 1 ≤ x := by omega
        obtain ⟨c, rfl⟩ : ∃ c, x = i + 1 + c := ⟨x - (i + 1), by omega⟩
        have e1 : i + 1 + c - (i + 1) = c := by omega
        have e2 : i + 1 + c - i = c + 1 := by omega
        rw [e1, e2]
        simp [hx, hix]
      · have h2 : ¬ i + 1 ≤ x := by omega
        simp [hx, hix, h2]
end Go.Proofs.YtjmkhdhffmlhiaaDoor.PAll
end
section
namespace Go.Proofs.YtjmkhdhffmlhiaaDoor.PAll
set_option linter.unusedVariables false
open Go.RowKit Go.Shelf Go.Proofs.YtjmkhdhffmlhiaaDoorW.PrintWords Go.Proofs.YtjmkhdhffmlhiaaDoorW.PrintLast Go.Proofs.YtjmkhdhffmlhiaaDoorW.PrintMore
theorem put_words (g cap n base : Nat) (ok : Nat → Prop) : ∀ (ys : List Int) (o : Nat) (xs : List Int) (W : World), Kd.R (Kd.int .u64) 87 W base ok (.slice (some ⟨g, 0, none⟩) n cap) xs → o + ys.length ≤ xs.length →
    Kd.R (Kd.int .u64) 87 (W.setCells g o (ys.map (.int .u64))) base ok (.slice (some ⟨g, 0, none⟩) n cap) (xs.take o ++ ys ++ xs.drop (o + ys.length)) ∧ Kept W (W.setCells g o (ys.map (.int .u64))) (fun k => k = g) ∧ KeepsOthers W (W.setCells g o (ys.map (.int .u64))) ∧ ∀ B w0, Below B w0 W → B ≤ g → Below B w0 (W.setCells g o (ys.map (.int .u64)))
  | [], o, xs, W, h, hl => by
    refine ⟨?_, Kept.refl _ _, KeepsOthers.refl _, fun _ _ h _ => h⟩
    have e : xs.take o ++ [] ++ xs.drop (o + ([] : List Int).length) = xs := by simp
    rw [e]
    exact h
  | y :: ys, o, xs, W, h, hl => by
    simp only [List.length_cons] at hl
    have h1 := Kd.R_putn h (o : Int) y
    rw [Int.toNat_natCast] at h1
    obtain ⟨a1, a2, a3, a4⟩ := put_words g cap n base ok ys (o + 1) (xs.set o y) (W.setCell ⟨g, o, none⟩ (.int .u64 y)) h1 (by rw [List.length_set]; omega)
    have ho : o < xs.length := by omega
    have e : (xs.set o y).take (o + 1) ++ ys ++ (xs.set o y).drop (o + 1 + ys.length) = xs.take o ++ (y :: ys) ++ xs.drop (o + (ys.length + 1)) := by
      rw [List.take_add_one, List.take_set_of_le (by omega), List.drop_set_of_lt (by omega)]
      simp [ho, Nat.add_assoc, Nat.add_comm 1]
    rw [e] at a1
    refine ⟨a1, ⟨?_, fun k hk hn => ?_⟩, (KeepsOthers.setCell _ _ _).trans a3, fun B w0 hB hg => a4 B w0 (hB.setCell hg _) hg⟩
    · have := a2.1; rw [World.size_setCell] at this; exact this
    · have := a2.2 k (by rw [World.size_setCell]; exact hk) hn
      exact this.trans (Below.heap_setCell _ _ _ _ hn)
set_option maxRecDepth 100000 in
theorem copy_words (W : World) (base : Nat) (ok : Nat → Prop) (v : Value) (xs ys : List Int) (A : Option Addr) (c : Nat) (hR : Kd.R (Kd.int .u64) 87 W base ok v xs) (hC : Kd.C (Kd.int .u64) W A ys.length ys) (hl : ys.length = xs.length) :
    ∃ W', (Builtin.copy_ #[22, 22] 3 #[v, .slice A ys.length c]).run Tryd.prog W = .ok (goInt ys.length) W' ∧ Kd.R (Kd.int .u64) 87 W' base ok v ys ∧ Kept W W' (fun k => some k = v.ownBlock) ∧ KeepsOthers W W' ∧ ∀ B w0, Below B w0 W → B ≤ base → Below B w0 W' := by
  have hi : (Tryd.prog.info? 87).map (·.size) = some 1 := by kernel_rfl
  by_cases h0 : ys.length = 0
  · obtain ⟨A', c', rfl⟩ := Kd.R_slice hR
    have hx : xs = [] := List.length_eq_zero_iff.1 (by omega)
    have hy : ys = [] := List.length_eq_zero_iff.1 h0
    refine ⟨W, ?_, ?_, Kept.refl _ _, KeepsOthers.refl _, fun _ _ h _ => h⟩
    · rw [h0]
      exact run_copy_none W _ _ _ _ A' A _ c' 0 c Tryd.underlying22 hi (by simp)
    · rw [hy, ← hx]; exact hR
  · obtain ⟨g, cap, rfl, hgb, hgl, cells, hcells⟩ := Kd.R_form hR (by omega)
    obtain ⟨ad, hA, _⟩ := Kd.at_int hC 0 (by decide) (by omega)
    subst hA
    obtain ⟨a1, a2, a3, a4⟩ := put_words g cap xs.length base ok ys 0 xs W hR (by omega)
    refine ⟨_, ?_, ?_, ⟨a2.1, fun k hk hn => a2.2 k hk (fun e => hn (by rw [e]; rfl))⟩, a3, fun B w0 hB hb => a4 B w0 hB (Nat.le_trans hb hgb)⟩
    · have := run_copy_cells (P := Tryd.prog) W 22 22 3 87 g 0 xs.length cap ad ys.length c (ys.map (.int .u64)) Tryd.underlying22 hi (by rw [List.length_map, hl]; exact (Nat.min_self _).symm)
        (fun j u hu => by
          rw [List.getElem?_map] at hu
          obtain ⟨y, hy, rfl⟩ := Option.map_eq_some_iff.1 hu
          obtain ⟨hj, hy2⟩ := List.getElem?_eq_some_iff.1 hy
          obtain ⟨ad', e1, e2⟩ := Kd.at_int hC (j : Int) (by omega) (by omega)
          injection e1 with e1
          subst e1
          rw [Int.toNat_natCast, rd_nat] at e2
          rw [e2, List.getD_eq_getElem?_getD, hy]
          rfl)
        (fun j hj => by
          rw [List.length_map] at hj
          have := (Kd.R_celln (0 : Int) hR (j : Int) (by omega) (by omega)).1
          rw [Int.toNat_natCast] at this
          rw [Nat.zero_add, this]; rfl)
        (fun j hj => by
          rw [List.length_map] at hj
          have := (Kd.R_celln (0 : Int) hR (j : Int) (by omega) (by omega)).2
          rw [Int.toNat_natCast] at this
          rw [Nat.zero_add, this])
        (fun u hu => by
          obtain ⟨y, _, rfl⟩ := List.mem_map.1 hu
          rfl)
      rw [List.length_map] at this
      exact this
    · have e : xs.take 0 ++ ys ++ xs.drop (0 + ys.length) = ys := by
        rw [List.take_zero, List.nil_append, List.drop_of_length_le (by omega), List.append_nil]
      rw [e] at a1
      exact a1
theorem copy_row (rows : List S24) (j : Nat) (w0 W : World) (ok : Nat → Prop) (g cap : Nat) (hB : Below w0.heap.size w0 W) (hS : Kd.S k24 24 W w0.heap.size ok (.slice (some ⟨g, 0, none⟩) rows.length cap) rows) (hj : j < rows.length) (ys : List Int) (A1 : Option Addr) (c1 : Nat)
    (hx : Kd.C (Kd.int .u64) W A1 ys.length ys) (hl : ys.length = (rd_T24 rows (j : Int)).f1.length) :
    ∃ v W', W.cell? ⟨g, j * 2 + 1, none⟩ = some v ∧ (Builtin.copy_ #[22, 22] 3 #[v, .slice A1 ys.length c1]).run Tryd.prog W = .ok (goInt ys.length) W' ∧
        Kd.S k24 24 W' w0.heap.size ok (.slice (some ⟨g, 0, none⟩) rows.length cap) (rows.set j ⟨(rd_T24 rows (j : Int)).f0, ys⟩) ∧ Below w0.heap.size w0 W' ∧ Kept W W' ok := by
  obtain ⟨oki, c, hcl, hM, hcc, hfr, hoki, hH⟩ := Kd.S_elem hS (rd_T24 rows (j : Int)) (j : Int) (by omega) (by omega)
  rw [Int.toNat_natCast] at hM hcc hfr
  have he : rows.getD j (rd_T24 rows (j : Int)) = rd_T24 rows (j : Int) := by rw [rdT_nat rows hj, List.getD_eq_getElem?_getD, List.getElem?_eq_getElem hj]; rfl
  rw [he] at hM
  obtain ⟨v, rfl, hR⟩ := k24_openM hM
  obtain ⟨W', hrun, hR', hK', hO', hBl⟩ := copy_words W w0.heap.size oki v _ ys A1 c1 hR hx hl
  refine ⟨v, W', hcc 1 _ rfl, hrun, ?_, hBl _ _ hB (Nat.le_refl _), ⟨hK'.1, fun k hk hn => hK'.2 k hk (fun h => hn (hoki k (hR.1 k h.symm)).1)⟩⟩
  have h2 := Kd.H_back (Kd.H_kept hH hK' (fun k _ h he => h (hR.1 k he.symm))) (k24_mkM W' w0.heap.size oki ⟨(rd_T24 rows (j : Int)).f0, ys⟩ hR') (fun _ h => h)
  rwa [Int.toNat_natCast] at h2
end Go.Proofs.YtjmkhdhffmlhiaaDoor.PAll
end
section
namespace Go.Proofs.YtjmkhdhffmlhiaaDoor.PAll
set_option linter.unusedVariables false
set_option linter.unusedSimpArgs false
open Go.RowKit Go.Shelf Go.Proofs.YtjmkhdhffmlhiaaDoorW.PrintWords Go.Proofs.YtjmkhdhffmlhiaaDoorW.PrintLast Go.Proofs.YtjmkhdhffmlhiaaDoorW.PrintMore
attribute [local go_sem] Oper.semAt_some
def makeS (j : Nat) (rows : List S24) (s : S24) : List S24 := rows.set j ⟨(rd_T24 rows (j : Int)).f0, s.f1⟩
def makeA : Nat → List S24 → List S24 → List S24
  | _, [], rows => rows
  | j, s :: l, rows => makeA (j + 1) l (makeS j rows s)
theorem Rok.make {n m j : Nat} {rows : List S24} (h : Rok n m rows) {s : S24} (hs : s.f1.length = (m + 63) / 64) : Rok n m (makeS j rows s) := by
  refine ⟨by unfold makeS; rw [List.length_set, h.1], fun r hr => ?_⟩
  unfold makeS at hr
  rcases List.mem_or_eq_of_mem_set hr with hr | rfl
  · exact h.2 r hr
  · exact hs
set_option maxHeartbeats 8000000 in
set_option maxRecDepth 100000 in
theorem MakeTable_yes (k n : Nat) (A0 : Option Addr) (c0 : Nat) (l0 rows : List S24) (w : World) (hr0 : Kd.C k24 w A0 l0.length l0) (hc0 : l0.length ≤ c0) (hT : TabP (n : Int) l0)
    (hM : bitset_fit.f k (n : Int) l0 = some 0) (hBl : bitset_blanks.f k (n : Int) (l0.length : Int) = some ((n : Int), rows)) (hRk : Rok l0.length n rows) :
    Calls Tryd.prog 48 #[.int .i64 n, .slice A0 l0.length c0] w fun e w' => ∃ v : Value, e = .returned (.tuple #[.agg #[.int .i64 (n : Int), v], .int .i64 0]) ∧ Kd.S k24 24 w' w.heap.size (fun _ => True) v (makeA 0 l0 rows) ∧ Below w.heap.size w w' := by
  have hu24 := Tryd.underlying24
  have hu56 := Tryd.underlying56
  have HC := Aside0.mk hr0
  have HM := Aside0.mk hM
  have HBl := Aside0.mk hBl
  clear hr0 hM hBl
  have hl4 : l0.length ≤ 4096 := hT.2.2.1
  have hn4 : n ≤ 4096 := by have := hT.2.1; omega
  obtain ⟨o2, ho2⟩ : ∃ o2 : Obj, o2 = .cells #[.int .i64 0, .slice none 0 0] 56 (0, 0) := ⟨_, rfl⟩
  have K1 : (w.alloc o2).heap[w.heap.size]? = some o2 := blk_new w o2
  have HB0 : Below w.heap.size w (w.alloc o2) := below_alloc (Below.refl _ _) _
  have hs3 : w.heap.size + 1 ≤ (w.alloc o2).heap.size := by rw [World.size_alloc]; omega
  rw [ho2] at K1 HB0 hs3
  clear ho2 o2
  have KD := Aside0.mk K1
  have HB := Aside0.mk HB0
  have HS3 := Aside0.mk hs3
  clear K1 HB0 hs3
  refine (callsIn_wide (n := 6)).1 ?_
  refine callsIn_of_wp Tryd.func48 rfl trivial ?_ rfl
  simp only [Tryd.ntmps48, List.size_toArray, List.length_cons, List.length_nil, Nat.reduceAdd, Nat.reduceSub, Array.replicate_succ, Array.replicate_zero, List.push_toArray, List.append_toArray, List.nil_append, List.cons_append]
  gi_wp2_with fail
  refine ⟨trivial, ?_⟩; gi_at_call 90
  refine (callsIn_wide.2 (bitset_fit.calls k n _ _ l0 0 _ (Kd.C_alloc HC.out _) hc0 HM.out)).mono ?_
  rintro e w1 ⟨rfl, hb⟩
  have n2_ := Aside0.mk (blk_below KD.out hb); have n3_ := Aside0.mk (below_step HB.out hb); have n4_ := Aside0.mk (Nat.le_trans HS3.out (below_size hb))
  clear KD HB hb HS3
  have KD := n2_; have HB := n3_; have HS3 := n4_
  clear n2_ n3_ n4_
  have hgt : ¬ ((4096 : Int) < (l0.length : Int)) := by omega
  gi_wp2_with fail
  refine ⟨trivial, ?_⟩; gi_at_call 86
  refine (callsIn_wide.2 (bitset_blanks.calls k n l0.length n rows _ HBl.out)).mono ?_
  rintro e w2 ⟨vt, rfl, ho, hb⟩
  obtain ⟨At, ct, et⟩ := Kd.S_slice ho
  subst et
  have n2_ := Aside0.mk (blk_below KD.out hb); have n3_ := Aside0.mk (below_step HB.out hb)
  have HT := Aside0.mk (Kd.S_lower (Kd.S_mono (Kd.S_bound ho) (fun k_ hk_ => show w1.heap.size ≤ k_ ∧ k_ < w2.heap.size from ⟨hk_.2.1, hk_.2.2.1⟩)) (below_size HB.out))
  have HS2 := Aside0.mk (below_size hb)
  clear KD HB hb ho
  have KD := n2_; have HB := n3_
  clear n2_ n3_
  gi_wp2_with fail
  refine wpIn_loop (fun a W => ∃ (j : Nat) (rk : List S24) (u8 u9 u28 u29 u30 u31 u32 u33 u34 u35 u36 u37 u38 u39 u40 u41 : Value), a = { tmps := #[.int .i64 n, .slice A0 l0.length c0, undef, undef, .pointer (some ⟨w.heap.size, 0, none⟩), .int .i64 0, .int .i64 0, .pointer (some ⟨w2.heap.size, 0, none⟩), u8, u9, .int .i64 n, .slice A0 l0.length c0, .int .i64 0, .int .i64 0, .bool false, undef, undef, .slice A0 l0.length c0, .int .i64 l0.length, .bool (decide ((4096 : Int) < (l0.length : Int))), undef, .int .i64 n, .slice A0 l0.length c0, .int .i64 l0.length, .agg #[.int .i64 n, .slice At rows.length ct], .slice A0 l0.length c0, .int .i64 l0.length, .int .i64 j, u28, u29, u30, u31, u32, u33, u34, u35, u36, u37, u38, u39, u40, u41, undef], defers := [] } ∧ Aside0 (j ≤ l0.length) ∧ Aside0 (makeA j (l0.drop j) rk = makeA 0 l0 rows) ∧ Aside0 (Rok l0.length n rk) ∧
      Aside0 (W.heap[w.heap.size]? = some (.cells #[.int .i64 0, .slice none 0 0] 56 (0, 0))) ∧ Aside0 (W.heap[w2.heap.size]? = some (.cells #[.int .i64 n, .slice At rows.length ct] 56 (0, 0))) ∧
      Aside0 (Kd.S k24 24 W w.heap.size (fun k_ => w1.heap.size ≤ k_ ∧ k_ < w2.heap.size) (.slice At rows.length ct) rk) ∧ Aside0 (Below w.heap.size w W))
    (fun a _ => l0.length - (intOf (a.tmps.getD 27 undef)).toNat) ?start ?round
  case start =>
    exact ⟨0, rows, undef, undef, undef, undef, undef, undef, undef, undef, undef, undef, undef, undef, undef, undef, undef, undef, rfl, ⟨Nat.zero_le _⟩, ⟨rfl⟩, ⟨hRk⟩, ⟨blk_alloc KD.out _⟩, ⟨blk_new _ _⟩, ⟨Kd.S_alloc HT.out _⟩, ⟨below_alloc HB.out _⟩⟩
  case round =>
    clear KD HB HT
    rintro a wr ⟨j, rk, u8, u9, u28, u29, u30, u31, u32, u33, u34, u35, u36, u37, u38, u39, u40, u41, rfl, hj, hA, hRj, KD, KU, HT, HB⟩
    by_cases hlt : j < l0.length
    · obtain ⟨ad, A1, c1, eA, q0w, q1w, hlc, hC1⟩ := at_T24 HC.out (j : Int) (by omega) (by omega)
      subst eA
      simp only [Int.toNat_natCast] at q0w q1w
      obtain ⟨s, hs⟩ : ∃ s, rd_T24 l0 (j : Int) = s := ⟨_, rfl⟩
      have hsl : s = l0[j] := by rw [← hs, rdT_nat l0 hlt]
      rw [hs] at q0w q1w hlc hC1
      have hsm : MayP (n : Int) s.f1 ∧ s.f0 = (n : Int) := by
        have := hT.2.2.2 _ (List.getElem_mem hlt)
        rw [← hsl] at this
        refine ⟨?_, this.2⟩
        have h2 := this.1; unfold MayS at h2; rwa [this.2] at h2
      obtain ⟨s0, ws⟩ := s
      obtain rfl : s0 = (n : Int) := hsm.2
      simp only at q0w q1w hlc hC1 hsm
      have q0 := (HB.out.cell (World.block_lt_of_cell? w _ q0w)).trans q0w
      have q1 := (HB.out.cell (World.block_lt_of_cell? w _ q1w)).trans q1w
      have hd : decide (j < l0.length) = true := decide_eq_true hlt
      have HC1 := Aside0.mk hC1
      clear hC1 q0w q1w
      gi_wp2_with fail
      have hUr := blk_lt KU.out
      have hw12 : w.heap.size + 1 ≤ w1.heap.size := HS3.out
      have hwl : ws.length = (n + 63) / 64 := by simpa using hsm.1.2.2.1
      have KD4 := Aside0.mk (blk_drew (blk_alloc KD.out (.cells #[.int .i64 n, .slice A1 ws.length c1] 24 (0, 0))))
      have KU4 := Aside0.mk (blk_drew (blk_alloc KU.out (.cells #[.int .i64 n, .slice A1 ws.length c1] 24 (0, 0))))
      have KS4 := Aside0.mk (blk_drew (blk_new wr (.cells #[.int .i64 n, .slice A1 ws.length c1] 24 (0, 0))))
      have HT4 := Aside0.mk (Kd.S_drew (Kd.S_alloc HT.out (.cells #[.int .i64 n, .slice A1 ws.length c1] 24 (0, 0))))
      have HB4 := Aside0.mk (below_drew1 (below_alloc HB.out (.cells #[.int .i64 n, .slice A1 ws.length c1] 24 (0, 0))))
      have hjl : j < rk.length := by rw [hRj.out.1]; exact hlt
      obtain ⟨g, cap, ev, hgb, hgl, cells, hcells⟩ := Kd.S_form HT.out (by omega)
      injection ev with e1 e2 e3
      subst e1 e3
      have hT4 := HT4.out
      rw [e2] at hT4
      obtain ⟨v, W9, z1, hrun, hS9, hB9, hK9⟩ := copy_row rk j w _ _ g ct HB4.out hT4 hjl ws A1 c1 (Kd.C_below HC1.out HB4.out) (by rw [rdT_nat rk hjl, hRj.out.2 _ (List.getElem_mem hjl)]; exact hwl)
      have u1 := (blk_cell KU4.out 1).trans rfl
      rw [e2] at u1
      simp only [List.getElem?_toArray, List.getElem?_cons_zero, List.getElem?_cons_succ] at u1
      have hmx : Tryd.prog.follows .mixedOrders = true := by kernel_rfl
      have HE2 := Aside0.mk e2
      have HWL := Aside0.mk hwl
      have HRUN := Aside0.mk hrun
      clear e2 hwl hrun
      refine wpIn_wide.2 ?_
      refine start_ (n := 9) (S := fun w' => w'.cell? ⟨w2.heap.size, 1, none⟩ = some (.slice (some ⟨g, 0, none⟩) rk.length ct) ∧ w'.cell? ⟨wr.heap.size, 1, none⟩ = some (.slice A1 ws.length c1) ∧ w'.cell? ⟨g, j * 2 + 1, none⟩ = some v) (ds := [8]) #[false, false, false, false, false, false, false, false, false] hmx (by kernel_rfl) rfl ⟨u1, (blk_cell KS4.out 1).trans rfl, z1⟩ (fun hHeld => ?_)
      clear u1 z1
      generalize World.drew (wr.alloc (.cells #[.int .i64 n, .slice A1 ws.length c1] 24 (0, 0))) = W4 at KD4 KU4 KS4 HT4 HB4 hT4 hHeld HRUN hK9 ⊢
      refine pure_ (i := 0) (N := some 32) (v := ?_) (a' := ?_) #[true, false, false, false, false, false, false, false, false] rfl rfl (by kernel_rfl) (fun _ _ _ h => h) (Or.inl ⟨by rfl, ?_⟩) ?_ ?_
      rotate_left
      · intro w'
        go_simp
        with_reducible rfl
      rotate_left
      · simp only [Act.put, List.setIfInBounds_toArray, List.set_cons_zero, List.set_cons_succ, i64_w, i32_w]
        rfl
      refine pure_ (i := 2) (N := some 34) (v := ?_) (a' := ?_) #[true, false, true, false, false, false, false, false, false] rfl rfl (by kernel_rfl) (fun _ _ _ h => h) (Or.inl ⟨by rfl, ?_⟩) ?_ ?_
      rotate_left
      · intro w'
        go_simp
        with_reducible rfl
      rotate_left
      · simp only [Act.put, List.setIfInBounds_toArray, List.set_cons_zero, List.set_cons_succ, i64_w, i32_w]
        rfl
      refine pure_ (i := 6) (N := some 38) (v := ?_) (a' := ?_) #[true, false, true, false, false, false, true, false, false] rfl rfl (by kernel_rfl) (fun _ _ _ h => h) (Or.inl ⟨by rfl, ?_⟩) ?_ ?_
      rotate_left
      · intro w'
        go_simp
        with_reducible rfl
      rotate_left
      · simp only [Act.put, List.setIfInBounds_toArray, List.set_cons_zero, List.set_cons_succ, i64_w, i32_w]
        rfl
      refine take_ (i := 1) (N := some 33) (v := ?_) (a' := ?_) #[true, true, true, false, false, false, true, false, false] rfl rfl (by kernel_rfl) (fun _ _ _ h => h) (Or.inl ⟨by rfl, ?_⟩) hHeld ?_ ?_
      rotate_left
      · rintro w' ⟨s0, s1, s2⟩
        go_simp
        with_reducible rfl
      rotate_left
      · simp only [Act.put, List.setIfInBounds_toArray, List.set_cons_zero, List.set_cons_succ, i64_w, i32_w]
        rfl
      refine take_ (i := 7) (N := some 39) (v := ?_) (a' := ?_) #[true, true, true, false, false, false, true, true, false] rfl rfl (by kernel_rfl) (fun _ _ _ h => h) (Or.inl ⟨by rfl, ?_⟩) hHeld ?_ ?_
      rotate_left
      · rintro w' ⟨s0, s1, s2⟩
        go_simp
        with_reducible rfl
      rotate_left
      · simp only [Act.put, List.setIfInBounds_toArray, List.set_cons_zero, List.set_cons_succ, i64_w, i32_w]
        rfl
      refine pure_ (i := 3) (N := some 35) (v := ?_) (a' := ?_) #[true, true, true, true, false, false, true, true, false] rfl rfl (by kernel_rfl) (fun _ _ _ h => h) (Or.inl ⟨by rfl, ?_⟩) ?_ ?_
      rotate_left
      · intro w'
        go_simp
        with_reducible rfl
      rotate_left
      · simp only [Act.put, List.setIfInBounds_toArray, List.set_cons_zero, List.set_cons_succ, i64_w, i32_w]
        rfl
      refine pure_ (i := 4) (N := some 36) (v := ?_) (a' := ?_) #[true, true, true, true, true, false, true, true, false] rfl rfl (by kernel_rfl) (fun _ _ _ h => h) (Or.inl ⟨by rfl, ?_⟩) ?_ ?_
      rotate_left
      · intro w'
        go_simp
        with_reducible rfl
      rotate_left
      · simp only [Act.put, List.setIfInBounds_toArray, List.set_cons_zero, List.set_cons_succ, i64_w, i32_w]
        rfl
      refine take_ (i := 5) (N := some 37) (v := ?_) (a' := ?_) #[true, true, true, true, true, true, true, true, false] rfl rfl (by kernel_rfl) (fun _ _ _ h => h) (Or.inl ⟨by rfl, ?_⟩) hHeld ?_ ?_
      rotate_left
      · rintro w' ⟨s0, s1, s2⟩
        go_simp
        with_reducible rfl
      rotate_left
      · simp only [Act.put, List.setIfInBounds_toArray, List.set_cons_zero, List.set_cons_succ, i64_w, i32_w]
        rfl
      refine last_ (i := 8) (N := some 40) #[true, true, true, true, true, true, true, true, true] rfl rfl (by kernel_rfl) (by decide) (fun K hK => ?_)
      have hrun := HRUN.out
      refine value_ (v := .int .i64 (ws.length : Int)) (w1 := W9) (by rfl) rfl ?_ ?_
      · go_simp
      clear hrun
      refine hK.out _ _ ?_
      clear hK K
      refine done_ (by kernel_rfl) ?_
      have KD6 := Aside0.mk ((hK9.2 _ (blk_lt KD4.out) (fun h => by omega)).trans KD4.out)
      have KU6 := Aside0.mk ((hK9.2 _ (blk_lt KU4.out) (fun h => by omega)).trans KU4.out)
      gi_wp2_with fail
      rw [show ((j : Int) + 1) = ((j + 1 : Nat) : Int) from by omega]
      refine ⟨⟨j + 1, makeS j rk ⟨(n : Int), ws⟩, _, _, _, _, _, _, _, _, _, _, _, _, _, _, _, _, rfl, ⟨hlt⟩, ⟨?_⟩, ⟨hRj.out.make HWL.out⟩, KD6, KU6, ⟨?_⟩, ⟨hB9⟩⟩, ?_⟩
      · have := hA.out
        rw [List.drop_eq_getElem_cons hlt, ← hsl] at this
        exact this
      · rw [HE2.out]
        exact hS9
      · show l0.length - (intOf (.int .i64 ((j + 1 : Nat) : Int))).toNat < l0.length - (intOf (.int .i64 (j : Int))).toNat
        simp only [intOf, Int.toNat_natCast]
        omega
    · have hje : j = l0.length := by have := hj.out; omega
      subst hje
      have hd : decide (l0.length < l0.length) = false := by simp
      have q0 := (blk_cell KU.out 0).trans rfl
      have q1 := (blk_cell KU.out 1).trans rfl
      have q2 := (blk_cell KD.out 0).trans rfl
      have q3 := (blk_cell KD.out 1).trans rfl
      have z0 := blk_frozen KD.out 0
      have z1 := blk_frozen KD.out 1
      gi_wp2_with fail
      have hw12 : w.heap.size + 1 ≤ w1.heap.size := HS3.out
      obtain ⟨X, hX⟩ : ∃ X, (wr.setCell ⟨w.heap.size, 0, none⟩ (Value.int IntKind.i64 n)).setCell ⟨w.heap.size, 1, none⟩ (Value.slice At rows.length ct) = X := ⟨_, rfl⟩
      have hKX : Kept wr X (fun k_ => k_ = w.heap.size) := by
        refine ⟨by rw [← hX, World.size_setCell, World.size_setCell]; exact Nat.le_refl _, fun k_ hk_ hn_ => ?_⟩
        rw [← hX, Below.heap_setCell _ _ _ _ hn_, Below.heap_setCell _ _ _ _ hn_]
      have hXg : X.heap[w.heap.size]? = some (.cells #[.int .i64 n, .slice At rows.length ct] 56 (0, 0)) := hX ▸ blk_put (blk_put KD.out 0 (Value.int IntKind.i64 n) rfl) 1 (Value.slice At rows.length ct) rfl
      have hXB := wb (g := w.heap.size) hX.symm HB.out (Nat.le_refl _)
      have hXS := Kd.S_kept HT.out hKX (fun k_ hk_ e => by omega)
      try rw [hX]
      have c0 := (blk_cell hXg 0).trans rfl
      have c1 := (blk_cell hXg 1).trans rfl
      refine bodyPost_ret (v := .tuple #[.agg #[.int .i64 n, .slice At rows.length ct], .int .i64 0]) ?_ rfl ⟨_, rfl, ?_, hXB⟩
      · simp [results, Tryd.f48, go_sem, c0, c1]
      · have hA2 : rk = makeA 0 l0 rows := by
          have := hA.out
          rw [List.drop_length] at this
          exact this
        rw [← hA2]
        exact Kd.S_mono hXS (fun _ _ => trivial)
end Go.Proofs.YtjmkhdhffmlhiaaDoor.PAll
end
section
namespace Go.Proofs.YtjmkhdhffmlhiaaDoor.PAll
set_option linter.unusedVariables false
set_option linter.unusedSimpArgs false
open Go.RowKit Go.Proofs.YtjmkhdhffmlhiaaDoorW.PrintWords Go.Proofs.YtjmkhdhffmlhiaaDoorW.PrintLast Go.Proofs.YtjmkhdhffmlhiaaDoorW.PrintMore
theorem or_same {x : Int} (h : Wd x) : Go.bits .or .u64 x x = x := tb_ext (or_eq x x).2 h fun j _ => by rw [tb_or h h, Bool.or_self]
set_option maxHeartbeats 4000000 in
set_option maxRecDepth 100000 in
theorem fold_or_self (r1 : Int) (P0_1_ : Nat → Prop) (u9000_ : Value) (l0_1 : List Int) (g0 o0 : Nat) (w0 w : World) (hB : Below w0.heap.size w0 w) (ho0_1 : Kd.R (Kd.int .u64) 87 w w0.heap.size P0_1_ u9000_ l0_1) (hwd : Wds l0_1)
    (hel : ∀ W_, Kept w W_ (fun k_ => P0_1_ k_) → W_.cell? ⟨g0, o0, none⟩ = some (.int .i64 r1) ∧ W_.cell? ⟨g0, o0 + 1, none⟩ = some u9000_) :
    Calls Tryd.prog 88 #[.agg #[.int .i64 r1, u9000_], .slice (some ⟨g0, o0, none⟩) 1 1, .func (.func 89) #[] #[]] w fun e w' => e = .returned (.agg #[.int .i64 r1, u9000_]) ∧ Kd.R (Kd.int .u64) 87 w' w0.heap.size (fun k_ => (P0_1_ k_ ∨ w.heap.size ≤ k_)) u9000_ l0_1 ∧ Below w0.heap.size w0 w' ∧ Kept w w' (fun k_ => P0_1_ k_) := by
  have HEL := Aside0.mk hel
  have HWD := Aside0.mk hwd
  clear hel hwd
  have HB := Aside0.mk hB
  have HO := Aside0.mk ho0_1
  have hu26 := Tryd.underlying24
  clear hB ho0_1
  obtain ⟨Au, cu, hu⟩ := Kd.R_slice HO.out
  subst hu
  go_enter Tryd.func88, Tryd.ntmps88
  go_wp2_with fail
  go_loopg [13] 1 (fun gk v13 wr => ∃ (k : Nat), v13 = .int .i64 k ∧ Aside0 (k ≤ 1) ∧ Aside0 (gk + k = 1) ∧ Aside0 (Kd.R (Kd.int .u64) 87 wr w0.heap.size (fun k_ => (P0_1_ k_ ∨ w.heap.size ≤ k_)) (.slice Au l0_1.length cu) l0_1) ∧ Aside0 (Below w0.heap.size w0 wr) ∧ Aside0 (Kept w wr (fun k_ => P0_1_ k_)) ∧ Aside0 (wr.heap[w.heap.size]? = some (.cells #[.int .i64 r1, .slice Au l0_1.length cu] 24 (0, 0))) ∧ Aside0 (wr.heap[w.heap.size + 1]? = some (.cells #[.int .i64 0, .slice none 0 0] 24 (0, 0))))
  case atStart =>
    refine ⟨0, rfl, ⟨by omega⟩, ⟨by simp⟩, ⟨?_⟩, ⟨?_⟩, ⟨?_⟩, ⟨?_⟩, ⟨?_⟩⟩
    · exact Kd.R_mono (Kd.R_alloc (Kd.R_alloc HO.out _) _) (fun _ h => .inl h)
    · exact (HB.out.alloc HB.out.size _).alloc (by simp; exact Nat.le_succ_of_le HB.out.size) _
    · exact (((Kept.refl w _).alloc _).alloc _)
    · exact blk_alloc (blk_new w _) _
    · exact (by have := blk_new (w.alloc (.cells #[.int .i64 r1, .slice Au l0_1.length cu] 24)) (.cells #[.int .i64 0, .slice none 0 0] 24); simpa using this)
  case round =>
    obtain ⟨k, rfl, hk, hg, hO, hB, hK, b3, b6⟩ := hrel
    by_cases hlt : k < 1
    · obtain ⟨gk', rfl⟩ : ∃ m, gk = m + 1 := ⟨gk - 1, by have := hg.out; omega⟩
      obtain rfl : k = 0 := by omega
      obtain ⟨q0, q1⟩ := HEL.out wr hK.out
      have hm2 := (Kd.R_reads' hO.out).2.2.2.1
      have hd : decide (0 < 1) = true := by decide
      go_wp2_with fail
      obtain ⟨wo, rfl⟩ : ∃ wo : World, wo = wr := ⟨_, rfl⟩
      go_loopg [20] (l0_1.length) (fun gj v20 w2 => ∃ (i : Nat), v20 = .int .i64 i ∧ Aside0 (gj + i = l0_1.length) ∧ Aside0 (Kd.R (Kd.int .u64) 87 w2 w0.heap.size (fun k_ => (P0_1_ k_ ∨ w.heap.size ≤ k_)) (.slice Au l0_1.length cu) l0_1) ∧ Aside0 (Below w0.heap.size w0 w2) ∧ Aside0 (Kept w w2 (fun k_ => P0_1_ k_)) ∧ Aside0 (w2.heap[w.heap.size]? = some (.cells #[.int .i64 r1, .slice Au l0_1.length cu] 24 (0, 0))) ∧ Aside0 (w2.heap[w.heap.size + 1]? = some (.cells #[.int .i64 0, .slice none 0 0] 24 (0, 0))))
      case atStart => exact ⟨0, rfl, ⟨by simp⟩, ⟨Kd.R_alloc hO.out _⟩, ⟨hB.out.alloc hB.out.size _⟩, ⟨hK.out.alloc _⟩, ⟨blk_alloc b3.out _⟩, ⟨blk_alloc b6.out _⟩⟩
      case round =>
        obtain ⟨i, rfl, hg2, hO2, hB2, hK2, b32, b62⟩ := hrel
        by_cases hi : i < l0_1.length
        · obtain ⟨gj_, rfl⟩ : ∃ m, gk = m + 1 := ⟨gk - 1, by have := hg2.out; omega⟩
          obtain ⟨g, cap, eg, hgb, hgl, cells, hcells⟩ := Kd.R_form hO2.out (by omega)
          injection eg with eg1 eg2 eg3
          subst eg1
          obtain ⟨hc, hf⟩ := Kd.R_cell (0 : Int) hO2.out (i : Int) (by omega) (by omega)
          rw [Int.toNat_natCast] at hc hf
          have q0' := cell_of_row wr w.heap.size 1 _ _ _ b32.out
          simp only [List.getElem?_toArray, List.getElem?_cons_zero, List.getElem?_cons_succ] at q0'
          have hd2 : decide (i < l0_1.length) = true := decide_eq_true hi
          obtain ⟨vi, hvi⟩ : ∃ vi, rdOf (0 : Int) l0_1 (i : Int) = vi := ⟨_, rfl⟩
          rw [hvi] at hc
          have HVI := Aside0.mk hvi
          have HCELL := Aside0.mk hcells
          clear hvi eg2 eg3 q0 q1 hcells
          go_wp2_with fail
          go_still_tail 12, (by kernel_rfl)
          still_call (calls_or vi vi _)
          repeat still_step
          refine wpStill_nil ?_
          go_wp2
          have hne3 : (⟨g, i, none⟩ : Addr).block ≠ w.heap.size := fun e => by
            have h1 := b32.out
            have h2 : g = w.heap.size := e
            rw [← h2, HCELL.out] at h1
            cases h1
          have hne6 : (⟨g, i, none⟩ : Addr).block ≠ w.heap.size + 1 := fun e => by
            have h1 := b62.out
            have h2 : g = w.heap.size + 1 := e
            rw [← h2, HCELL.out] at h1
            cases h1
          have hput := (Kd.R_putn hO2.out (i : Int) (Go.bits .or .u64 vi vi))
          rw [Int.toNat_natCast] at hput
          go_roundg gj_
          case rel =>
            have hset : l0_1.set i (Go.bits .or .u64 vi vi) = l0_1 := by
              have h3 := HVI.out
              have h4 : l0_1[i] = vi := by rw [← h3]; simp [rdOf, List.getD_eq_getElem?_getD, List.getElem?_eq_getElem hi]
              rw [or_same (HWD.out vi (h4 ▸ List.getElem_mem hi)), ← h4]
              exact List.set_getElem_self hi
            rw [hset] at hput
            exact ⟨i + 1, by go_num, ⟨by have := hg2.out; omega⟩, ⟨Kd.R_drew hput⟩, ⟨below_drew (hB2.out.setCell hgb _)⟩, ⟨(hK2.out.setCell ((hO2.out.1 g rfl).imp id id) _).drew⟩, ⟨blk_drew (blk_far b32.out hne3.symm _)⟩, ⟨blk_drew (blk_far b62.out hne6.symm _)⟩⟩
          case measure => omega
        · have e := Lib.hid (show i = l0_1.length by have := hg2.out; omega)
          have hd2 : decide (i < l0_1.length) = false := decide_eq_false hi
          clear q0 q1
          go_wp2
          go_roundg gk'
          case rel => exact ⟨1, by go_num, ⟨by omega⟩, ⟨by have := hg.out; omega⟩, hO2, hB2, hK2, b32, b62⟩
          case measure => omega
    · obtain rfl : k = 1 := by have := hk.out; omega
      have hd : decide (1 < 1) = false := by decide
      have q0 := cell_of_row wr w.heap.size 0 _ _ _ b3.out
      have q1 := cell_of_row wr w.heap.size 1 _ _ _ b3.out
      have f0 := free_of_row b6.out 0
      have f1 := free_of_row b6.out 1
      have g0 := cell_of_row wr (w.heap.size + 1) 0 _ _ _ b6.out
      have g1 := cell_of_row wr (w.heap.size + 1) 1 _ _ _ b6.out
      simp only [List.getElem?_toArray, List.getElem?_cons_zero, List.getElem?_cons_succ] at q0 q1 g0 g1
      clear hlt
      go_wp2
      refine bodyPost_ret (results_cell_row rfl _ _ (w.heap.size + 1) 24 #[.int .i64 r1, .slice Au l0_1.length cu] (0, 0) _ rfl ?_ Tryd.underlying24 rfl (by kernel_rfl)) rfl ?_
      · refine blk_put (cs := #[.int .i64 r1, .slice none 0 0]) ?_ 1 _ rfl
        refine blk_put (cs := #[.int .i64 0, .slice none 0 0]) ?_ 0 _ rfl
        exact b6.out
      · skip
        refine ⟨rfl, ?_, ?_, ?_⟩
        · exact Kd.R_mono (Kd.R_far (p := ⟨w.heap.size + 1, 1, none⟩) (Kd.R_far (p := ⟨w.heap.size + 1, 0, none⟩) (Kd.R_types hO.out b6.out (by decide)) (fun _ hk => hk.2) _) (fun _ hk => hk.2) _) (fun _ hk => hk.1)
        · exact (hB.out.setCell (by simp; exact Nat.le_succ_of_le HB.out.size) _).setCell (by simp; exact Nat.le_succ_of_le HB.out.size) _
        · exact (hK.out.setCell (.inr (by simp)) _).setCell (.inr (by simp)) _
end Go.Proofs.YtjmkhdhffmlhiaaDoor.PAll
end
section
namespace Go.Proofs.YtjmkhdhffmlhiaaDoor.PAll
set_option linter.unusedVariables false
set_option linter.unusedSimpArgs false
open Go.RowKit Go.Shelf Go.Proofs.YtjmkhdhffmlhiaaDoorW.PrintWords Go.Proofs.YtjmkhdhffmlhiaaDoorW.PrintLast Go.Proofs.YtjmkhdhffmlhiaaDoorW.PrintMore
attribute [local go_sem] Oper.semAt_some
theorem Rok.both {n m j : Nat} {rows : List S24} (h : Rok n m rows) (hj : j < n) {s : S24} (hs : s.f1.length = (m + 63) / 64) : Rok n m (bothS j rows s) := by
  have hjl : j < rows.length := by rw [h.1]; exact hj
  refine ⟨by unfold bothS; rw [List.length_set, h.1], fun r hr => ?_⟩
  unfold bothS at hr
  rcases List.mem_or_eq_of_mem_set hr with hr | rfl
  · exact h.2 r hr
  · rw [rdT_nat rows hjl]
    have a1 := h.2 _ (List.getElem_mem hjl)
    simp only
    rw [orw_length (by omega)]
    exact a1
end Go.Proofs.YtjmkhdhffmlhiaaDoor.PAll
end
section
namespace Go.Proofs.YtjmkhdhffmlhiaaDoor.PAll
set_option linter.unusedVariables false
set_option linter.unusedSimpArgs false
open Go.RowKit Go.Proofs.YtjmkhdhffmlhiaaDoorW.PrintWords Go.Proofs.YtjmkhdhffmlhiaaDoorW.PrintLast Go.Proofs.YtjmkhdhffmlhiaaDoorW.PrintMore
theorem row_tag {W : World} {base : Nat} {ok : Nat → Prop} {g n cap : Nat} {rows : List S24} (hS : Kd.S k24 24 W base ok (.slice (some ⟨g, 0, none⟩) n cap) rows) :
    ∃ f : Nat → Nat, ∀ j, ∀ hj : j < rows.length, ∃ v, W.cell? ⟨g, j * 2, none⟩ = some (.int .i64 rows[j].f0) ∧ W.cell? ⟨g, j * 2 + 1, none⟩ = some v ∧ Kd.R (Kd.int .u64) 87 W base (fun k => k ≠ g ∧ f k = j) v rows[j].f1 := by
  obtain ⟨f, hok0, inner, ho, hr⟩ := hS
  have hgo : (Value.slice (some ⟨g, 0, none⟩) n cap).ownBlock = some g := by simp [Value.ownBlock]
  refine ⟨f, fun j hj => ?_⟩
  have hM := hr.2 j _ (Kd.zip_at (List.getElem?_eq_getElem hj))
  have hM2 : k24.M W base (fun k => k ≠ g ∧ f k = j) rows[j] ((inner.drop (j * k24.sz)).take k24.sz) := k24.M_mono (fun k hk => ⟨fun e => hk.1.2 (by rw [e, hgo]), hk.2⟩) hM
  obtain ⟨v, hv, hRv⟩ := k24_openM hM2
  have hsz : k24.sz = 2 := rfl
  rw [hsz] at hv
  have hget : ∀ (i : Nat) (u : Value), [Value.int .i64 rows[j].f0, v][i]? = some u → W.cell? ⟨g, j * 2 + i, none⟩ = some u := by
    intro i u hu
    rw [← hv, List.getElem?_take] at hu
    split at hu
    · rw [List.getElem?_drop] at hu
      have := ho.cells (g := g) hgo _ u hu
      rwa [add_plain] at this
    · cases hu
  exact ⟨v, hget 0 _ rfl, hget 1 _ rfl, hRv⟩
theorem fold_rowV (rows : List S24) (j : Nat) (w0 W : World) (ok : Nat → Prop) (g cap : Nat) (hB : Below w0.heap.size w0 W) (hS : Kd.S k24 24 W w0.heap.size ok (.slice (some ⟨g, 0, none⟩) rows.length cap) rows) (hj : j < rows.length) (x : S24) (A1 : Option Addr) (c1 : Nat) (hc1 : 1 ≤ c1)
    (hx : ∀ v, W.cell? ⟨g, j * 2 + 1, none⟩ = some v → ∀ W_, Kept W W_ (fun k => some k = v.ownBlock) → Kd.C k24 W_ A1 1 [x]) (hl : x.f1.length ≤ (rd_T24 rows (j : Int)).f1.length) :
    ∃ v, W.cell? ⟨g, j * 2, none⟩ = some (.int .i64 (rd_T24 rows (j : Int)).f0) ∧ W.cell? ⟨g, j * 2 + 1, none⟩ = some v ∧
      Calls Tryd.prog 88 #[.agg #[.int .i64 (rd_T24 rows (j : Int)).f0, v], .slice A1 1 c1, .func (.func 89) #[] #[]] W fun e w' => e = .returned (.agg #[.int .i64 (rd_T24 rows (j : Int)).f0, v]) ∧
        Kd.S k24 24 w' w0.heap.size ok (.slice (some ⟨g, 0, none⟩) rows.length cap) (bothS j rows x) ∧ Below w0.heap.size w0 w' ∧ Kept W w' ok := by
  obtain ⟨oki, c, hcl, hM, hcc, hfr, hoki, hH⟩ := Kd.S_elem hS (rd_T24 rows (j : Int)) (j : Int) (by omega) (by omega)
  rw [Int.toNat_natCast] at hM hcc hfr
  have he : rows.getD j (rd_T24 rows (j : Int)) = rd_T24 rows (j : Int) := by rw [rdT_nat rows hj, List.getD_eq_getElem?_getD, List.getElem?_eq_getElem hj]; rfl
  rw [he] at hM
  obtain ⟨v, rfl, hR⟩ := k24_openM hM
  refine ⟨v, hcc 0 _ rfl, hcc 1 _ rfl, (bitset_fold_or.puts _ (fun k => some k = v.ownBlock) v _ A1 c1 [x] () (rd_T24 rows (j : Int)).f0 (orw (rd_T24 rows (j : Int)).f1 x.f1) w0 W hB (Kd.R_tight rfl hR) (hx v (hcc 1 _ rfl)) hc1 (by unfold bitset_fold_or.f; simp [folds, orw_eq hl])).mono ?_⟩
  rintro e w' ⟨rfl, hR', hB', hK'⟩
  have hR2 : Kd.R (Kd.int .u64) 87 w' w0.heap.size oki v (orw (rd_T24 rows (j : Int)).f1 x.f1) := Kd.R_mono (Kd.R_tight rfl hR') (fun k hk => hR.1 k hk.symm)
  refine ⟨rfl, ?_, hB', ⟨hK'.1, fun k hk hn => hK'.2 k hk (fun h => hn (hoki k (hR.1 k h.symm)).1)⟩⟩
  have h2 := Kd.H_back (Kd.H_kept hH hK' (fun k _ h he => h (hR.1 k he.symm))) (k24_mkM w' w0.heap.size oki ⟨(rd_T24 rows (j : Int)).f0, orw (rd_T24 rows (j : Int)).f1 x.f1⟩ hR2) (fun _ h => h)
  rwa [Int.toNat_natCast] at h2
theorem fold_own (rows : List S24) (j k : Nat) (w0 W : World) (ok : Nat → Prop) (g cap : Nat) (hB : Below w0.heap.size w0 W) (hS : Kd.S k24 24 W w0.heap.size ok (.slice (some ⟨g, 0, none⟩) rows.length cap) rows) (hj : j < rows.length) (hk : k < rows.length) (hjk : j ≠ k) (hl : rows[k].f1.length ≤ (rd_T24 rows (j : Int)).f1.length) :
    ∃ v, W.cell? ⟨g, j * 2, none⟩ = some (.int .i64 (rd_T24 rows (j : Int)).f0) ∧ W.cell? ⟨g, j * 2 + 1, none⟩ = some v ∧
      Calls Tryd.prog 88 #[.agg #[.int .i64 (rd_T24 rows (j : Int)).f0, v], .slice (some ⟨g, k * 2, none⟩) 1 1, .func (.func 89) #[] #[]] W fun e w' => e = .returned (.agg #[.int .i64 (rd_T24 rows (j : Int)).f0, v]) ∧
        Kd.S k24 24 w' w0.heap.size ok (.slice (some ⟨g, 0, none⟩) rows.length cap) (bothS j rows rows[k]) ∧ Below w0.heap.size w0 w' ∧ Kept W w' ok := by
  obtain ⟨f, hf⟩ := row_tag hS
  obtain ⟨vk, c0, c1, hRk⟩ := hf k hk
  obtain ⟨vj, _, d1, hRj⟩ := hf j hj
  refine fold_rowV rows j w0 W ok g cap hB hS hj rows[k] _ 1 (Nat.le_refl _) (fun v hv W_ hK => ?_) hl
  obtain rfl : v = vj := by rw [hv] at d1; injection d1
  have hne : ∀ b, some b = v.ownBlock → b ≠ g ∧ f b = j := fun b hb => hRj.1 b hb.symm
  have hRk' := Kd.R_kept hRk hK (fun b hb hP => hjk (by rw [← (hne b hP).2]; exact hb.2))
  obtain ⟨A, c, rfl⟩ := Kd.R_slice hRk
  obtain ⟨_, hle, hC⟩ := Kd.R_reads' hRk'
  refine ⟨rfl, by decide, fun _ => ⟨_, rfl, fun i p hp => ?_⟩⟩
  cases i with
  | succ i => simp at hp
  | zero =>
    simp only [List.getElem?_cons_zero, Option.some.injEq] at hp
    subst hp
    refine ⟨_, rfl, k24_mk W_ rows[k] hle hC, fun i u hu => ?_⟩
    have hg : ∀ o, (⟨g, o, none⟩ : Addr).block = g := fun _ => rfl
    have hng : ¬ (fun b => some b = v.ownBlock) g := fun h => (hne g h).1 rfl
    have ha : (⟨g, k * 2, none⟩ : Addr).add (0 * k24.sz + i) = ⟨g, k * 2 + i, none⟩ := by rw [Nat.zero_mul, Nat.zero_add]; unfold Addr.add; split <;> simp_all
    rw [ha]
    cases i with
    | zero =>
      simp only [List.getElem?_cons_zero, Option.some.injEq] at hu
      subst hu
      exact Go.Proofs.YtjmkhdhffmlhiaaDoorW.PrintWords.cell_kept (by simpa using c0) hK hng
    | succ i =>
      cases i with
      | zero =>
        simp only [List.getElem?_cons_succ, List.getElem?_cons_zero, Option.some.injEq] at hu
        subst hu
        exact Go.Proofs.YtjmkhdhffmlhiaaDoorW.PrintWords.cell_kept (by simpa using c1) hK hng
      | succ i => simp at hu
theorem fold_same (rows : List S24) (j : Nat) (w0 W : World) (ok : Nat → Prop) (g cap : Nat) (hB : Below w0.heap.size w0 W) (hS : Kd.S k24 24 W w0.heap.size ok (.slice (some ⟨g, 0, none⟩) rows.length cap) rows) (hj : j < rows.length) (hw : Wds (rd_T24 rows (j : Int)).f1) :
    ∃ v, W.cell? ⟨g, j * 2, none⟩ = some (.int .i64 (rd_T24 rows (j : Int)).f0) ∧ W.cell? ⟨g, j * 2 + 1, none⟩ = some v ∧
      Calls Tryd.prog 88 #[.agg #[.int .i64 (rd_T24 rows (j : Int)).f0, v], .slice (some ⟨g, j * 2, none⟩) 1 1, .func (.func 89) #[] #[]] W fun e w' => e = .returned (.agg #[.int .i64 (rd_T24 rows (j : Int)).f0, v]) ∧
        Kd.S k24 24 w' w0.heap.size ok (.slice (some ⟨g, 0, none⟩) rows.length cap) rows ∧ Below w0.heap.size w0 w' ∧ Kept W w' ok := by
  obtain ⟨oki, c, hcl, hM, hcc, hfr, hoki, hH⟩ := Kd.S_elem hS (rd_T24 rows (j : Int)) (j : Int) (by omega) (by omega)
  rw [Int.toNat_natCast] at hM hcc hfr
  have he : rows.getD j (rd_T24 rows (j : Int)) = rd_T24 rows (j : Int) := by rw [rdT_nat rows hj, List.getD_eq_getElem?_getD, List.getElem?_eq_getElem hj]; rfl
  rw [he] at hM
  obtain ⟨v, rfl, hR⟩ := k24_openM hM
  have hng : ¬ (fun b => some b = v.ownBlock) g := fun h => (hoki g (hR.1 g h.symm)).2 rfl
  refine ⟨v, hcc 0 _ rfl, hcc 1 _ rfl, (fold_or_self _ (fun k => some k = v.ownBlock) v _ g (j * 2) w0 W hB (Kd.R_tight rfl hR) hw (fun W_ hK => ⟨Go.Proofs.YtjmkhdhffmlhiaaDoorW.PrintWords.cell_kept (hcc 0 _ rfl) hK hng, Go.Proofs.YtjmkhdhffmlhiaaDoorW.PrintWords.cell_kept (hcc 1 _ rfl) hK hng⟩)).mono ?_⟩
  rintro e w' ⟨rfl, hR', hB', hK'⟩
  have hR2 : Kd.R (Kd.int .u64) 87 w' w0.heap.size oki v (rd_T24 rows (j : Int)).f1 := Kd.R_mono (Kd.R_tight rfl hR') (fun k hk => hR.1 k hk.symm)
  refine ⟨rfl, ?_, hB', ⟨hK'.1, fun k hk hn => hK'.2 k hk (fun h => hn (hoki k (hR.1 k h.symm)).1)⟩⟩
  have h2 := Kd.H_back (Kd.H_kept hH hK' (fun k _ h he => h (hR.1 k he.symm))) (k24_mkM w' w0.heap.size oki (rd_T24 rows (j : Int)) hR2) (fun _ h => h)
  rw [Int.toNat_natCast, rdT_nat rows hj, List.set_getElem_self hj] at h2
  exact h2
end Go.Proofs.YtjmkhdhffmlhiaaDoor.PAll
end
section
namespace Go.Proofs.YtjmkhdhffmlhiaaDoor.PAll
set_option linter.unusedVariables false
set_option linter.unusedSimpArgs false
open Go.RowKit Go.Shelf Go.Proofs.YtjmkhdhffmlhiaaDoorW.PrintWords Go.Proofs.YtjmkhdhffmlhiaaDoorW.PrintLast Go.Proofs.YtjmkhdhffmlhiaaDoorW.PrintMore
attribute [local go_sem] Oper.semAt_some
set_option maxHeartbeats 8000000 in
set_option maxRecDepth 100000 in
theorem MakeTable_no (k : Nat) (n r : Int) (A0 : Option Addr) (c0 : Nat) (l0 : List S24) (w : World) (hr0 : Kd.C k24 w A0 l0.length l0) (hc0 : l0.length ≤ c0) (hr : r ≠ 0) (hM : bitset_fit.f k n l0 = some r) :
    Calls Tryd.prog 48 #[.int .i64 n, .slice A0 l0.length c0] w fun e w' => ∃ v : Value, e = .returned (.tuple #[.agg #[.int .i64 0, v], .int .i64 r]) ∧ Kd.S k24 24 w' w.heap.size (fun _ => True) v [] ∧ Below w.heap.size w w' := by
  have hu24 := Tryd.underlying24
  have hu56 := Tryd.underlying56
  have HC := Aside0.mk hr0
  have HM := Aside0.mk hM
  clear hr0 hM
  obtain ⟨o2, ho2⟩ : ∃ o2 : Obj, o2 = .cells #[.int .i64 0, .slice none 0 0] 56 (0, 0) := ⟨_, rfl⟩
  have K1 : (w.alloc o2).heap[w.heap.size]? = some o2 := blk_new w o2
  have HB0 : Below w.heap.size w (w.alloc o2) := below_alloc (Below.refl _ _) _
  rw [ho2] at K1 HB0
  clear ho2 o2
  have KD := Aside0.mk K1
  have HB := Aside0.mk HB0
  clear K1 HB0
  refine (callsIn_wide (n := 6)).1 ?_
  refine callsIn_of_wp Tryd.func48 rfl trivial ?_ rfl
  simp only [Tryd.ntmps48, List.size_toArray, List.length_cons, List.length_nil, Nat.reduceAdd, Nat.reduceSub, Array.replicate_succ, Array.replicate_zero, List.push_toArray, List.append_toArray, List.nil_append, List.cons_append]
  gi_wp2_with fail
  refine ⟨trivial, ?_⟩; gi_at_call 90
  refine (callsIn_wide.2 (bitset_fit.calls k n _ _ l0 r _ (Kd.C_alloc HC.out _) hc0 HM.out)).mono ?_
  rintro e w1 ⟨rfl, hb⟩
  have n2_ := Aside0.mk (blk_below KD.out hb); have n3_ := Aside0.mk (below_step HB.out hb)
  clear KD HB hb
  have KD := n2_; have HB := n3_
  clear n2_ n3_
  have q0 := (blk_cell KD.out 0).trans rfl; have q1 := (blk_cell KD.out 1).trans rfl; have z0 := blk_frozen KD.out 0; have z1 := blk_frozen KD.out 1
  gi_wp2_with fail
  obtain ⟨X, hX⟩ : ∃ X, (World.setCell w1 ⟨w.heap.size, 0, none⟩ (Value.int IntKind.i64 0)).setCell ⟨w.heap.size, 1, none⟩ (Value.slice none 0 0) = X := ⟨_, rfl⟩
  have hXg : X.heap[w.heap.size]? = some (.cells #[.int .i64 0, Value.slice none 0 0] 56 (0, 0)) := hX ▸ blk_put (blk_put KD.out 0 (Value.int IntKind.i64 0) rfl) 1 (Value.slice none 0 0) rfl
  have hXB := wb (g := w.heap.size) hX.symm HB.out (Nat.le_refl _)
  try rw [hX]
  have c0 := (blk_cell hXg 0).trans rfl
  have c1 := (blk_cell hXg 1).trans rfl
  refine bodyPost_ret (v := .tuple #[.agg #[.int .i64 0, .slice none 0 0], .int .i64 r]) ?_ rfl ⟨_, rfl, Kd.S_nil _ _ _ _ _, hXB⟩
  simp [results, Tryd.f48, go_sem, c0, c1]
set_option maxHeartbeats 8000000 in
set_option maxRecDepth 100000 in
theorem MakeTable_many (k : Nat) (n : Int) (A0 : Option Addr) (c0 : Nat) (l0 : List S24) (w : World) (hr0 : Kd.C k24 w A0 l0.length l0) (hc0 : l0.length ≤ c0) (hgt : (4096 : Int) < (l0.length : Int)) (hM : bitset_fit.f k n l0 = some 0) :
    Calls Tryd.prog 48 #[.int .i64 n, .slice A0 l0.length c0] w fun e w' => ∃ v : Value, e = .returned (.tuple #[.agg #[.int .i64 0, v], .int .i64 1]) ∧ Kd.S k24 24 w' w.heap.size (fun _ => True) v [] ∧ Below w.heap.size w w' := by
  have hu24 := Tryd.underlying24
  have hu56 := Tryd.underlying56
  have HC := Aside0.mk hr0
  have HM := Aside0.mk hM
  clear hr0 hM
  obtain ⟨o2, ho2⟩ : ∃ o2 : Obj, o2 = .cells #[.int .i64 0, .slice none 0 0] 56 (0, 0) := ⟨_, rfl⟩
  have K1 : (w.alloc o2).heap[w.heap.size]? = some o2 := blk_new w o2
  have HB0 : Below w.heap.size w (w.alloc o2) := below_alloc (Below.refl _ _) _
  rw [ho2] at K1 HB0
  clear ho2 o2
  have KD := Aside0.mk K1
  have HB := Aside0.mk HB0
  clear K1 HB0
  refine (callsIn_wide (n := 6)).1 ?_
  refine callsIn_of_wp Tryd.func48 rfl trivial ?_ rfl
  simp only [Tryd.ntmps48, List.size_toArray, List.length_cons, List.length_nil, Nat.reduceAdd, Nat.reduceSub, Array.replicate_succ, Array.replicate_zero, List.push_toArray, List.append_toArray, List.nil_append, List.cons_append]
  gi_wp2_with fail
  refine ⟨trivial, ?_⟩; gi_at_call 90
  refine (callsIn_wide.2 (bitset_fit.calls k n _ _ l0 0 _ (Kd.C_alloc HC.out _) hc0 HM.out)).mono ?_
  rintro e w1 ⟨rfl, hb⟩
  have n2_ := Aside0.mk (blk_below KD.out hb); have n3_ := Aside0.mk (below_step HB.out hb)
  clear KD HB hb
  have KD := n2_; have HB := n3_
  clear n2_ n3_
  have q0 := (blk_cell KD.out 0).trans rfl; have q1 := (blk_cell KD.out 1).trans rfl; have z0 := blk_frozen KD.out 0; have z1 := blk_frozen KD.out 1
  gi_wp2_with fail
  obtain ⟨X, hX⟩ : ∃ X, (World.setCell w1 ⟨w.heap.size, 0, none⟩ (Value.int IntKind.i64 0)).setCell ⟨w.heap.size, 1, none⟩ (Value.slice none 0 0) = X := ⟨_, rfl⟩
  have hXg : X.heap[w.heap.size]? = some (.cells #[.int .i64 0, Value.slice none 0 0] 56 (0, 0)) := hX ▸ blk_put (blk_put KD.out 0 (Value.int IntKind.i64 0) rfl) 1 (Value.slice none 0 0) rfl
  have hXB := wb (g := w.heap.size) hX.symm HB.out (Nat.le_refl _)
  try rw [hX]
  have c0 := (blk_cell hXg 0).trans rfl
  have c1 := (blk_cell hXg 1).trans rfl
  refine bodyPost_ret (v := .tuple #[.agg #[.int .i64 0, .slice none 0 0], .int .i64 1]) ?_ rfl ⟨_, rfl, Kd.S_nil _ _ _ _ _, hXB⟩
  simp [results, Tryd.f48, go_sem, c0, c1]
def bitset_MakeTable.f (k : Nat) (a0 : Int) (l1 : List S24) : Option (Int × List S24 × Int) :=
  if Goods l1 ∧ l1.length ≤ 9223372036854775807 then (bitset_fit.f k a0 l1).bind fun r => if r = 0 then (if (4096 : Int) < (l1.length : Int) then some (0, [], 1) else (bitset_blanks.f k a0 (l1.length : Int)).bind fun t => some (t.1, makeA 0 l1 t.2, 0)) else some (0, [], r) else none
theorem bitset_MakeTable.mono : ∀ a0 l1 k, LeO (bitset_MakeTable.f k a0 l1) (bitset_MakeTable.f (k + 1) a0 l1) := by
  intro a l k
  unfold bitset_MakeTable.f
  split
  · exact LeO.bind (bitset_fit.mono _ _ _) fun b => LeO.ite (LeO.ite (LeO.refl _) (LeO.bind (bitset_blanks.mono _ _ _) fun t => LeO.refl _)) (LeO.refl _)
  · exact LeO.none _
theorem fit_is {k : Nat} {n r : Int} {l : List S24} (hg : Goods l) (hl : l.length ≤ 9223372036854775807) (h : bitset_fit.f k n l = some r) : FitSays n l r := by
  obtain ⟨q, h1, h2⟩ := fit_eq n l hl hg
  rw [Ev.eq (Ev.of (bitset_fit.mono _ _) h) h2]
  exact h1
theorem FitSays.zero {n : Int} {l : List S24} (h : FitSays n l 0) : (∀ x ∈ l, MayS x ∧ x.f0 = n) ∧ 0 ≤ n ∧ n ≤ 4096 := by
  rcases h with ⟨h1, _⟩ | ⟨h1, _⟩ | ⟨_, h1, h2, h3⟩
  · omega
  · omega
  · exact ⟨fun x hx => ⟨h1 x hx, h2 x hx⟩, h3⟩
theorem bitset_MakeTable.calls (k : Nat) (a0 : Int) (A1 : Option Addr) (c1 : Nat) (l1 : List (S24)) (r1 : Int) (r2 : List (S24)) (r3 : Int) (w : World) (hr1 : Kd.C k24 w A1 l1.length l1) (hc1 : l1.length ≤ c1) (h : bitset_MakeTable.f k a0 l1 = some (r1, r2, r3)) :
    Calls Tryd.prog 48 #[.int .i64 a0, .slice A1 l1.length c1] w fun e w' => ∃ v1_ : Value, e = .returned (.tuple #[.agg #[.int .i64 r1, v1_], .int .i64 r3]) ∧ Kd.S k24 24 w' w.heap.size (fun _ => True) v1_ r2 ∧ Below w.heap.size w w' := by
  unfold bitset_MakeTable.f at h
  by_cases hg : Goods l1 ∧ l1.length ≤ 9223372036854775807
  · rw [if_pos hg] at h
    obtain ⟨r, hM, h⟩ := Option.bind_eq_some_iff.1 h
    by_cases hr : r = 0
    · subst hr
      rw [if_pos rfl] at h
      by_cases hgt : (4096 : Int) < (l1.length : Int)
      · rw [if_pos hgt] at h
        cases h
        exact MakeTable_many k a0 A1 c1 l1 w hr1 hc1 hgt hM
      · rw [if_neg hgt] at h
        obtain ⟨t, hBl, h⟩ := Option.bind_eq_some_iff.1 h
        obtain ⟨hx, hn0, hn1⟩ := (fit_is hg.1 hg.2 hM).zero
        obtain ⟨n, rfl⟩ := Int.eq_ofNat_of_zero_le hn0
        have hT : TabP (n : Int) l1 := ⟨hn0, hn1, by omega, hx⟩
        obtain ⟨rows, hR, hE⟩ := blanks_ev (m := n) (n := l1.length) (by omega) (by omega)
        have ht := Ev.eq (Ev.of (bitset_blanks.mono _ _) hBl) hE
        subst ht
        simp only [Option.some.injEq, Prod.mk.injEq] at h
        obtain ⟨rfl, rfl, rfl⟩ := h
        exact MakeTable_yes k n A1 c1 l1 rows w hr1 hc1 hT hM hBl hR.rok
    · rw [if_neg hr] at h
      cases h
      exact MakeTable_no k a0 _ A1 c1 l1 w hr1 hc1 hr hM
  · rw [if_neg hg] at h; cases h
end Go.Proofs.YtjmkhdhffmlhiaaDoor.PAll
end
section
namespace Go.Proofs.YtjmkhdhffmlhiaaDoor.PAll
set_option linter.unusedVariables false
set_option linter.unusedSimpArgs false
open Go.RowKit Go.Shelf Go.Proofs.YtjmkhdhffmlhiaaDoorW.PrintWords Go.Proofs.YtjmkhdhffmlhiaaDoorW.PrintLast Go.Proofs.YtjmkhdhffmlhiaaDoorW.PrintMore
attribute [local go_sem] Oper.semAt_some
def clS (k : Nat) (rows : List S24) (i : Nat) : List S24 := if hb (rd_T24 rows (i : Int)).f1 k = true then (if i = k then rows else bothS i rows (rd_T24 rows (k : Int))) else rows
def clI (k : Nat) : Nat → Nat → List S24 → List S24
  | 0, _, rows => rows
  | d + 1, i, rows => clI k d (i + 1) (clS k rows i)
def clO (n : Nat) : Nat → Nat → List S24 → List S24
  | 0, _, rows => rows
  | d + 1, k, rows => clO n d (k + 1) (clI k n 0 rows)
def Rw (n : Nat) (rows : List S24) : Prop := rows.length = n ∧ ∀ r ∈ rows, r.f1.length = (n + 63) / 64 ∧ Wds r.f1
theorem orw_Wds {b ws : List Int} (h : Wds b) (k : Wds ws) : Wds (orw b ws) := by
  intro x hx
  unfold orw at hx
  rcases List.mem_append.1 hx with hx | hx
  · exact zip_Wds bitly_or h k x hx
  · exact h x (List.mem_of_mem_drop hx)
theorem Rw.step {n k i : Nat} {rows : List S24} (h : Rw n rows) (hk : k < n) (hi : i < n) : Rw n (clS k rows i) := by
  unfold clS
  split
  · split
    · exact h
    · have hil : i < rows.length := by rw [h.1]; exact hi
      have hkl : k < rows.length := by rw [h.1]; exact hk
      have h1 := h.2 _ (List.getElem_mem hil)
      have h2 := h.2 _ (List.getElem_mem hkl)
      refine ⟨by unfold bothS; rw [List.length_set, h.1], fun r hr => ?_⟩
      unfold bothS at hr
      rcases List.mem_or_eq_of_mem_set hr with hr | rfl
      · exact h.2 r hr
      · rw [rdT_nat rows hil, rdT_nat rows hkl]
        exact ⟨by simp only; rw [orw_length (by omega)]; exact h1.1, orw_Wds h1.2 h2.2⟩
  · exact h
theorem fold_cl (n : Nat) (rows : List S24) (i k : Nat) (w0 W : World) (ok : Nat → Prop) (g cap : Nat) (hB : Below w0.heap.size w0 W) (hS : Kd.S k24 24 W w0.heap.size ok (.slice (some ⟨g, 0, none⟩) rows.length cap) rows) (hi : i < rows.length) (hk : k < rows.length) (hR : Rw n rows) (hbk : hb (rd_T24 rows (i : Int)).f1 k = true) :
    ∃ v, W.cell? ⟨g, i * 2, none⟩ = some (.int .i64 (rd_T24 rows (i : Int)).f0) ∧ W.cell? ⟨g, i * 2 + 1, none⟩ = some v ∧
      Calls Tryd.prog 88 #[.agg #[.int .i64 (rd_T24 rows (i : Int)).f0, v], .slice (some ⟨g, k * 2, none⟩) 1 1, .func (.func 89) #[] #[]] W fun e w' => e = .returned (.agg #[.int .i64 (rd_T24 rows (i : Int)).f0, v]) ∧
        Kd.S k24 24 w' w0.heap.size ok (.slice (some ⟨g, 0, none⟩) rows.length cap) (clS k rows i) ∧ Below w0.heap.size w0 w' ∧ Kept W w' ok := by
  unfold clS
  rw [if_pos hbk]
  by_cases hik : i = k
  · subst hik
    rw [if_pos rfl]
    exact fold_same rows i w0 W ok g cap hB hS hi (by rw [rdT_nat rows hi]; exact (hR.2 _ (List.getElem_mem hi)).2)
  · rw [if_neg hik]
    have := fold_own rows i k w0 W ok g cap hB hS hi hk hik (by rw [rdT_nat rows hi, (hR.2 _ (List.getElem_mem hi)).1, (hR.2 _ (List.getElem_mem hk)).1]; exact Nat.le_refl _)
    rw [rdT_nat rows hk]
    exact this
set_option maxHeartbeats 8000000 in
set_option maxRecDepth 100000 in
theorem Closure_yes (kf : Nat) (A0 : Option Addr) (c0 : Nat) (l0 rows : List S24) (w : World) (hr0 : Kd.C k24 w A0 l0.length l0) (hc0 : l0.length ≤ c0) (hl4 : l0.length ≤ 4096)
    (hM : bitset_MayTable.f kf (l0.length : Int) l0 = some true) (hMk : bitset_MakeTable.f kf (l0.length : Int) l0 = some ((l0.length : Int), rows, 0)) (hRk : Rw l0.length rows) :
    Calls Tryd.prog 56 #[.agg #[.int .i64 l0.length, .slice A0 l0.length c0]] w fun e w' => ∃ v : Value, e = .returned (.tuple #[.agg #[.int .i64 (l0.length : Int), v], .int .i64 0]) ∧ Kd.S k24 24 w' w.heap.size (fun _ => True) v (clO l0.length l0.length 0 rows) ∧ Below w.heap.size w w' := by
  have hu24 := Tryd.underlying24
  have hu56 := Tryd.underlying56
  have HC := Aside0.mk hr0
  have HM := Aside0.mk hM
  have HMk := Aside0.mk hMk
  clear hr0 hM hMk
  obtain ⟨o1, ho1⟩ : ∃ o1 : Obj, o1 = .cells #[.int .i64 l0.length, .slice A0 l0.length c0] 56 (0, 0) := ⟨_, rfl⟩
  obtain ⟨o2, ho2⟩ : ∃ o2 : Obj, o2 = .cells #[.int .i64 0, .slice none 0 0] 56 (0, 0) := ⟨_, rfl⟩
  have K0 : ((w.alloc o1).alloc o2).heap[w.heap.size]? = some o1 := blk_alloc (blk_new w o1) _
  have K1 : ((w.alloc o1).alloc o2).heap[w.heap.size + 1]? = some o2 := by have := blk_new (w.alloc o1) o2; rwa [World.size_alloc] at this
  have HB0 : Below w.heap.size w ((w.alloc o1).alloc o2) := below_alloc (below_alloc (Below.refl _ _) _) _
  have hs3 : w.heap.size + 2 ≤ ((w.alloc o1).alloc o2).heap.size := by rw [World.size_alloc, World.size_alloc]; omega
  rw [ho1, ho2] at K0 K1 HB0 hs3
  clear ho1 ho2 o1 o2
  have KA := Aside0.mk K0
  have KD := Aside0.mk K1
  have HB := Aside0.mk HB0
  have HS3 := Aside0.mk hs3
  clear K0 K1 HB0 hs3
  refine (callsIn_wide (n := 6)).1 ?_
  refine callsIn_of_wp Tryd.func56 rfl trivial ?_ rfl
  simp only [Tryd.ntmps56, List.size_toArray, List.length_cons, List.length_nil, Nat.reduceAdd, Nat.reduceSub, Array.replicate_succ, Array.replicate_zero, List.push_toArray, List.append_toArray, List.nil_append, List.cons_append]
  gi_wp2_with fail
  refine ⟨trivial, ?_⟩; gi_at_call 85
  refine (callsIn_wide.2 (bitset_MayTable.calls kf l0.length _ _ l0 true _ (Kd.C_alloc (Kd.C_alloc HC.out _) _) hc0 HM.out)).mono ?_
  rintro e w0 ⟨rfl, hb⟩
  have n0_ := Aside0.mk (blk_below KA.out hb); have n2_ := Aside0.mk (blk_below KD.out hb); have n3_ := Aside0.mk (below_step HB.out hb); have n4_ := Aside0.mk (Nat.le_trans HS3.out (below_size hb))
  clear KA KD HB hb HS3
  have KA := n0_; have KD := n2_; have HB := n3_; have HS3 := n4_
  clear n0_ n2_ n3_ n4_
  have q0 := (blk_cell KA.out 0).trans rfl; have q1 := (blk_cell KA.out 1).trans rfl
  gi_wp2_with fail
  refine ⟨trivial, ?_⟩; gi_at_call 87
  refine (callsIn_wide.2 (bitset_square.calls l0.length _ _ l0 true _ (Kd.C_below HC.out HB.out) hc0 (by unfold bitset_square.f; simp))).mono ?_
  rintro e w1 ⟨rfl, hb⟩
  have n0_ := Aside0.mk (blk_below KA.out hb); have n2_ := Aside0.mk (blk_below KD.out hb); have n3_ := Aside0.mk (below_step HB.out hb); have n4_ := Aside0.mk (Nat.le_trans HS3.out (below_size hb))
  clear KA KD HB hb HS3 q0 q1
  have KA := n0_; have KD := n2_; have HB := n3_; have HS3 := n4_
  clear n0_ n2_ n3_ n4_
  have q0 := (blk_cell KA.out 0).trans rfl; have q1 := (blk_cell KA.out 1).trans rfl
  gi_wp2_with fail
  refine ⟨trivial, ?_⟩; gi_at_call 48
  refine (callsIn_wide.2 (bitset_MakeTable.calls kf l0.length _ _ l0 _ _ _ _ (Kd.C_below HC.out HB.out) hc0 HMk.out)).mono ?_
  rintro e w2 ⟨vt, rfl, ho, hb⟩
  obtain ⟨At, ct, et⟩ := Kd.S_slice ho
  subst et
  have hct := (Kd.S_reads' ho).2.1
  have n2_ := Aside0.mk (blk_below KD.out hb); have n3_ := Aside0.mk (below_step HB.out hb)
  have HT := Aside0.mk (Kd.S_lower (Kd.S_mono (Kd.S_bound ho) (fun k_ hk_ => show w1.heap.size ≤ k_ ∧ k_ < w2.heap.size from ⟨hk_.2.1, hk_.2.2.1⟩)) (below_size HB.out))
  have HS2 := Aside0.mk (below_size hb)
  clear KA KD HB hb ho q0 q1
  have KD := n2_; have HB := n3_
  clear n2_ n3_
  have q1 := (blk_cell (blk_new w2 (.cells #[.int .i64 l0.length, .slice At rows.length ct] 56 (0, 0))) 1).trans rfl
  have HLR := Aside0.mk hRk.1
  have HCT := Aside0.mk hct
  clear hct
  gi_wp2_with fail
  refine wpIn_loop (fun a W => ∃ (k : Nat) (rk : List S24) (u6 u7 u28 u29 u30 u31 u32 u33 u34 u35 u36 u37 u38 u39 u40 u41 u42 u43 u44 u45 u46 u47 u48 u49 u50 u51 u52 u53 u54 u55 u56 u57 u58 : Value), a = { tmps := #[.agg #[.int .i64 l0.length, .slice A0 l0.length c0], .pointer (some ⟨w.heap.size, 0, none⟩), .pointer (some ⟨w.heap.size + 1, 0, none⟩), .int .i64 0, .pointer (some ⟨w2.heap.size, 0, none⟩), .int .i64 0, u6, u7, .agg #[.int .i64 l0.length, .slice A0 l0.length c0], .bool true, .bool false, undef, .agg #[.int .i64 l0.length, .slice A0 l0.length c0], .bool true, .bool false, undef, .tuple #[.agg #[.int .i64 l0.length, .slice At rows.length ct], .int .i64 0], .pointer (some ⟨w.heap.size, 0, none⟩), .int .i64 l0.length, .pointer (some ⟨w.heap.size, 1, none⟩), .slice A0 l0.length c0, .tuple #[.agg #[.int .i64 l0.length, .slice At rows.length ct], .int .i64 0], .agg #[.int .i64 l0.length, .slice At rows.length ct], .int .i64 0, .pointer (some ⟨w2.heap.size, 1, none⟩), .slice At rows.length ct, .int .i64 rows.length, .int .i64 k, u28, u29, u30, u31, u32, u33, u34, u35, u36, u37, u38, u39, u40, u41, u42, u43, u44, u45, u46, u47, u48, u49, u50, u51, u52, u53, u54, u55, u56, u57, u58, undef], defers := [] } ∧ Aside0 (k ≤ l0.length) ∧ Aside0 (clO l0.length (l0.length - k) k rk = clO l0.length l0.length 0 rows) ∧ Aside0 (Rw l0.length rk) ∧ Aside0 (W.heap[w.heap.size + 1]? = some (.cells #[.int .i64 0, .slice none 0 0] 56 (0, 0))) ∧ Aside0 (W.heap[w2.heap.size]? = some (.cells #[.int .i64 l0.length, .slice At rows.length ct] 56 (0, 0))) ∧ Aside0 (Kd.S k24 24 W w.heap.size (fun k_ => w1.heap.size ≤ k_ ∧ k_ < w2.heap.size) (.slice At rows.length ct) rk) ∧ Aside0 (Below w.heap.size w W))
    (fun a _ => l0.length - (intOf (a.tmps.getD 27 undef)).toNat) ?start ?round
  case start =>
    exact ⟨0, rows, undef, undef, undef, undef, undef, undef, undef, undef, undef, undef, undef, undef, undef, undef, undef, undef, undef, undef, undef, undef, undef, undef, undef, undef, undef, undef, undef, undef, undef, undef, undef, undef, undef, rfl, ⟨Nat.zero_le _⟩, ⟨rfl⟩, ⟨hRk⟩, ⟨blk_alloc KD.out _⟩, ⟨blk_new _ _⟩, ⟨Kd.S_alloc HT.out _⟩, ⟨below_alloc HB.out _⟩⟩
  case round =>
    clear KD HB HT q1
    rintro a wr ⟨k, rk0, u6, u7, u28, u29, u30, u31, u32, u33, u34, u35, u36, u37, u38, u39, u40, u41, u42, u43, u44, u45, u46, u47, u48, u49, u50, u51, u52, u53, u54, u55, u56, u57, u58, rfl, hj, hA, hRj, KD, KU, HT, HB⟩
    by_cases hlt : k < l0.length
    · have hd : decide (k < rows.length) = true := decide_eq_true (by rw [HLR.out]; exact hlt)
      have q1 := (blk_cell KU.out 1).trans rfl
      gi_wp2_with fail
      refine wpIn_loop (fun a W => ∃ (i : Nat) (rk : List S24) (x7 x34 x35 x36 x37 x38 x39 x40 x41 x42 x43 x44 x45 x46 x47 x48 x49 x50 x51 x52 x53 x54 x55 x56 x57 : Value), a = { tmps := #[.agg #[.int .i64 l0.length, .slice A0 l0.length c0], .pointer (some ⟨w.heap.size, 0, none⟩), .pointer (some ⟨w.heap.size + 1, 0, none⟩), .int .i64 0, .pointer (some ⟨w2.heap.size, 0, none⟩), .int .i64 0, .int .i64 k, x7, .agg #[.int .i64 l0.length, .slice A0 l0.length c0], .bool true, .bool false, undef, .agg #[.int .i64 l0.length, .slice A0 l0.length c0], .bool true, .bool false, undef, .tuple #[.agg #[.int .i64 l0.length, .slice At rows.length ct], .int .i64 0], .pointer (some ⟨w.heap.size, 0, none⟩), .int .i64 l0.length, .pointer (some ⟨w.heap.size, 1, none⟩), .slice A0 l0.length c0, .tuple #[.agg #[.int .i64 l0.length, .slice At rows.length ct], .int .i64 0], .agg #[.int .i64 l0.length, .slice At rows.length ct], .int .i64 0, .pointer (some ⟨w2.heap.size, 1, none⟩), .slice At rows.length ct, .int .i64 rows.length, .int .i64 k, .bool true, .int .i64 k, .pointer (some ⟨w2.heap.size, 1, none⟩), .slice At rows.length ct, .int .i64 rows.length, .int .i64 i, x34, x35, x36, x37, x38, x39, x40, x41, x42, x43, x44, x45, x46, x47, x48, x49, x50, x51, x52, x53, x54, x55, x56, x57, u58, undef], defers := [] } ∧ Aside0 (i ≤ l0.length) ∧ Aside0 (clI k (l0.length - i) i rk = clI k l0.length 0 rk0) ∧ Aside0 (Rw l0.length rk) ∧ Aside0 (W.heap[w.heap.size + 1]? = some (.cells #[.int .i64 0, .slice none 0 0] 56 (0, 0))) ∧ Aside0 (W.heap[w2.heap.size]? = some (.cells #[.int .i64 l0.length, .slice At rows.length ct] 56 (0, 0))) ∧ Aside0 (Kd.S k24 24 W w.heap.size (fun k_ => w1.heap.size ≤ k_ ∧ k_ < w2.heap.size) (.slice At rows.length ct) rk) ∧ Aside0 (Below w.heap.size w W))
        (fun a _ => l0.length - (intOf (a.tmps.getD 33 undef)).toNat) ?start2 ?round2
      case start2 =>
        exact ⟨0, rk0, _, _, _, _, _, _, _, _, _, _, _, _, _, _, _, _, _, _, _, _, _, _, _, _, _, rfl, ⟨Nat.zero_le _⟩, ⟨rfl⟩, hRj, KD, KU, HT, HB⟩
      case round2 =>
        clear KD KU HT HB q1
        rintro a wi ⟨i, rk, x7, x34, x35, x36, x37, x38, x39, x40, x41, x42, x43, x44, x45, x46, x47, x48, x49, x50, x51, x52, x53, x54, x55, x56, x57, rfl, hi, hA2, hRi, KD, KU, HT, HB⟩
        by_cases hil : i < l0.length
        · have hdi : decide (i < rows.length) = true := decide_eq_true (by rw [HLR.out]; exact hil)
          have hir : i < rk.length := by rw [hRi.out.1]; exact hil
          have hirr : i < rows.length := by rw [HLR.out]; exact hil
          have hkr : k < rk.length := by rw [hRi.out.1]; exact hlt
          obtain ⟨g, cap, ev, _, _, _⟩ := Kd.S_form HT.out (by omega)
          injection ev with e1 e2 e3
          subst e1 e3
          have q1 := (blk_cell KU.out 1).trans rfl
          have hT := HT.out
          rw [e2] at hT
          obtain ⟨f, hf⟩ := row_tag hT
          obtain ⟨v, z0, z1, hRv⟩ := hf i hir
          obtain ⟨Av, cv, rfl⟩ := Kd.R_slice hRv
          obtain ⟨_, hlev, hCv⟩ := Kd.R_reads' hRv
          have hri := rdT_nat rk hir
          obtain ⟨r, hr⟩ : ∃ r, rk[i] = r := ⟨_, rfl⟩
          have hrp := hRi.out.2 _ (List.getElem_mem hir)
          rw [hr] at z0 z1 hlev hCv hri hrp
          obtain ⟨f0, ws⟩ := r
          simp only at z0 z1 hlev hCv hrp
          have HHAS := Aside0.mk (has_eq (n := f0) (ws := ws) (e := k) hrp.2 (by rw [hrp.1]; omega) (by omega))
          have HCv := Aside0.mk hCv
          have HE2 := Aside0.mk e2
          have HRI := Aside0.mk hri
          have HT0 := Aside0.mk hT
          have HRP := Aside0.mk hrp
          have hct2 : k < ct := by have := HCT.out; have := HLR.out; omega
          have HY1 : Aside0 ((0 : Int) ≤ (k : Int) + 1) := ⟨by omega⟩
          have HY2 : Aside0 ((k : Int) + 1 ≤ (ct : Int)) := ⟨by omega⟩
          have hyc : ¬ (ct = k) := by omega
          have hyk : k + 1 ≤ ct := by omega
          clear e2 hri hCv hr hf hRv hT hrp
          gi_wp2_with fail
          refine ⟨trivial, ?_⟩; gi_at_call 77
          refine (callsIn_wide.2 (bitset_has.calls f0 _ _ ws k (hb ws k) _ HCv.out hlev HHAS.out)).mono ?_
          rintro e w5 ⟨rfl, hbw⟩
          have KD5 := Aside0.mk (blk_below KD.out hbw)
          have KU5 := Aside0.mk (blk_below KU.out hbw)
          have HT5 := Aside0.mk (Kd.S_below HT0.out hbw)
          have HB5 := Aside0.mk (below_step HB.out hbw)
          clear q1 z0 z1 hbw
          have hUi := blk_lt KU5.out
          have hw12 : w.heap.size + 2 ≤ w1.heap.size := HS3.out
          cases hbk : hb ws k with
          | false =>
            gi_wp2_with fail
            rw [show ((i : Int) + 1) = ((i + 1 : Nat) : Int) from by omega]
            have hcl : clS k rk i = rk := by unfold clS; rw [HRI.out, if_neg (by rw [hbk]; decide)]
            refine ⟨⟨i + 1, rk, _, _, _, _, _, _, _, _, _, _, _, _, _, _, _, _, _, _, _, _, _, _, _, _, _, rfl, ⟨hil⟩, ⟨?_⟩, hRi, KD5, KU5, ⟨?_⟩, HB5⟩, ?_⟩
            · have := hA2.out
              rw [show l0.length - i = (l0.length - (i + 1)) + 1 from by omega, clI, hcl] at this
              exact this
            · have := HT5.out; rw [← HE2.out] at this; exact this
            · show l0.length - (intOf (.int .i64 ((i + 1 : Nat) : Int))).toNat < l0.length - (intOf (.int .i64 (i : Int))).toNat
              simp only [intOf, Int.toNat_natCast]
              omega
          | true =>
            gi_wp2_with fail
            have KD4 := Aside0.mk (blk_drew KD5.out)
            have KU4 := Aside0.mk (blk_drew KU5.out)
            have HT4 := Aside0.mk (Kd.S_drew HT5.out)
            have HB4 := Aside0.mk (below_drew1 HB5.out)
            obtain ⟨v, z0, z1, hcall⟩ := fold_cl l0.length rk i k w _ _ g ct HB4.out HT4.out hir hkr hRi.out (by rw [HRI.out]; exact hbk)
            have u1 := (blk_cell KU4.out 1).trans rfl
            rw [HE2.out] at u1
            simp only [List.getElem?_toArray, List.getElem?_cons_zero, List.getElem?_cons_succ] at u1
            have HCALL := Aside0.mk hcall
            clear hcall
            have hmx : Tryd.prog.follows .mixedOrders = true := by kernel_rfl
            have HW1 := Aside0.mk (show wrap64 ((k : Int) + 1) = ((k + 1 : Nat) : Int) from by rw [w64_nat (by omega) (by omega)]; omega)
            refine wpIn_wide.2 ?_
            refine start_ (n := 14) (S := fun w' => w'.cell? ⟨w2.heap.size, 1, none⟩ = some (.slice (some ⟨g, 0, none⟩) rk.length ct) ∧ w'.cell? ⟨g, i * 2, none⟩ = some (.int .i64 (rd_T24 rk (i : Int)).f0) ∧ w'.cell? ⟨g, i * 2 + 1, none⟩ = some v) (ds := [13]) #[false, false, false, false, false, false, false, false, false, false, false, false, false, false] hmx (by kernel_rfl) rfl ⟨u1, z0, z1⟩ (fun hHeld => ?_)
            clear u1 z0 z1
            generalize w5.drew = W4 at KD4 KU4 HT4 HB4 hHeld HCALL ⊢
            refine pure_ (i := 0) (N := some 43) (v := ?_) (a' := ?_) #[true, false, false, false, false, false, false, false, false, false, false, false, false, false] rfl rfl (by kernel_rfl) (fun _ _ _ h => h) (Or.inl ⟨by rfl, ?_⟩) ?_ ?_
            rotate_left
            · intro w'
              go_simp
              with_reducible rfl
            rotate_left
            · simp only [Act.put, List.setIfInBounds_toArray, List.set_cons_zero, List.set_cons_succ, i64_w, i32_w]
              rfl
            refine pure_ (i := 2) (N := some 45) (v := ?_) (a' := ?_) #[true, false, true, false, false, false, false, false, false, false, false, false, false, false] rfl rfl (by kernel_rfl) (fun _ _ _ h => h) (Or.inl ⟨by rfl, ?_⟩) ?_ ?_
            rotate_left
            · intro w'
              go_simp
              with_reducible rfl
            rotate_left
            · simp only [Act.put, List.setIfInBounds_toArray, List.set_cons_zero, List.set_cons_succ, i64_w, i32_w]
              rfl
            refine pure_ (i := 5) (N := some 48) (v := ?_) (a' := ?_) #[true, false, true, false, false, true, false, false, false, false, false, false, false, false] rfl rfl (by kernel_rfl) (fun _ _ _ h => h) (Or.inl ⟨by rfl, ?_⟩) ?_ ?_
            rotate_left
            · intro w'
              go_simp
              with_reducible rfl
            rotate_left
            · simp only [Act.put, List.setIfInBounds_toArray, List.set_cons_zero, List.set_cons_succ, i64_w, i32_w]
              rfl
            refine pure_ (i := 7) (N := some 50) (v := ?_) (a' := ?_) #[true, false, true, false, false, true, false, true, false, false, false, false, false, false] rfl rfl (by kernel_rfl) (fun _ _ _ h => h) (Or.inl ⟨by rfl, ?_⟩) ?_ ?_
            rotate_left
            · intro w'
              go_simp
              with_reducible rfl
            rotate_left
            · simp only [Act.put, List.setIfInBounds_toArray, List.set_cons_zero, List.set_cons_succ, i64_w, i32_w]
              rfl
            refine pure_ (i := 8) (N := some 51) (v := ?_) (a' := ?_) #[true, false, true, false, false, true, false, true, true, false, false, false, false, false] rfl rfl (by kernel_rfl) (fun _ _ _ h => h) (Or.inl ⟨by rfl, ?_⟩) ?_ ?_
            rotate_left
            · intro w'
              go_simp
              with_reducible rfl
            rotate_left
            · simp only [Act.put, List.setIfInBounds_toArray, List.set_cons_zero, List.set_cons_succ, i64_w, i32_w]
              rfl
            refine pure_ (i := 10) (N := some 53) (v := ?_) (a' := ?_) #[true, false, true, false, false, true, false, true, true, false, true, false, false, false] rfl rfl (by kernel_rfl) (fun _ _ _ h => h) (Or.inl ⟨by rfl, ?_⟩) ?_ ?_
            rotate_left
            · intro w'
              go_simp
              with_reducible rfl
            rotate_left
            · simp only [Act.put, List.setIfInBounds_toArray, List.set_cons_zero, List.set_cons_succ, i64_w, i32_w]
              rfl
            refine pure_ (i := 9) (N := some 52) (v := ?_) (a' := ?_) #[true, false, true, false, false, true, false, true, true, true, true, false, false, false] rfl rfl (by kernel_rfl) (fun _ _ _ h => h) (Or.inl ⟨by rfl, ?_⟩) ?_ ?_
            rotate_left
            · intro w'
              go_simp
              rw [i64_w, HW1.out]
            rotate_left
            · simp only [Act.put, List.setIfInBounds_toArray, List.set_cons_zero, List.set_cons_succ, i64_w, i32_w]
              rfl
            refine pure_ (i := 11) (N := some 54) (v := ?_) (a' := ?_) #[true, false, true, false, false, true, false, true, true, true, true, true, false, false] rfl rfl (by kernel_rfl) (fun _ _ _ h => h) (Or.inl ⟨by rfl, ?_⟩) ?_ ?_
            rotate_left
            · intro w'
              go_simp
              rw [i64_w, HW1.out]
            rotate_left
            · simp only [Act.put, List.setIfInBounds_toArray, List.set_cons_zero, List.set_cons_succ, i64_w, i32_w]
              rfl
            refine take_ (i := 1) (N := some 44) (v := ?_) (a' := ?_) #[true, true, true, false, false, true, false, true, true, true, true, true, false, false] rfl rfl (by kernel_rfl) (fun _ _ _ h => h) (Or.inl ⟨by rfl, ?_⟩) hHeld ?_ ?_
            rotate_left
            · rintro w' ⟨s0, s1, s2⟩
              go_simp
              with_reducible rfl
            rotate_left
            · simp only [Act.put, List.setIfInBounds_toArray, List.set_cons_zero, List.set_cons_succ, i64_w, i32_w]
              rfl
            refine take_ (i := 6) (N := some 49) (v := ?_) (a' := ?_) #[true, true, true, false, false, true, true, true, true, true, true, true, false, false] rfl rfl (by kernel_rfl) (fun _ _ _ h => h) (Or.inl ⟨by rfl, ?_⟩) hHeld ?_ ?_
            rotate_left
            · rintro w' ⟨s0, s1, s2⟩
              go_simp
              with_reducible rfl
            rotate_left
            · simp only [Act.put, List.setIfInBounds_toArray, List.set_cons_zero, List.set_cons_succ, i64_w, i32_w]
              rfl
            refine pure_ (i := 3) (N := some 46) (v := ?_) (a' := ?_) #[true, true, true, true, false, true, true, true, true, true, true, true, false, false] rfl rfl (by kernel_rfl) (fun _ _ _ h => h) (Or.inl ⟨by rfl, ?_⟩) ?_ ?_
            rotate_left
            · intro w'
              go_simp
              with_reducible rfl
            rotate_left
            · simp only [Act.put, List.setIfInBounds_toArray, List.set_cons_zero, List.set_cons_succ, i64_w, i32_w]
              rfl
            refine take_ (i := 4) (N := some 47) (v := ?_) (a' := ?_) #[true, true, true, true, true, true, true, true, true, true, true, true, false, false] rfl rfl (by kernel_rfl) (fun _ _ _ h => h) (Or.inl ⟨by rfl, ?_⟩) hHeld ?_ ?_
            rotate_left
            · rintro w' ⟨s0, s1, s2⟩
              go_simp
              with_reducible rfl
            rotate_left
            · simp only [Act.put, List.setIfInBounds_toArray, List.set_cons_zero, List.set_cons_succ, i64_w, i32_w]
              rfl
            refine pure_ (i := 12) (N := some 55) (v := ?_) (a' := ?_) #[true, true, true, true, true, true, true, true, true, true, true, true, true, false] rfl rfl (by kernel_rfl) (fun _ _ _ h => h) (Or.inl ⟨by rfl, ?_⟩) ?_ ?_
            rotate_left
            · intro w'
              go_simp
              try simp only [eq_true HY1.out, eq_true HY2.out, and_self, if_true]
              with_reducible rfl
            rotate_left
            · simp only [Act.put, List.setIfInBounds_toArray, List.set_cons_zero, List.set_cons_succ, i64_w, i32_w]
              rfl
            refine last_ (i := 13) (N := some 56) #[true, true, true, true, true, true, true, true, true, true, true, true, true, true] rfl rfl (by kernel_rfl) (by decide) (fun K hK => ?_)
            refine goes_ Tryd.func88 (by kernel_rfl) rfl #[.agg #[.int .i64 (rd_T24 rk (i : Int)).f0, v], .slice (some ⟨g, k * 2, none⟩) 1 1, .func (.func 89) #[] #[]] (by rfl) rfl rfl (by (try simp only [List.map_toArray, List.map_cons, List.map_nil]); first | done | rfl) ?_
            refine HCALL.out.mono ?_
            rintro e w6 ⟨rfl, hS6, hB6, hK6⟩
            refine ⟨_, rfl, ?_⟩
            refine hK.out _ _ ?_
            clear hK K
            refine done_ (by kernel_rfl) ?_
            have KD6 := Aside0.mk ((hK6.2 _ (blk_lt KD4.out) (fun h => by omega)).trans KD4.out)
            have KU6 := Aside0.mk ((hK6.2 _ (blk_lt KU4.out) (fun h => by omega)).trans KU4.out)
            gi_wp2_with fail
            rw [show ((i : Int) + 1) = ((i + 1 : Nat) : Int) from by omega]
            refine ⟨⟨i + 1, clS k rk i, _, _, _, _, _, _, _, _, _, _, _, _, _, _, _, _, _, _, _, _, _, _, _, _, _, rfl, ⟨hil⟩, ⟨?_⟩, ⟨hRi.out.step hlt hil⟩, KD6, KU6, ⟨?_⟩, ⟨hB6⟩⟩, ?_⟩
            · have := hA2.out
              rw [show l0.length - i = (l0.length - (i + 1)) + 1 from by omega, clI] at this
              exact this
            · rw [HE2.out]; exact hS6
            · show l0.length - (intOf (.int .i64 ((i + 1 : Nat) : Int))).toNat < l0.length - (intOf (.int .i64 (i : Int))).toNat
              simp only [intOf, Int.toNat_natCast]
              omega
        · have hie : i = l0.length := by have := hi.out; omega
          subst hie
          have hd2 : decide (l0.length < rows.length) = false := decide_eq_false (by rw [HLR.out]; exact hil)
          gi_wp2_with fail
          rw [show ((k : Int) + 1) = ((k + 1 : Nat) : Int) from by omega]
          refine ⟨⟨k + 1, rk, _, _, _, _, _, _, _, _, _, _, _, _, _, _, _, _, _, _, _, _, _, _, _, _, _, _, _, _, _, _, _, _, _, rfl, ⟨hlt⟩, ⟨?_⟩, hRi, KD, KU, HT, HB⟩, ?_⟩
          · have h1 := hA.out
            have h2 := hA2.out
            rw [Nat.sub_self, clI] at h2
            rw [show l0.length - k = (l0.length - (k + 1)) + 1 from by omega, clO, ← h2] at h1
            exact h1
          · show l0.length - (intOf (.int .i64 ((k + 1 : Nat) : Int))).toNat < l0.length - (intOf (.int .i64 (k : Int))).toNat
            simp only [intOf, Int.toNat_natCast]
            omega
    · have hke : k = l0.length := by have := hj.out; omega
      subst hke
      have hd : decide (l0.length < rows.length) = false := decide_eq_false (by rw [HLR.out]; exact hlt)
      have q0 := (blk_cell KU.out 0).trans rfl
      have q1 := (blk_cell KU.out 1).trans rfl
      have q2 := (blk_cell KD.out 0).trans rfl
      have q3 := (blk_cell KD.out 1).trans rfl
      have z0 := blk_frozen KD.out 0
      have z1 := blk_frozen KD.out 1
      gi_wp2_with fail
      have hw12 : w.heap.size + 2 ≤ w1.heap.size := HS3.out
      obtain ⟨X, hX⟩ : ∃ X, (wr.setCell ⟨w.heap.size + 1, 0, none⟩ (Value.int IntKind.i64 l0.length)).setCell ⟨w.heap.size + 1, 1, none⟩ (Value.slice At rows.length ct) = X := ⟨_, rfl⟩
      have hKX : Kept wr X (fun k_ => k_ = w.heap.size + 1) := by
        refine ⟨by rw [← hX, World.size_setCell, World.size_setCell]; exact Nat.le_refl _, fun k_ hk_ hn_ => ?_⟩
        rw [← hX, Below.heap_setCell _ _ _ _ hn_, Below.heap_setCell _ _ _ _ hn_]
      have hXg : X.heap[w.heap.size + 1]? = some (.cells #[.int .i64 l0.length, .slice At rows.length ct] 56 (0, 0)) := hX ▸ blk_put (blk_put KD.out 0 (Value.int IntKind.i64 l0.length) rfl) 1 (Value.slice At rows.length ct) rfl
      have hXB := wb (g := w.heap.size + 1) hX.symm HB.out (by omega)
      have hXS := Kd.S_kept HT.out hKX (fun k_ hk_ e => by omega)
      try rw [hX]
      have c0 := (blk_cell hXg 0).trans rfl
      have c1 := (blk_cell hXg 1).trans rfl
      refine bodyPost_ret (v := .tuple #[.agg #[.int .i64 l0.length, .slice At rows.length ct], .int .i64 0]) ?_ rfl ⟨_, rfl, ?_, hXB⟩
      · simp [results, Tryd.f56, go_sem, c0, c1]
      · have hA3 : rk0 = clO l0.length l0.length 0 rows := by
          have := hA.out
          rw [Nat.sub_self] at this
          exact this
        rw [← hA3]
        exact Kd.S_mono hXS (fun _ _ => trivial)
end Go.Proofs.YtjmkhdhffmlhiaaDoor.PAll
end
section
namespace Go.Proofs.YtjmkhdhffmlhiaaDoor.PAll
set_option linter.unusedVariables false
set_option linter.unusedSimpArgs false
open Go.RowKit Go.Shelf Go.Proofs.YtjmkhdhffmlhiaaDoorW.PrintWords Go.Proofs.YtjmkhdhffmlhiaaDoorW.PrintLast Go.Proofs.YtjmkhdhffmlhiaaDoorW.PrintMore
attribute [local go_sem] Oper.semAt_some
set_option maxHeartbeats 8000000 in
set_option maxRecDepth 100000 in
theorem Closure_no (k : Nat) (n : Int) (A0 : Option Addr) (c0 : Nat) (l0 : List S24) (w : World) (hr0 : Kd.C k24 w A0 l0.length l0) (hc0 : l0.length ≤ c0) (b : Bool) (hb2 : b = true → n ≠ (l0.length : Int)) (hM : bitset_MayTable.f k n l0 = some b) :
    Calls Tryd.prog 56 #[.agg #[.int .i64 n, .slice A0 l0.length c0]] w fun e w' => ∃ v : Value, e = .returned (.tuple #[.agg #[.int .i64 0, v], .int .i64 (if b = true then 60 else 61)]) ∧ Kd.S k24 24 w' w.heap.size (fun _ => True) v [] ∧ Below w.heap.size w w' := by
  have hu24 := Tryd.underlying24
  have hu56 := Tryd.underlying56
  have HC := Aside0.mk hr0
  have HM := Aside0.mk hM
  have HN := Aside0.mk hb2
  clear hr0 hM hb2
  obtain ⟨o1, ho1⟩ : ∃ o1 : Obj, o1 = .cells #[.int .i64 n, .slice A0 l0.length c0] 56 (0, 0) := ⟨_, rfl⟩
  obtain ⟨o2, ho2⟩ : ∃ o2 : Obj, o2 = .cells #[.int .i64 0, .slice none 0 0] 56 (0, 0) := ⟨_, rfl⟩
  have K0 : ((w.alloc o1).alloc o2).heap[w.heap.size]? = some o1 := blk_alloc (blk_new w o1) _
  have K1 : ((w.alloc o1).alloc o2).heap[w.heap.size + 1]? = some o2 := by have := blk_new (w.alloc o1) o2; rwa [World.size_alloc] at this
  have HB0 : Below w.heap.size w ((w.alloc o1).alloc o2) := below_alloc (below_alloc (Below.refl _ _) _) _
  rw [ho1, ho2] at K0 K1 HB0
  clear ho1 ho2 o1 o2
  have KA := Aside0.mk K0
  have KD := Aside0.mk K1
  have HB := Aside0.mk HB0
  clear K0 K1 HB0
  refine (callsIn_wide (n := 6)).1 ?_
  refine callsIn_of_wp Tryd.func56 rfl trivial ?_ rfl
  simp only [Tryd.ntmps56, List.size_toArray, List.length_cons, List.length_nil, Nat.reduceAdd, Nat.reduceSub, Array.replicate_succ, Array.replicate_zero, List.push_toArray, List.append_toArray, List.nil_append, List.cons_append]
  gi_wp2_with fail
  refine ⟨trivial, ?_⟩; gi_at_call 85
  refine (callsIn_wide.2 (bitset_MayTable.calls k n _ _ l0 b _ (Kd.C_alloc (Kd.C_alloc HC.out _) _) hc0 HM.out)).mono ?_
  rintro e w1 ⟨rfl, hb⟩
  have n0_ := Aside0.mk (blk_below KA.out hb); have n2_ := Aside0.mk (blk_below KD.out hb); have n3_ := Aside0.mk (below_step HB.out hb)
  clear KA KD HB hb
  have KA := n0_; have KD := n2_; have HB := n3_
  clear n0_ n2_ n3_
  have q0 := (blk_cell KA.out 0).trans rfl; have q1 := (blk_cell KA.out 1).trans rfl
  have k0 := (blk_cell KD.out 0).trans rfl; have k1 := (blk_cell KD.out 1).trans rfl; have z0 := blk_frozen KD.out 0; have z1 := blk_frozen KD.out 1
  cases b with
  | false =>
    gi_wp2_with fail
    obtain ⟨X, hX⟩ : ∃ X, (World.setCell w1 ⟨w.heap.size + 1, 0, none⟩ (Value.int IntKind.i64 0)).setCell ⟨w.heap.size + 1, 1, none⟩ (Value.slice none 0 0) = X := ⟨_, rfl⟩
    have hXg : X.heap[w.heap.size + 1]? = some (.cells #[.int .i64 0, Value.slice none 0 0] 56 (0, 0)) := hX ▸ blk_put (blk_put KD.out 0 (Value.int IntKind.i64 0) rfl) 1 (Value.slice none 0 0) rfl
    have hXB := wb (g := w.heap.size + 1) hX.symm HB.out (by omega)
    try rw [hX]
    have c0' := (blk_cell hXg 0).trans rfl
    have c1' := (blk_cell hXg 1).trans rfl
    refine bodyPost_ret (v := .tuple #[.agg #[.int .i64 0, .slice none 0 0], .int .i64 61]) ?_ rfl ⟨_, rfl, Kd.S_nil _ _ _ _ _, hXB⟩
    simp [results, Tryd.f56, go_sem, c0', c1']
  | true =>
    gi_wp2_with fail
    refine ⟨trivial, ?_⟩; gi_at_call 87
    refine (callsIn_wide.2 (bitset_square.calls n _ _ l0 false _ (Kd.C_below HC.out HB.out) hc0 (by unfold bitset_square.f; have hne := HN.out (by trivial); simpa using hne))).mono ?_
    rintro e w2 ⟨rfl, hb⟩
    have n2_ := Aside0.mk (blk_below KD.out hb); have n3_ := Aside0.mk (below_step HB.out hb)
    clear KA KD HB hb q0 q1 k0 k1 z0 z1
    have KD := n2_; have HB := n3_
    clear n2_ n3_
    have k0 := (blk_cell KD.out 0).trans rfl; have k1 := (blk_cell KD.out 1).trans rfl; have z0 := blk_frozen KD.out 0; have z1 := blk_frozen KD.out 1
    gi_wp2_with fail
    obtain ⟨X, hX⟩ : ∃ X, (World.setCell w2 ⟨w.heap.size + 1, 0, none⟩ (Value.int IntKind.i64 0)).setCell ⟨w.heap.size + 1, 1, none⟩ (Value.slice none 0 0) = X := ⟨_, rfl⟩
    have hXg : X.heap[w.heap.size + 1]? = some (.cells #[.int .i64 0, Value.slice none 0 0] 56 (0, 0)) := hX ▸ blk_put (blk_put KD.out 0 (Value.int IntKind.i64 0) rfl) 1 (Value.slice none 0 0) rfl
    have hXB := wb (g := w.heap.size + 1) hX.symm HB.out (by omega)
    try rw [hX]
    have c0' := (blk_cell hXg 0).trans rfl
    have c1' := (blk_cell hXg 1).trans rfl
    refine bodyPost_ret (v := .tuple #[.agg #[.int .i64 0, .slice none 0 0], .int .i64 60]) ?_ rfl ⟨_, rfl, Kd.S_nil _ _ _ _ _, hXB⟩
    simp [results, Tryd.f56, go_sem, c0', c1']
def bitset_Closure.f (k : Nat) (a0_0 : Int) (l0_1 : List S24) : Option (Int × List S24 × Int) :=
  if Goods l0_1 ∧ l0_1.length ≤ 9223372036854775807 then (bitset_MayTable.f k a0_0 l0_1).bind fun b => if b = true then
    if a0_0 = (l0_1.length : Int) then (bitset_MakeTable.f k a0_0 l0_1).bind fun t => some (t.1, clO l0_1.length l0_1.length 0 t.2.1, 0) else some (0, [], 60) else some (0, [], 61) else none
theorem makeA_is {n : Nat} : ∀ (l : List S24) (j : Nat) (rows : List S24), j + l.length = rows.length → (∀ s ∈ l, s.f0 = (n : Int)) → (∀ r ∈ rows, r.f0 = (n : Int)) → makeA j l rows = rows.take j ++ l
  | [], j, rows, h, _, _ => by
    rw [List.length_nil, Nat.add_zero] at h
    rw [makeA, h, List.take_length, List.append_nil]
  | s :: l, j, rows, h, hs, hr => by
    simp only [List.length_cons] at h
    have hj : j < rows.length := by omega
    have e : (⟨(rd_T24 rows (j : Int)).f0, s.f1⟩ : S24) = s := S_ext (by rw [rdT_nat rows hj, hr _ (List.getElem_mem hj), hs s List.mem_cons_self]) rfl
    have e2 : makeS j rows s = rows.set j s := by unfold makeS; rw [e]
    rw [makeA, e2, makeA_is l (j + 1) (rows.set j s) (by rw [List.length_set]; omega) (fun x hx => hs x (List.mem_cons_of_mem _ hx)) (fun x hx => by
      rcases List.mem_or_eq_of_mem_set hx with hx | rfl
      · exact hr x hx
      · exact hs _ List.mem_cons_self)]
    rw [List.take_add_one, List.take_set_of_le (by omega)]
    simp [hj]
theorem MakeTable_rows {n m : Nat} (hn : n ≤ 4096) (hm : m ≤ 4096) {p : Nat → Nat → Bool} {l : List S24} (hR : RowsAre n m p l) : Ev (fun k => bitset_MakeTable.f k (m : Int) l) ((m : Int), l, 0) := by
  obtain ⟨hT, hg⟩ := hR.tab hn hm
  have hl : l.length ≤ 9223372036854775807 := by rw [hR.1]; omega
  obtain ⟨r, h1, K, hM⟩ := fit_eq (m : Int) l hl hg
  have hr : r = 0 := h1.eq (.inr (.inr ⟨rfl, fun x hx => (hT.2.2.2 x hx).1, fun x hx => (hT.2.2.2 x hx).2, by omega, by omega⟩))
  subst hr
  obtain ⟨rows, hB, L, hE⟩ := blanks_ev (m := m) (n := l.length) hm (by rw [hR.1]; exact hn)
  refine ⟨K + L, fun k hk => ?_⟩
  have x1 := hM k (by omega)
  have x2 := hE k (by omega)
  dsimp only at x1 x2
  have e : makeA 0 l rows = l := by
    rw [makeA_is (n := m) l 0 rows (by rw [Nat.zero_add, hB.1]) (fun s hs => (hT.2.2.2 s hs).2) (fun r hr => by obtain ⟨i, hi, rfl⟩ := List.getElem_of_mem hr; exact (hB.2 i hi).1)]
    rfl
  show bitset_MakeTable.f k (m : Int) l = _
  unfold bitset_MakeTable.f
  rw [if_pos ⟨hg, hl⟩, x1, Option.bind_some, if_pos rfl, if_neg (by rw [hR.1]; omega), x2, Option.bind_some]
  dsimp only
  rw [e]
theorem RowsAre.rw {n : Nat} {p : Nat → Nat → Bool} {rows : List S24} (h : RowsAre n n p rows) : Rw n rows :=
  ⟨h.1, fun r hr => by obtain ⟨i, hi, rfl⟩ := List.getElem_of_mem hr; exact ⟨(h.2 i hi).2.len, (h.2 i hi).2.wds⟩⟩
theorem bitset_Closure.calls (k : Nat) (a0_0 : Int) (A0_1 : Option Addr) (c0_1 : Nat) (l0_1 : List (S24)) (r1 : Int) (r2 : List (S24)) (r3 : Int) (w : World) (hr0_1 : Kd.C k24 w A0_1 l0_1.length l0_1) (hc0_1 : l0_1.length ≤ c0_1) (h : bitset_Closure.f k a0_0 l0_1 = some (r1, r2, r3)) :
    Calls Tryd.prog 56 #[.agg #[.int .i64 a0_0, .slice A0_1 l0_1.length c0_1]] w fun e w' => ∃ v1_ : Value, e = .returned (.tuple #[.agg #[.int .i64 r1, v1_], .int .i64 r3]) ∧ Kd.S k24 24 w' w.heap.size (fun _ => True) v1_ r2 ∧ Below w.heap.size w w' := by
  unfold bitset_Closure.f at h
  by_cases hg : Goods l0_1 ∧ l0_1.length ≤ 9223372036854775807
  · rw [if_pos hg] at h
    obtain ⟨b, hM, h⟩ := Option.bind_eq_some_iff.1 h
    cases b with
    | true =>
      have hT : TabP a0_0 l0_1 := tabp_true.1 (MayTable_is hg.1 hg.2 hM).symm
      rw [if_pos rfl] at h
      by_cases hn : a0_0 = (l0_1.length : Int)
      · rw [if_pos hn] at h
        obtain ⟨t, hMk, h⟩ := Option.bind_eq_some_iff.1 h
        subst hn
        have hR : RowsAre l0_1.length l0_1.length (fun x j => hb (l0_1.getD x ⟨0, []⟩).f1 j) l0_1 := by have := RowsAre.of hT hg.1; rwa [Int.toNat_natCast] at this
        have ht := Ev.eq (Ev.of (bitset_MakeTable.mono _ _) hMk) (MakeTable_rows hT.2.2.1 hT.2.2.1 hR)
        subst ht
        simp only [Option.some.injEq, Prod.mk.injEq] at h
        obtain ⟨rfl, rfl, rfl⟩ := h
        exact Closure_yes k A0_1 c0_1 l0_1 l0_1 w hr0_1 hc0_1 hT.2.2.1 hM hMk hR.rw
      · rw [if_neg hn] at h
        cases h
        exact Closure_no k a0_0 A0_1 c0_1 l0_1 w hr0_1 hc0_1 true (fun _ => hn) hM
    | false =>
      rw [if_neg (by decide)] at h
      cases h
      exact Closure_no k a0_0 A0_1 c0_1 l0_1 w hr0_1 hc0_1 false (fun h => by cases h) hM
  · rw [if_neg hg] at h; cases h
end Go.Proofs.YtjmkhdhffmlhiaaDoor.PAll
end
section
namespace Go.Proofs.YtjmkhdhffmlhiaaDoor.PAll
open Go.RowKit Go.Proofs.YtjmkhdhffmlhiaaDoorW.PrintWords Go.Proofs.YtjmkhdhffmlhiaaDoorW.PrintLast Go.Proofs.YtjmkhdhffmlhiaaDoorW.PrintMore
attribute [local go_sem] max2_int min2_int max_two min_two max_three min_three max_four min_four w64_u8 w64_mod256   -- for this text's walks alone
set_option linter.unusedVariables false
set_option linter.unusedSimpArgs false
def bitset_two_andNot.j0 : Nat → Unit → Bool → Int → List Int → Int → List Int → Option (Int × List Int × Int)
  | 0, _, _, _, _, _, _ => none
  | k + 1, x2, x15, x102000, x102001, x103000, x103001 => if x15 = true then (some (0, ([] : List Int), 61)) else (if x102000 = x103000 then ((bitset_own.f x102000 x102001).bind fun t106 => ((bitset_fold_andNot.f x102000 t106 (([(⟨x103000, x103001⟩ : S24)] : List (S24))) x2).bind fun bt112 => (some (bt112.1, bt112.2, 0)))) else (some (0, ([] : List Int), 60)))
def bitset_two_andNot.f (k : Nat) (a0_0 : Int) (l0_1 : List Int) (a1_0 : Int) (l1_1 : List Int) (a2 : Unit) : Option (Int × List Int × Int) := (bitset_May.f a0_0 l0_1).bind fun t104 => (if t104 = true then ((bitset_May.f a1_0 l1_1).bind fun t105 => (bitset_two_andNot.j0 k a2 (!t105) a0_0 l0_1 a1_0 l1_1)) else (bitset_two_andNot.j0 k a2 true a0_0 l0_1 a1_0 l1_1))
def bitset_two_andNot.T5 : Bool × List (List Nat × List Nat) := (true, [([], []), ([0], [0]), ([], []), ([2], [2]), ([1, 3], [1, 3]), ([], []), ([5], [5]), ([], []), ([4, 6, 7, 3], [4, 6, 7]), ([8, 8, 0, 1, 2, 3, 4, 5, 6, 7, 8], [8]), ([9, 0, 1, 2, 3, 4, 5, 6, 7, 8, 9], [])])
def bitset_two_andNot.B5 : List Nat := [0, 1, 0, 4, 15, 0, 32, 0, 255, 511, 1023]
theorem bitset_two_andNot.tab5 : rtab .any (opsOf Tryd.f120 5) = bitset_two_andNot.T5 := by kernel_rfl
theorem bitset_two_andNot.bits5 : waitsOk bitset_two_andNot.T5.2 bitset_two_andNot.B5 = true := by kernel_rfl
set_option maxHeartbeats 8000000 in
set_option maxRecDepth 100000 in
theorem bitset_two_andNot.calls (k : Nat) (a0_0 : Int) (A0_1 : Option Addr) (c0_1 : Nat) (l0_1 : List Int) (a1_0 : Int) (P1_1_ : Nat → Prop) (A1_1 : Option Addr) (c1_1 : Nat) (l1_1 : List Int) (a2 : Unit) (r1 : Int) (r2 : List Int) (r3 : Int) (w : World) (hr0_1 : Kd.C (Kd.int .u64) w A0_1 l0_1.length l0_1) (hc0_1 : l0_1.length ≤ c0_1) (hs1_1 : Kd.V (Kd.int .u64) 87 w w.heap.size (fun k_ => P1_1_ k_) (.slice A1_1 l1_1.length c1_1) l1_1) (h : bitset_two_andNot.f k a0_0 l0_1 a1_0 l1_1 a2 = some (r1, r2, r3)) :
    Calls Tryd.prog 120 #[.agg #[.int .i64 a0_0, .slice A0_1 l0_1.length c0_1], .agg #[.int .i64 a1_0, .slice A1_1 l1_1.length c1_1], .func (.func 98) #[] #[]] w fun e w' => ∃ v1_ : Value, e = .returned (.tuple #[.agg #[.int .i64 r1, v1_], .int .i64 r3]) ∧ Kd.R (Kd.int .u64) 87 w' w.heap.size (fun k_ => (w.heap.size ≤ k_)) v1_ r2 ∧ Below w.heap.size w w' := by
  have hu24 := Tryd.underlying24
  have HR0_1 := Aside0.mk hr0_1
  have HC0_1 := Aside0.mk hc0_1
  clear hr0_1 hc0_1
  have HO1_1 := Aside0.mk (show Kd.V (Kd.int .u64) 87 w w.heap.size (fun k_ => (P1_1_ k_ ∨ w.heap.size ≤ k_)) (.slice A1_1 l1_1.length c1_1) l1_1 from Kd.V_mono hs1_1 (fun k_ hk => .inl hk))
  have HB := Aside0.mk (Below.refl w.heap.size w)
  have H : ((bitset_May.f a0_0 l0_1).bind fun t104 => (if t104 = true then ((bitset_May.f a1_0 l1_1).bind fun t105 => (bitset_two_andNot.j0 k a2 (!t105) a0_0 l0_1 a1_0 l1_1)) else (bitset_two_andNot.j0 k a2 true a0_0 l0_1 a1_0 l1_1))) = some (r1, r2, r3) := h
  clear h
  have HC4 := Aside0.mk H
  clear H
  go_enter Tryd.func120, Tryd.ntmps120
  go_upto_region 1 with (first | ((with_reducible refine gate_dst (N := 3) rfl ?_); refine box_event ?hg (N := 3) ?hd (cs := #[.int .i64 a0_0, .slice A0_1 l0_1.length c0_1]) (t := 24) ?hr ?_; (case hd => rfl); (case hg => rfl); (case hr => first | (go_simp; done) | (go_simp; rfl)); intro gb101 hg w5 hbox hb; have n0_ := Aside0.mk (Kd.V_below (Kd.V_elderB (by (with_reducible repeat (first | apply Kd.V_alloc | apply Kd.V_drewN | apply Kd.V_drew)); exact HO1_1.out) gb101 (Nat.le_of_eq hg.symm)) hb); have n1_ := Aside0.mk (below_step (by repeat (first | (with_reducible first | exact HB.out | apply below_alloc | apply pw_below_drewN | apply below_drew1) | exact HB.out)) hb); have n2_ := Aside0.mk (hbox); have n3_ := Aside0.mk ((by rw [hg]; exact (below_size (by repeat (first | (with_reducible first | exact HB.out | apply below_alloc | apply pw_below_drewN | apply below_drew1) | exact HB.out))) : w.heap.size ≤ gb101)); have n4_ := Aside0.mk ((by rw [hg]; exact (below_size (by repeat (first | (with_reducible first | exact HB.out | apply below_alloc | apply pw_below_drewN | apply below_drew1) | exact HB.out))) : w.heap.size ≤ gb101)); clear HO1_1; clear HB; have HO1_1 := n0_; have HB := n1_; have BK101 := n2_; have GW101 := n3_; have GE101 := n4_; clear n0_ n1_ n2_ n3_ n4_; clear hb hbox hg) | ((with_reducible refine gate_dst (N := 4) rfl ?_); refine box_event ?hg (N := 4) ?hd (cs := #[.int .i64 a1_0, .slice A1_1 l1_1.length c1_1]) (t := 24) ?hr ?_; (case hd => rfl); (case hg => rfl); (case hr => first | (go_simp; done) | (go_simp; rfl)); intro gb102 hg w6 hbox hb; have n0_ := Aside0.mk (Kd.V_below (Kd.V_elderB (by (with_reducible repeat (first | apply Kd.V_alloc | apply Kd.V_drewN | apply Kd.V_drew)); exact HO1_1.out) gb102 (Nat.le_of_eq hg.symm)) hb); have n1_ := Aside0.mk (blk_below (g := gb101) (o := .cells #[.int .i64 a0_0, .slice A0_1 l0_1.length c0_1] 24 (0, 0)) (by (with_reducible repeat (first | refine blk_drewN ?_ _ | refine blk_drew ?_ | refine blk_alloc ?_ _)); exact BK101.out) hb); have n2_ := Aside0.mk (below_step (by repeat (first | (with_reducible first | exact HB.out | apply below_alloc | apply pw_below_drewN | apply below_drew1 | refine below_set ?_ GE101.out) | exact HB.out)) hb); have n3_ := Aside0.mk (hbox); have n4_ := Aside0.mk ((by rw [hg]; exact (below_size (by repeat (first | (with_reducible first | exact HB.out | apply below_alloc | apply pw_below_drewN | apply below_drew1 | refine below_set ?_ GE101.out) | exact HB.out))) : w.heap.size ≤ gb102)); have n5_ := Aside0.mk ((by rw [hg]; exact (below_size (by repeat (first | (with_reducible first | exact HB.out | apply below_alloc | apply pw_below_drewN | apply below_drew1 | refine below_set ?_ GE101.out) | exact HB.out))) : w.heap.size ≤ gb102)); have n6_ := Aside0.mk ((by rw [hg]; exact Nat.ne_of_lt (blk_lt (g := gb101) (o := .cells #[.int .i64 a0_0, .slice A0_1 l0_1.length c0_1] 24 (0, 0)) (by (with_reducible repeat (first | refine blk_drewN ?_ _ | refine blk_drew ?_ | refine blk_alloc ?_ _)); exact BK101.out)) : gb101 ≠ gb102)); have n7_ := Aside0.mk ((by rw [hg]; exact Nat.ne_of_gt (blk_lt (g := gb101) (o := .cells #[.int .i64 a0_0, .slice A0_1 l0_1.length c0_1] 24 (0, 0)) (by (with_reducible repeat (first | refine blk_drewN ?_ _ | refine blk_drew ?_ | refine blk_alloc ?_ _)); exact BK101.out)) : gb102 ≠ gb101)); clear HO1_1; clear BK101; clear HB; have HO1_1 := n0_; have BK101 := n1_; have HB := n2_; have BK102 := n3_; have GW102 := n4_; have GE102 := n5_; have NB101_102 := n6_; have NB102_101 := n7_; clear n0_ n1_ n2_ n3_ n4_ n5_ n6_ n7_; clear hb hbox hg) | ((with_reducible refine gate_dst (N := 6) rfl ?_); refine box_event ?hg (N := 6) ?hd (cs := #[.int .i64 0, .slice none 0 0]) (t := 24) ?hr ?_; (case hd => rfl); (case hg => rfl); (case hr => first | (go_simp; done) | (go_simp; rfl)); intro gb103 hg w7 hbox hb; have n0_ := Aside0.mk (Kd.V_below (Kd.V_elderB (by (with_reducible repeat (first | apply Kd.V_alloc | apply Kd.V_drewN | apply Kd.V_drew)); exact HO1_1.out) gb103 (Nat.le_of_eq hg.symm)) hb); have n1_ := Aside0.mk (blk_below (g := gb101) (o := .cells #[.int .i64 a0_0, .slice A0_1 l0_1.length c0_1] 24 (0, 0)) (by (with_reducible repeat (first | refine blk_drewN ?_ _ | refine blk_drew ?_ | refine blk_alloc ?_ _)); exact BK101.out) hb); have n2_ := Aside0.mk (blk_below (g := gb102) (o := .cells #[.int .i64 a1_0, .slice A1_1 l1_1.length c1_1] 24 (0, 0)) (by (with_reducible repeat (first | refine blk_drewN ?_ _ | refine blk_drew ?_ | refine blk_alloc ?_ _)); exact BK102.out) hb); have n3_ := Aside0.mk (below_step (by repeat (first | (with_reducible first | exact HB.out | apply below_alloc | apply pw_below_drewN | apply below_drew1 | refine below_set ?_ GE101.out | refine below_set ?_ GE102.out) | exact HB.out)) hb); have n4_ := Aside0.mk (hbox); have n5_ := Aside0.mk ((by rw [hg]; exact (below_size (by repeat (first | (with_reducible first | exact HB.out | apply below_alloc | apply pw_below_drewN | apply below_drew1 | refine below_set ?_ GE101.out | refine below_set ?_ GE102.out) | exact HB.out))) : w.heap.size ≤ gb103)); have n6_ := Aside0.mk ((by rw [hg]; exact (below_size (by repeat (first | (with_reducible first | exact HB.out | apply below_alloc | apply pw_below_drewN | apply below_drew1 | refine below_set ?_ GE101.out | refine below_set ?_ GE102.out) | exact HB.out))) : w.heap.size ≤ gb103)); have n7_ := Aside0.mk ((by rw [hg]; exact Nat.ne_of_lt (blk_lt (g := gb101) (o := .cells #[.int .i64 a0_0, .slice A0_1 l0_1.length c0_1] 24 (0, 0)) (by (with_reducible repeat (first | refine blk_drewN ?_ _ | refine blk_drew ?_ | refine blk_alloc ?_ _)); exact BK101.out)) : gb101 ≠ gb103)); have n8_ := Aside0.mk ((by rw [hg]; exact Nat.ne_of_gt (blk_lt (g := gb101) (o := .cells #[.int .i64 a0_0, .slice A0_1 l0_1.length c0_1] 24 (0, 0)) (by (with_reducible repeat (first | refine blk_drewN ?_ _ | refine blk_drew ?_ | refine blk_alloc ?_ _)); exact BK101.out)) : gb103 ≠ gb101)); have n9_ := Aside0.mk ((by rw [hg]; exact Nat.ne_of_lt (blk_lt (g := gb102) (o := .cells #[.int .i64 a1_0, .slice A1_1 l1_1.length c1_1] 24 (0, 0)) (by (with_reducible repeat (first | refine blk_drewN ?_ _ | refine blk_drew ?_ | refine blk_alloc ?_ _)); exact BK102.out)) : gb102 ≠ gb103)); have n10_ := Aside0.mk ((by rw [hg]; exact Nat.ne_of_gt (blk_lt (g := gb102) (o := .cells #[.int .i64 a1_0, .slice A1_1 l1_1.length c1_1] 24 (0, 0)) (by (with_reducible repeat (first | refine blk_drewN ?_ _ | refine blk_drew ?_ | refine blk_alloc ?_ _)); exact BK102.out)) : gb103 ≠ gb102)); clear HO1_1; clear BK101; clear BK102; clear HB; have HO1_1 := n0_; have BK101 := n1_; have BK102 := n2_; have HB := n3_; have BK103 := n4_; have GW103 := n5_; have GE103 := n6_; have NB101_103 := n7_; have NB103_101 := n8_; have NB102_103 := n9_; have NB103_102 := n10_; clear n0_ n1_ n2_ n3_ n4_ n5_ n6_ n7_ n8_ n9_ n10_; clear hb hbox hg))
  (try simp only [Act.put, List.setIfInBounds_toArray, List.set_cons_zero, List.set_cons_succ])
  go_cut [15] (fun v15 wc => ∃ (kq : Nat) (x15_3 : Bool), v15 = .bool x15_3 ∧ Aside0 (bitset_two_andNot.j0 kq a2 x15_3 a0_0 l0_1 a1_0 l1_1 = some (r1, r2, r3)) ∧ Aside0 (kq ≤ k) ∧ Aside0 (Kd.V (Kd.int .u64) 87 wc w.heap.size (fun k_ => (P1_1_ k_ ∨ w.heap.size ≤ k_) ∧ k_ ≠ gb101 ∧ k_ ≠ gb102 ∧ k_ ≠ gb103) (.slice A1_1 l1_1.length c1_1) l1_1) ∧ Aside0 (wc.heap[gb101]? = some (.cells #[.int .i64 a0_0, (.slice A0_1 l0_1.length c0_1)] 24 (0, 0))) ∧ Aside0 (wc.heap[gb102]? = some (.cells #[.int .i64 a1_0, (.slice A1_1 l1_1.length c1_1)] 24 (0, 0))) ∧ Aside0 (wc.heap[gb103]? = some (.cells #[.int .i64 0, (.slice none 0 0)] 24 (0, 0))) ∧ Aside0 (Below w.heap.size w wc))
  case first =>
    have H := HC4.out
    clear HC4
    replace H := Option.bind_eq_some_iff.mp H
    obtain ⟨t104, A80, H⟩ := H
    replace H : (if t104 = true then ((bitset_May.f a1_0 l1_1).bind fun t105 => (bitset_two_andNot.j0 k a2 (!t105) a0_0 l0_1 a1_0 l1_1)) else (bitset_two_andNot.j0 k a2 true a0_0 l0_1 a1_0 l1_1)) = some (r1, r2, r3) := H
    have A8 := Aside0.mk A80
    clear A80
    by_cases c9 : t104 = true
    · subst c9
      have H1 : ((bitset_May.f a1_0 l1_1).bind fun t105 => (bitset_two_andNot.j0 k a2 (!t105) a0_0 l0_1 a1_0 l1_1)) = some (r1, r2, r3) := by rw [if_pos rfl] at H; exact H
      clear H
      have H := H1
      clear H1
      replace H := Option.bind_eq_some_iff.mp H
      obtain ⟨t105, A100, H⟩ := H
      replace H : (bitset_two_andNot.j0 k a2 (!t105) a0_0 l0_1 a1_0 l1_1) = some (r1, r2, r3) := H
      have A10 := Aside0.mk A100
      clear A100
      have H' := Aside0.mk H
      clear H
      have hnb11 := NB101_102.out
      have hnc11 := NB102_101.out
      have hnb12 := NB101_103.out
      have hnc12 := NB103_101.out
      have hcz13_0 : w7.cell? ⟨gb101, 0, none⟩ = some (.int .i64 a0_0) := (blk_cell BK101.out 0).trans rfl
      have hcz13_1 : w7.cell? ⟨gb101, 1, none⟩ = some (.slice A0_1 l0_1.length c0_1) := (blk_cell BK101.out 1).trans rfl
      have hfz13_0 := blk_frozen BK101.out 0
      have hfz13_1 := blk_frozen BK101.out 1
      go_wp2_with (first | ((with_reducible refine gate_callee (f := 69) rfl ?_); refine goesL_ (some 9) rfl rfl Tryd.func69 (by kernel_rfl) rfl #[.agg #[.int .i64 a0_0, .slice A0_1 l0_1.length c0_1]] rfl (by (try simp only [List.map_toArray, List.map_cons, List.map_nil]); first | done | rfl | (simp only [List.length_drop, List.length_take]; rfl)) ?_; (with_reducible refine (bitset_May.calls a0_0 _ _ l0_1 true _ ?side1 ?side2 A8.out).mono ?_); (case side1 => repeat (first | exact (Kd.C_below HR0_1.out HB.out) | (with_reducible refine Kd.C_alloc ?_ _) | (with_reducible refine Kd.C_drewN ?_ _) | (with_reducible refine Kd.C_drew ?_))); (case side2 => exact HC0_1.out); rintro e w14 ⟨rfl, hb⟩; refine ⟨_, rfl, ?_⟩; have n0_ := Aside0.mk (Kd.V_below (by (with_reducible repeat (first | apply Kd.V_alloc | apply Kd.V_drewN | apply Kd.V_drew)); exact HO1_1.out) hb); have n1_ := Aside0.mk (blk_below (g := gb101) (o := .cells #[.int .i64 a0_0, .slice A0_1 l0_1.length c0_1] 24 (0, 0)) (by (with_reducible repeat (first | refine blk_drewN ?_ _ | refine blk_drew ?_ | refine blk_alloc ?_ _)); exact BK101.out) hb); have n2_ := Aside0.mk (blk_below (g := gb102) (o := .cells #[.int .i64 a1_0, .slice A1_1 l1_1.length c1_1] 24 (0, 0)) (by (with_reducible repeat (first | refine blk_drewN ?_ _ | refine blk_drew ?_ | refine blk_alloc ?_ _)); exact BK102.out) hb); have n3_ := Aside0.mk (blk_below (g := gb103) (o := .cells #[.int .i64 0, .slice none 0 0] 24 (0, 0)) (by (with_reducible repeat (first | refine blk_drewN ?_ _ | refine blk_drew ?_ | refine blk_alloc ?_ _)); exact BK103.out) hb); have n4_ := Aside0.mk (below_step (by repeat (first | (with_reducible first | exact HB.out | apply below_alloc | apply pw_below_drewN | apply below_drew1 | refine below_set ?_ GE101.out | refine below_set ?_ GE102.out | refine below_set ?_ GE103.out) | exact HB.out)) hb); clear HO1_1; clear BK101; clear BK102; clear BK103; clear HB; have HO1_1 := n0_; have BK101 := n1_; have BK102 := n2_; have BK103 := n3_; have HB := n4_; clear n0_ n1_ n2_ n3_ n4_; (try clear hb); (try clear hb2); (try clear hk); (try clear hi); have hnb15 := NB102_103.out; have hnc15 := NB103_102.out; have hcz16_0 : w14.cell? ⟨gb102, 0, none⟩ = some (.int .i64 a1_0) := (blk_cell BK102.out 0).trans rfl; have hcz16_1 : w14.cell? ⟨gb102, 1, none⟩ = some (.slice A1_1 l1_1.length c1_1) := (blk_cell BK102.out 1).trans rfl; have hfz16_0 := blk_frozen BK102.out 0; have hfz16_1 := blk_frozen BK102.out 1) | (go_at_call 69; (with_reducible refine (bitset_May.calls a1_0 _ _ l1_1 t105 _ ?side1 ?side2 A10.out).mono ?_); (case side1 => repeat (first | exact (Kd.V_reads' HO1_1.out).2.2 | (with_reducible refine Kd.C_alloc ?_ _) | (with_reducible refine Kd.C_drewN ?_ _) | (with_reducible refine Kd.C_drew ?_))); (case side2 => exact (Kd.V_reads' HO1_1.out).2.1); rintro e w17 ⟨rfl, hb⟩; have n0_ := Aside0.mk (Kd.V_below (by (with_reducible repeat (first | apply Kd.V_alloc | apply Kd.V_drewN | apply Kd.V_drew)); exact HO1_1.out) hb); have n1_ := Aside0.mk (blk_below (g := gb101) (o := .cells #[.int .i64 a0_0, .slice A0_1 l0_1.length c0_1] 24 (0, 0)) (by (with_reducible repeat (first | refine blk_drewN ?_ _ | refine blk_drew ?_ | refine blk_alloc ?_ _)); exact BK101.out) hb); have n2_ := Aside0.mk (blk_below (g := gb102) (o := .cells #[.int .i64 a1_0, .slice A1_1 l1_1.length c1_1] 24 (0, 0)) (by (with_reducible repeat (first | refine blk_drewN ?_ _ | refine blk_drew ?_ | refine blk_alloc ?_ _)); exact BK102.out) hb); have n3_ := Aside0.mk (blk_below (g := gb103) (o := .cells #[.int .i64 0, .slice none 0 0] 24 (0, 0)) (by (with_reducible repeat (first | refine blk_drewN ?_ _ | refine blk_drew ?_ | refine blk_alloc ?_ _)); exact BK103.out) hb); have n4_ := Aside0.mk (below_step (by repeat (first | (with_reducible first | exact HB.out | apply below_alloc | apply pw_below_drewN | apply below_drew1 | refine below_set ?_ GE101.out | refine below_set ?_ GE102.out | refine below_set ?_ GE103.out) | exact HB.out)) hb); clear HO1_1; clear BK101; clear BK102; clear BK103; clear HB; have HO1_1 := n0_; have BK101 := n1_; have BK102 := n2_; have BK103 := n3_; have HB := n4_; clear n0_ n1_ n2_ n3_ n4_; (try clear hb); (try clear hb2); (try clear hk); (try clear hi)))
      go_meet
      case rel => exact ⟨_, (!t105), (by first | rfl | (simp; done) | (simp [*]; done)), H', ⟨by first | omega | exact Nat.le_refl _⟩, ⟨by (with_reducible repeat (first | apply Kd.V_alloc | apply Kd.V_drewN | apply Kd.V_drew)); exact Kd.V_mono HO1_1.out (fun _ hk => ⟨hk.1.1.1, ⟨hk.1.1.2, ⟨hk.1.2, hk.2⟩⟩⟩)⟩, ⟨by (with_reducible repeat (first | refine blk_drewN ?_ _ | refine blk_drew ?_ | refine blk_alloc ?_ _)); exact BK101.out⟩, ⟨by (with_reducible repeat (first | refine blk_drewN ?_ _ | refine blk_drew ?_ | refine blk_alloc ?_ _)); exact BK102.out⟩, ⟨by (with_reducible repeat (first | refine blk_drewN ?_ _ | refine blk_drew ?_ | refine blk_alloc ?_ _)); exact BK103.out⟩, ⟨by repeat (first | (with_reducible first | exact HB.out | apply below_alloc | apply pw_below_drewN | apply below_drew1 | refine below_set ?_ GE101.out | refine below_set ?_ GE102.out | refine below_set ?_ GE103.out) | exact HB.out)⟩⟩
    · replace c9 := Bool.eq_false_iff.mpr c9
      subst c9
      have H1 : (bitset_two_andNot.j0 k a2 true a0_0 l0_1 a1_0 l1_1) = some (r1, r2, r3) := by rw [if_neg (show ¬ (false = true) by decide)] at H; exact H
      clear H
      have H := H1
      clear H1
      have H' := Aside0.mk H
      clear H
      have hnb18 := NB101_102.out
      have hnc18 := NB102_101.out
      have hnb19 := NB101_103.out
      have hnc19 := NB103_101.out
      have hcz20_0 : w7.cell? ⟨gb101, 0, none⟩ = some (.int .i64 a0_0) := (blk_cell BK101.out 0).trans rfl
      have hcz20_1 : w7.cell? ⟨gb101, 1, none⟩ = some (.slice A0_1 l0_1.length c0_1) := (blk_cell BK101.out 1).trans rfl
      have hfz20_0 := blk_frozen BK101.out 0
      have hfz20_1 := blk_frozen BK101.out 1
      go_wp2_with (first | ((with_reducible refine gate_callee (f := 69) rfl ?_); refine goesL_ (some 9) rfl rfl Tryd.func69 (by kernel_rfl) rfl #[.agg #[.int .i64 a0_0, .slice A0_1 l0_1.length c0_1]] rfl (by (try simp only [List.map_toArray, List.map_cons, List.map_nil]); first | done | rfl | (simp only [List.length_drop, List.length_take]; rfl)) ?_; (with_reducible refine (bitset_May.calls a0_0 _ _ l0_1 false _ ?side1 ?side2 A8.out).mono ?_); (case side1 => repeat (first | exact (Kd.C_below HR0_1.out HB.out) | (with_reducible refine Kd.C_alloc ?_ _) | (with_reducible refine Kd.C_drewN ?_ _) | (with_reducible refine Kd.C_drew ?_))); (case side2 => exact HC0_1.out); rintro e w21 ⟨rfl, hb⟩; refine ⟨_, rfl, ?_⟩; have n0_ := Aside0.mk (Kd.V_below (by (with_reducible repeat (first | apply Kd.V_alloc | apply Kd.V_drewN | apply Kd.V_drew)); exact HO1_1.out) hb); have n1_ := Aside0.mk (blk_below (g := gb101) (o := .cells #[.int .i64 a0_0, .slice A0_1 l0_1.length c0_1] 24 (0, 0)) (by (with_reducible repeat (first | refine blk_drewN ?_ _ | refine blk_drew ?_ | refine blk_alloc ?_ _)); exact BK101.out) hb); have n2_ := Aside0.mk (blk_below (g := gb102) (o := .cells #[.int .i64 a1_0, .slice A1_1 l1_1.length c1_1] 24 (0, 0)) (by (with_reducible repeat (first | refine blk_drewN ?_ _ | refine blk_drew ?_ | refine blk_alloc ?_ _)); exact BK102.out) hb); have n3_ := Aside0.mk (blk_below (g := gb103) (o := .cells #[.int .i64 0, .slice none 0 0] 24 (0, 0)) (by (with_reducible repeat (first | refine blk_drewN ?_ _ | refine blk_drew ?_ | refine blk_alloc ?_ _)); exact BK103.out) hb); have n4_ := Aside0.mk (below_step (by repeat (first | (with_reducible first | exact HB.out | apply below_alloc | apply pw_below_drewN | apply below_drew1 | refine below_set ?_ GE101.out | refine below_set ?_ GE102.out | refine below_set ?_ GE103.out) | exact HB.out)) hb); clear HO1_1; clear BK101; clear BK102; clear BK103; clear HB; have HO1_1 := n0_; have BK101 := n1_; have BK102 := n2_; have BK103 := n3_; have HB := n4_; clear n0_ n1_ n2_ n3_ n4_; (try clear hb); (try clear hb2); (try clear hk); (try clear hi)))
      go_meet
      case rel => exact ⟨_, (true), (by first | rfl | (simp; done) | (simp [*]; done)), H', ⟨by first | omega | exact Nat.le_refl _⟩, ⟨by (with_reducible repeat (first | apply Kd.V_alloc | apply Kd.V_drewN | apply Kd.V_drew)); exact Kd.V_mono HO1_1.out (fun _ hk => ⟨hk.1.1.1, ⟨hk.1.1.2, ⟨hk.1.2, hk.2⟩⟩⟩)⟩, ⟨by (with_reducible repeat (first | refine blk_drewN ?_ _ | refine blk_drew ?_ | refine blk_alloc ?_ _)); exact BK101.out⟩, ⟨by (with_reducible repeat (first | refine blk_drewN ?_ _ | refine blk_drew ?_ | refine blk_alloc ?_ _)); exact BK102.out⟩, ⟨by (with_reducible repeat (first | refine blk_drewN ?_ _ | refine blk_drew ?_ | refine blk_alloc ?_ _)); exact BK103.out⟩, ⟨by repeat (first | (with_reducible first | exact HB.out | apply below_alloc | apply pw_below_drewN | apply below_drew1 | refine below_set ?_ GE101.out | refine below_set ?_ GE102.out | refine below_set ?_ GE103.out) | exact HB.out)⟩⟩
  case rest =>
    clear HC4
    try clear c1
    try clear p2
    try clear c6
    try clear c9
    try clear c11
    try clear c12
    try clear c15
    try clear c16
    try clear c18
    try clear c19
    try clear hcz13_0
    try clear hcz13_1
    try clear hcz16_0
    try clear hcz16_1
    try clear hcz20_0
    try clear hcz20_1
    try clear hfz13_0
    try clear hfz13_1
    try clear hfz16_0
    try clear hfz16_1
    try clear hfz20_0
    try clear hfz20_1
    obtain ⟨kq, x15_3, rfl, HA, HJ3, HO_103001, BK101, BK102, BK103, HB⟩ := hcut
    cases kq with
    | zero => exact absurd HA.out (by simp [bitset_two_andNot.j0])
    | succ kj3 =>
      have H := HA.out
      clear HA
      simp only [bitset_two_andNot.j0] at H
      by_cases c22 : x15_3 = true
      · subst c22
        have H1 : (some (0, ([] : List Int), 61)) = some (r1, r2, r3) := by rw [if_pos rfl] at H; exact H
        clear H
        have H := H1
        clear H1
        simp only [Option.some.injEq, Prod.mk.injEq] at H
        obtain ⟨rfl, rfl, rfl⟩ := H
        have hnb23 := NB103_101.out
        have hnc23 := NB101_103.out
        have hnb24 := NB103_102.out
        have hnc24 := NB102_103.out
        have hcz25_0 : wc.cell? ⟨gb103, 0, none⟩ = some (.int .i64 0) := (blk_cell BK103.out 0).trans rfl
        have hcz25_1 : wc.cell? ⟨gb103, 1, none⟩ = some (.slice none 0 0) := (blk_cell BK103.out 1).trans rfl
        have hfz25_0 := blk_frozen BK103.out 0
        have hfz25_1 := blk_frozen BK103.out 1
        go_wp2
        refine bodyPost_ret (results_ct rfl _ _ gb103 24 #[.int .i64 0, .slice none 0 0] (0, 0) _ rfl (by (with_reducible repeat (first | refine blk_drewN ?_ _ | refine blk_drew ?_ | refine blk_alloc ?_ _)); refine blk_put (cs := #[.int .i64 0, .slice none 0 0]) ?_ 1 _ rfl; (with_reducible repeat (first | refine blk_drewN ?_ _ | refine blk_drew ?_ | refine blk_alloc ?_ _)); refine blk_put (cs := #[.int .i64 0, .slice none 0 0]) ?_ 0 _ rfl; (with_reducible repeat (first | refine blk_drewN ?_ _ | refine blk_drew ?_ | refine blk_alloc ?_ _)); exact BK103.out) Tryd.underlying24 rfl (by kernel_rfl)) rfl ?_
        exact ⟨_, by first | rfl | (simp [errW_none, errW_some] <;> rfl) | (simp [*, errW_none, errW_some] <;> rfl), by first | exact Kd.R_nil _ _ _ _ _ | exact Kd.N_nil _ _ _ _ _ | exact Kd.V_nil _ _ _ _ _ | exact Kd.Q_nil _ _ _ _ _ | exact Kd.S_nil _ _ _ _ _, by repeat (first | (with_reducible first | exact HB.out | apply below_alloc | apply pw_below_drewN | apply below_drew1 | refine below_set ?_ GE101.out | refine below_set ?_ GE102.out | refine below_set ?_ GE103.out) | exact HB.out)⟩
      · replace c22 := Bool.eq_false_iff.mpr c22
        subst c22
        have H1 : (if a0_0 = a1_0 then ((bitset_own.f a0_0 l0_1).bind fun t106 => ((bitset_fold_andNot.f a0_0 t106 (([(⟨a1_0, l1_1⟩ : S24)] : List (S24))) a2).bind fun bt112 => (some (bt112.1, bt112.2, 0)))) else (some (0, ([] : List Int), 60))) = some (r1, r2, r3) := by rw [if_neg (show ¬ (false = true) by decide)] at H; exact H
        clear H
        have H := H1
        clear H1
        by_cases c26 : a0_0 = a1_0
        · rw [if_pos c26] at H
          have c26b0 : (a0_0 == a1_0) = true := beq_iff_eq.mpr c26
          have c26b1 : (a0_0 != a1_0) = false := bne_eq_false_iff_eq.mpr c26
          clear c26
          replace H := Option.bind_eq_some_iff.mp H
          obtain ⟨t106, A270, H⟩ := H
          replace H : ((bitset_fold_andNot.f a0_0 t106 (([(⟨a1_0, l1_1⟩ : S24)] : List (S24))) a2).bind fun bt112 => (some (bt112.1, bt112.2, 0))) = some (r1, r2, r3) := H
          have A27 := Aside0.mk A270
          clear A270
          obtain ⟨y109, hy109⟩ : ∃ y_ : List (S24), y_ = (([(⟨a1_0, l1_1⟩ : S24)] : List (S24))) := ⟨_, rfl⟩
          replace H : ((bitset_fold_andNot.f a0_0 t106 y109 a2).bind fun bt112 => (some (bt112.1, bt112.2, 0))) = some (r1, r2, r3) := by first | (rw [hy109]; with_reducible exact H) | (have H2_ := (Option.bind_some _ _).symm.trans H; rw [hy109]; with_reducible exact H2_) | (have H2_ := (Option.bind_some _ _).symm.trans H; with_reducible exact H2_) | with_reducible exact H | (rw [hy109]; exact H) | exact H
          have Ny109 := Aside0.mk hy109
          clear hy109
          replace H := Option.bind_eq_some_iff.mp H
          obtain ⟨⟨t112, t113⟩, A280, H⟩ := H
          replace H : (some (t112, t113, 0)) = some (r1, r2, r3) := H
          have A28 := Aside0.mk A280
          clear A280
          simp only [Option.some.injEq, Prod.mk.injEq] at H
          obtain ⟨rfl, rfl, rfl⟩ := H
          have hnb29 := NB101_102.out
          have hnc29 := NB102_101.out
          have hnb30 := NB101_103.out
          have hnc30 := NB103_101.out
          have hcz31_0 : wc.cell? ⟨gb101, 0, none⟩ = some (.int .i64 a0_0) := (blk_cell BK101.out 0).trans rfl
          have hcz31_1 : wc.cell? ⟨gb101, 1, none⟩ = some (.slice A0_1 l0_1.length c0_1) := (blk_cell BK101.out 1).trans rfl
          have hfz31_0 := blk_frozen BK101.out 0
          have hfz31_1 := blk_frozen BK101.out 1
          have hnb32 := NB102_103.out
          have hnc32 := NB103_102.out
          have hcz33_0 : wc.cell? ⟨gb102, 0, none⟩ = some (.int .i64 a1_0) := (blk_cell BK102.out 0).trans rfl
          have hcz33_1 : wc.cell? ⟨gb102, 1, none⟩ = some (.slice A1_1 l1_1.length c1_1) := (blk_cell BK102.out 1).trans rfl
          have hfz33_0 := blk_frozen BK102.out 0
          have hfz33_1 := blk_frozen BK102.out 1
          try go_wp2
          have n0_ := Aside0.mk (Kd.V_drew HO_103001.out)
          have n1_ := Aside0.mk (blk_drew BK101.out)
          have n2_ := Aside0.mk (blk_drew BK102.out)
          have n3_ := Aside0.mk (blk_drew BK103.out)
          have n4_ := Aside0.mk (below_drew1 HB.out)
          clear HO_103001
          clear BK101
          clear BK102
          clear BK103
          clear HB
          have HO_103001 := n0_
          have BK101 := n1_
          have BK102 := n2_
          have BK103 := n3_
          have HB := n4_
          clear n0_ n1_ n2_ n3_ n4_
          refine start_ (n := 11) (S := fun w' => w'.cell? ⟨gb101, 0, none⟩ = some (.int .i64 a0_0) ∧ w'.cell? ⟨gb101, 1, none⟩ = some (.slice A0_1 l0_1.length c0_1) ∧ w'.cell? ⟨gb102, 0, none⟩ = some (.int .i64 a1_0) ∧ w'.cell? ⟨gb102, 1, none⟩ = some (.slice A1_1 l1_1.length c1_1)) (ds := []) #[false, false, false, false, false, false, false, false, false, false, false] (by kernel_rfl) rfl rfl ⟨(blk_cell BK101.out 0).trans rfl, (blk_cell BK101.out 1).trans rfl, (blk_cell BK102.out 0).trans rfl, (blk_cell BK102.out 1).trans rfl⟩ (fun hHeld => ?_); refine with_tabW bitset_two_andNot.tab5 bitset_two_andNot.bits5 (fun HT_ HW_ => ?_)
          generalize wc.drew = w34 at HO_103001 BK101 BK102 BK103 HB hHeld ⊢
          refine pure_ (i := 0) (N := some 23) (v := ?_) (a' := ?_) #[true, false, false, false, false, false, false, false, false, false, false] rfl rfl (any_of HT_.out (by kernel_rfl)) (fun _ _ _ h => h) (Or.inl ⟨by rfl, ?_⟩) ?_ ?_
          rotate_left
          · intro w'
            go_simp
            with_reducible rfl
          rotate_left
          · simp only [Act.put, List.setIfInBounds_toArray, List.set_cons_zero, List.set_cons_succ, i64_w, i32_w]
            rfl
          refine pure_ (i := 7) (N := some 30) (v := ?_) (a' := ?_) #[true, false, false, false, false, false, false, true, false, false, false] rfl rfl (any_of HT_.out (by kernel_rfl)) (fun _ _ _ h => h) (Or.inl ⟨by rfl, ?_⟩) ?_ ?_
          rotate_left
          · intro w'
            go_simp
            with_reducible rfl
          rotate_left
          · simp only [Act.put, List.setIfInBounds_toArray, List.set_cons_zero, List.set_cons_succ, i64_w, i32_w]
            rfl
          refine take_ (i := 1) (N := some 24) (v := ?_) (a' := ?_) #[true, true, false, false, false, false, false, true, false, false, false] rfl rfl (take_ofW HT_.out HW_.out (by kernel_rfl)) (fun _ _ _ h => h) (Or.inl ⟨by rfl, ?_⟩) hHeld ?_ ?_
          rotate_left
          · rintro w' ⟨s0, s1, s2, s3⟩
            go_simp
            with_reducible rfl
          rotate_left
          · simp only [Act.put, List.setIfInBounds_toArray, List.set_cons_zero, List.set_cons_succ, i64_w, i32_w]
            rfl
          refine take_ (i := 2) (N := some 25) (v := ?_) (a' := ?_) #[true, true, true, false, false, false, false, true, false, false, false] rfl rfl (take_ofW HT_.out HW_.out (by kernel_rfl)) (fun _ _ _ h => h) (Or.inl ⟨by rfl, ?_⟩) hHeld ?_ ?_
          rotate_left
          · rintro w' ⟨s0, s1, s2, s3⟩
            go_simp
            with_reducible rfl
          rotate_left
          · simp only [Act.put, List.setIfInBounds_toArray, List.set_cons_zero, List.set_cons_succ, i64_w, i32_w]
            rfl
          refine take_ (i := 5) (N := some 28) (v := ?_) (a' := ?_) #[true, true, true, false, false, true, false, true, false, false, false] rfl rfl (take_ofW HT_.out HW_.out (by kernel_rfl)) (fun _ _ _ h => h) (Or.inl ⟨by rfl, ?_⟩) hHeld ?_ ?_
          rotate_left
          · rintro w' ⟨s0, s1, s2, s3⟩
            go_simp
            with_reducible rfl
          rotate_left
          · simp only [Act.put, List.setIfInBounds_toArray, List.set_cons_zero, List.set_cons_succ, i64_w, i32_w]
            rfl
          refine join_ (σ := Value × Value) 3 #[true, true, true, true, true, true, true, true, false, false, false] (fun s_ => [(26, s_.1), (29, s_.2), (27, .agg #[.int .i64 a0_0, s_.1])]) (fun s_ w' => (w'.cell? ⟨gb101, 0, none⟩ = some (.int .i64 a0_0) ∧ w'.cell? ⟨gb101, 1, none⟩ = some (.slice A0_1 l0_1.length c0_1) ∧ w'.cell? ⟨gb102, 0, none⟩ = some (.int .i64 a1_0) ∧ w'.cell? ⟨gb102, 1, none⟩ = some (.slice A1_1 l1_1.length c1_1)) ∧ (Kd.R (Kd.int .u64) 87 w' w.heap.size (fun k_ => (w.heap.size ≤ k_)) s_.1 t106) ∧ (Kd.N k24 24 w' w.heap.size (fun k_ => (P1_1_ k_ ∨ w.heap.size ≤ k_) ∧ some k_ ≠ (s_.1 : Value).ownBlock ∧ k_ ≠ gb101 ∧ k_ ≠ gb102 ∧ k_ ≠ gb103) s_.2 y109) ∧ (Kd.V (Kd.int .u64) 87 w' w.heap.size (fun k_ => (P1_1_ k_ ∨ w.heap.size ≤ k_) ∧ some k_ ≠ (s_.1 : Value).ownBlock ∧ some k_ ≠ (s_.2 : Value).ownBlock ∧ k_ ≠ gb101 ∧ k_ ≠ gb102 ∧ k_ ≠ gb103) (.slice A1_1 l1_1.length c1_1) l1_1) ∧ (w'.heap[gb101]? = some (.cells #[.int .i64 a0_0, .slice A0_1 l0_1.length c0_1] 24 (0, 0))) ∧ (w'.heap[gb102]? = some (.cells #[.int .i64 a1_0, .slice A1_1 l1_1.length c1_1] 24 (0, 0))) ∧ (w'.heap[gb103]? = some (.cells #[.int .i64 0, .slice none 0 0] 24 (0, 0))) ∧ (Below w.heap.size w w')) ?_ ?_
          rotate_left
          · intro hCont
            refine two_ (i := 3) (j := 6) (Ni := some 26) (Nj := some 29) #[true, true, true, true, false, true, false, true, false, false, false] #[true, true, true, false, false, true, true, true, false, false, false] rfl rfl rfl rfl (two_of HT_.out (by kernel_rfl)) (by decide) (by decide) (fun K hK => ?_) (fun K hK => ?_)
            · skip
              refine goes_ Tryd.func81 (by kernel_rfl) rfl #[.agg #[.int .i64 a0_0, .slice A0_1 l0_1.length c0_1]] (by rfl) rfl rfl (by (try simp only [List.map_toArray, List.map_cons, List.map_nil]); first | done | rfl | (simp only [List.length_drop, List.length_take]; rfl)) ?_
              with_reducible refine (bitset_own.calls a0_0 _ _ l0_1 t106 _ ?side1 ?side2 A27.out).mono ?_
              (case side1 => repeat (first | exact (Kd.C_below HR0_1.out HB.out) | (with_reducible refine Kd.C_alloc ?_ _) | (with_reducible refine Kd.C_drewN ?_ _) | (with_reducible refine Kd.C_drew ?_)))
              (case side2 => exact HC0_1.out)
              rintro e w35 ⟨v107, rfl, ho0, hb⟩
              refine ⟨_, rfl, ?_⟩
              have n0_ := Aside0.mk (Kd.V_elder' (by (with_reducible repeat (first | apply Kd.V_alloc | apply Kd.V_drewN | apply Kd.V_drew)); exact HO_103001.out) (Kd.R_base ho0) hb)
              have n1_ := Aside0.mk (Kd.R_lower (Kd.R_newM (M := fun k_ => (w.heap.size ≤ k_)) ho0 (below_size (by repeat (first | (with_reducible first | exact HB.out | apply below_alloc | apply pw_below_drewN | apply below_drew1 | refine below_set ?_ GE101.out | refine below_set ?_ GE102.out | refine below_set ?_ GE103.out) | exact HB.out))) (fun k_ h_ => h_)) (below_size (by repeat (first | (with_reducible first | exact HB.out | apply below_alloc | apply pw_below_drewN | apply below_drew1 | refine below_set ?_ GE101.out | refine below_set ?_ GE102.out | refine below_set ?_ GE103.out) | exact HB.out))))
              have n2_ := Aside0.mk (blk_below (g := gb101) (o := .cells #[.int .i64 a0_0, .slice A0_1 l0_1.length c0_1] 24 (0, 0)) (by (with_reducible repeat (first | refine blk_drewN ?_ _ | refine blk_drew ?_ | refine blk_alloc ?_ _)); exact BK101.out) hb)
              have n3_ := Aside0.mk (blk_below (g := gb102) (o := .cells #[.int .i64 a1_0, .slice A1_1 l1_1.length c1_1] 24 (0, 0)) (by (with_reducible repeat (first | refine blk_drewN ?_ _ | refine blk_drew ?_ | refine blk_alloc ?_ _)); exact BK102.out) hb)
              have n4_ := Aside0.mk (blk_below (g := gb103) (o := .cells #[.int .i64 0, .slice none 0 0] 24 (0, 0)) (by (with_reducible repeat (first | refine blk_drewN ?_ _ | refine blk_drew ?_ | refine blk_alloc ?_ _)); exact BK103.out) hb)
              have n5_ := Aside0.mk (below_step (by repeat (first | (with_reducible first | exact HB.out | apply below_alloc | apply pw_below_drewN | apply below_drew1 | refine below_set ?_ GE101.out | refine below_set ?_ GE102.out | refine below_set ?_ GE103.out) | exact HB.out)) hb)
              clear HO_103001
              clear BK101
              clear BK102
              clear BK103
              clear HB
              have HO_103001 := n0_
              have HO108 := n1_
              have BK101 := n2_
              have BK102 := n3_
              have BK103 := n4_
              have HB := n5_
              clear n0_ n1_ n2_ n3_ n4_ n5_
              (try clear hb)
              (try clear hb2)
              (try clear hk)
              (try clear hi)
              (try clear ho0)
              obtain ⟨Ao36, co36, eo36⟩ := Kd.R_slice HO108.out
              (first | subst eo36 | (injection eo36 with f1_ f2_ f3_; have f4_ := f1_.symm; have f5_ := f3_.symm; clear f1_ f2_ f3_; subst f4_; subst f5_))
              refine hK.out _ _ ⟨(blk_cell BK101.out 0).trans rfl, (blk_cell BK101.out 1).trans rfl, (blk_cell BK102.out 0).trans rfl, (blk_cell BK102.out 1).trans rfl⟩ (fun hHeld => ?_)
              clear hK K
              refine norm_ (a' := ?_) ?_ ?_
              rotate_left
              · show Act.put _ (some 26) _ = _
                simp only [Act.put, List.setIfInBounds_toArray, List.set_cons_zero, List.set_cons_succ, i64_w, i32_w]
                rfl
              refine pure_ (i := 4) (N := some 27) (v := ?_) (a' := ?_) #[true, true, true, true, true, true, false, true, false, false, false] rfl rfl (any_of HT_.out (by kernel_rfl)) (fun _ _ _ h => h) (Or.inl ⟨by rfl, ?_⟩) ?_ ?_
              rotate_left
              · intro w'
                go_simp
                with_reducible rfl
              rotate_left
              · simp only [Act.put, List.setIfInBounds_toArray, List.set_cons_zero, List.set_cons_succ, i64_w, i32_w]
                rfl
              refine one_ (i := 6) (N := some 29) #[true, true, true, true, true, true, true, true, false, false, false] rfl rfl (one_of HT_.out (by kernel_rfl)) (by decide) (fun K hK => ?_)
              refine Kd.N_lit_step k24 _ 24 ?hg (N' := 29) ?hd (xs := ([(⟨a1_0, l1_1⟩ : S24)] : List (S24))) (inner := [.int .i64 a1_0, .slice A1_1 l1_1.length c1_1]) (ok := (fun k_ => (P1_1_ k_ ∨ w.heap.size ≤ k_) ∧ some k_ ≠ (.slice Ao36 t106.length co36 : Value).ownBlock ∧ k_ ≠ gb101 ∧ k_ ≠ gb102 ∧ k_ ≠ gb103)) (okp := (fun k_ => (P1_1_ k_ ∨ w.heap.size ≤ k_) ∧ some k_ ≠ (.slice Ao36 t106.length co36 : Value).ownBlock ∧ k_ ≠ gb101 ∧ k_ ≠ gb102 ∧ k_ ≠ gb103)) ?hr ?hp (fun _ hk => hk) ((show ∀ k_, w35.heap.size ≤ k_ → (fun k_ => (P1_1_ k_ ∨ w.heap.size ≤ k_) ∧ some k_ ≠ (.slice Ao36 t106.length co36 : Value).ownBlock ∧ k_ ≠ gb101 ∧ k_ ≠ gb102 ∧ k_ ≠ gb103) k_ from fun k_ hk => ⟨(.inr (Nat.le_trans (below_size (by repeat (first | (with_reducible first | exact HB.out | apply below_alloc | apply pw_below_drewN | apply below_drew1 | refine below_set ?_ GE101.out | refine below_set ?_ GE102.out | refine below_set ?_ GE103.out) | exact HB.out))) hk)), Kd.fresh' (Kd.R_lt (by (with_reducible repeat (first | apply Kd.R_alloc | apply Kd.R_drewN | apply Kd.R_drew)); exact HO108.out)) k_ hk, Kd.freshB (g := gb101) (o := .cells #[.int .i64 a0_0, .slice A0_1 l0_1.length c0_1] 24 (0, 0)) (by (with_reducible repeat (first | refine blk_drewN ?_ _ | refine blk_drew ?_ | refine blk_alloc ?_ _)); exact BK101.out) k_ hk, Kd.freshB (g := gb102) (o := .cells #[.int .i64 a1_0, .slice A1_1 l1_1.length c1_1] 24 (0, 0)) (by (with_reducible repeat (first | refine blk_drewN ?_ _ | refine blk_drew ?_ | refine blk_alloc ?_ _)); exact BK102.out) k_ hk, Kd.freshB (g := gb103) (o := .cells #[.int .i64 0, .slice none 0 0] 24 (0, 0)) (by (with_reducible repeat (first | refine blk_drewN ?_ _ | refine blk_drew ?_ | refine blk_alloc ?_ _)); exact BK103.out) k_ hk⟩) _ (Nat.le_refl _)) (Below.refl _ _) (Nat.le_refl _) (by simp) ?_; (case hd => rfl); (case hg => rfl); (case hr => first | (go_simp; done) | (go_simp; rfl)); (case hp => exact (Reps.c2 (show Kd.FK k24 _ _ (⟨a1_0, l1_1⟩ : S24) [.int .i64 a1_0, .slice A1_1 l1_1.length c1_1] from (k24_mkF _ _ (⟨a1_0, l1_1⟩ : S24) (Kd.V_reads' (Kd.V_mono (ok' := (fun k_ => (P1_1_ k_ ∨ w.heap.size ≤ k_) ∧ some k_ ≠ (.slice Ao36 t106.length co36 : Value).ownBlock ∧ k_ ≠ gb101 ∧ k_ ≠ gb102 ∧ k_ ≠ gb103)) (HO_103001.out) (fun k_ hk => ⟨hk.1.1, ⟨hk.2, ⟨hk.1.2.1, ⟨hk.1.2.2.1, hk.1.2.2.2⟩⟩⟩⟩))).2.1 (Kd.V_F (Kd.V_mono (ok' := (fun k_ => (P1_1_ k_ ∨ w.heap.size ≤ k_) ∧ some k_ ≠ (.slice Ao36 t106.length co36 : Value).ownBlock ∧ k_ ≠ gb101 ∧ k_ ≠ gb102 ∧ k_ ≠ gb103)) (HO_103001.out) (fun k_ hk => ⟨hk.1.1, ⟨hk.2, ⟨hk.1.2.1, ⟨hk.1.2.2.1, hk.1.2.2.2⟩⟩⟩⟩))))) (Reps.none _ _)))
              intro v110 w37 ho38 hb hg_ hnew_
              clear hg_ hnew_
              (first | rw [← Ny109.out] at ho38 | (simp only [Int.reduceToNat] at ho38; rw [← Ny109.out] at ho38))
              have n0_ := Aside0.mk (Kd.V_elder' (by (with_reducible repeat (first | apply Kd.V_alloc | apply Kd.V_drewN | apply Kd.V_drew)); exact HO_103001.out) (Kd.N_base ho38) hb)
              have n1_ := Aside0.mk (Kd.R_below (by (with_reducible repeat (first | apply Kd.R_alloc | apply Kd.R_drewN | apply Kd.R_drew)); exact HO108.out) hb)
              have n2_ := Aside0.mk (Kd.N_lower ho38 (below_size (by repeat (first | (with_reducible first | exact HB.out | apply below_alloc | apply pw_below_drewN | apply below_drew1 | refine below_set ?_ GE101.out | refine below_set ?_ GE102.out | refine below_set ?_ GE103.out) | exact HB.out))))
              have n3_ := Aside0.mk (blk_below (g := gb101) (o := .cells #[.int .i64 a0_0, .slice A0_1 l0_1.length c0_1] 24 (0, 0)) (by (with_reducible repeat (first | refine blk_drewN ?_ _ | refine blk_drew ?_ | refine blk_alloc ?_ _)); exact BK101.out) hb)
              have n4_ := Aside0.mk (blk_below (g := gb102) (o := .cells #[.int .i64 a1_0, .slice A1_1 l1_1.length c1_1] 24 (0, 0)) (by (with_reducible repeat (first | refine blk_drewN ?_ _ | refine blk_drew ?_ | refine blk_alloc ?_ _)); exact BK102.out) hb)
              have n5_ := Aside0.mk (blk_below (g := gb103) (o := .cells #[.int .i64 0, .slice none 0 0] 24 (0, 0)) (by (with_reducible repeat (first | refine blk_drewN ?_ _ | refine blk_drew ?_ | refine blk_alloc ?_ _)); exact BK103.out) hb)
              have n6_ := Aside0.mk (below_step (by repeat (first | (with_reducible first | exact HB.out | apply below_alloc | apply pw_below_drewN | apply below_drew1 | refine below_set ?_ GE101.out | refine below_set ?_ GE102.out | refine below_set ?_ GE103.out) | exact HB.out)) hb)
              clear HO_103001
              clear HO108
              clear BK101
              clear BK102
              clear BK103
              clear HB
              have HO_103001 := n0_
              have HO108 := n1_
              have HO111 := n2_
              have BK101 := n3_
              have BK102 := n4_
              have BK103 := n5_
              have HB := n6_
              clear n0_ n1_ n2_ n3_ n4_ n5_ n6_
              clear hb ho38
              refine hK.out _ _ ⟨(blk_cell BK101.out 0).trans rfl, (blk_cell BK101.out 1).trans rfl, (blk_cell BK102.out 0).trans rfl, (blk_cell BK102.out 1).trans rfl⟩ (fun hHeld => ?_)
              clear hK K
              refine norm_ (a' := ?_) ?_ ?_
              rotate_left
              · show Act.put _ (some 29) _ = _
                simp only [Act.put, List.setIfInBounds_toArray, List.set_cons_zero, List.set_cons_succ, i64_w, i32_w]
                rfl
              exact norm_ (by simp only [putAll, Act.put, List.setIfInBounds_toArray, List.set_cons_zero, List.set_cons_succ]) (hCont (.slice Ao36 t106.length co36, v110) _ ⟨hHeld, (by (with_reducible repeat (first | apply Kd.R_alloc | apply Kd.R_drewN | apply Kd.R_drew)); exact Kd.R_mono HO108.out (fun _ hk => hk.1)), (by (with_reducible repeat (first | apply Kd.N_alloc | apply Kd.N_drewN | apply Kd.N_drew)); exact HO111.out), (by (with_reducible repeat (first | apply Kd.V_alloc | apply Kd.V_drewN | apply Kd.V_drew)); exact Kd.V_mono HO_103001.out (fun _ hk => ⟨hk.1.1.1, ⟨hk.1.2, ⟨hk.2, ⟨hk.1.1.2.1, ⟨hk.1.1.2.2.1, hk.1.1.2.2.2⟩⟩⟩⟩⟩)), (by (with_reducible repeat (first | refine blk_drewN ?_ _ | refine blk_drew ?_ | refine blk_alloc ?_ _)); exact BK101.out), (by (with_reducible repeat (first | refine blk_drewN ?_ _ | refine blk_drew ?_ | refine blk_alloc ?_ _)); exact BK102.out), (by (with_reducible repeat (first | refine blk_drewN ?_ _ | refine blk_drew ?_ | refine blk_alloc ?_ _)); exact BK103.out), (by repeat (first | (with_reducible first | exact HB.out | apply below_alloc | apply pw_below_drewN | apply below_drew1 | refine below_set ?_ GE101.out | refine below_set ?_ GE102.out | refine below_set ?_ GE103.out) | exact HB.out))⟩)
            · skip
              refine Kd.N_lit_step k24 _ 24 ?hg (N' := 29) ?hd (xs := ([(⟨a1_0, l1_1⟩ : S24)] : List (S24))) (inner := [.int .i64 a1_0, .slice A1_1 l1_1.length c1_1]) (ok := (fun k_ => (P1_1_ k_ ∨ w.heap.size ≤ k_) ∧ k_ ≠ gb101 ∧ k_ ≠ gb102 ∧ k_ ≠ gb103)) (okp := (fun k_ => (P1_1_ k_ ∨ w.heap.size ≤ k_) ∧ k_ ≠ gb101 ∧ k_ ≠ gb102 ∧ k_ ≠ gb103)) ?hr ?hp (fun _ hk => hk) ((show ∀ k_, w34.heap.size ≤ k_ → (fun k_ => (P1_1_ k_ ∨ w.heap.size ≤ k_) ∧ k_ ≠ gb101 ∧ k_ ≠ gb102 ∧ k_ ≠ gb103) k_ from fun k_ hk => ⟨(.inr (Nat.le_trans (below_size (by repeat (first | (with_reducible first | exact HB.out | apply below_alloc | apply pw_below_drewN | apply below_drew1 | refine below_set ?_ GE101.out | refine below_set ?_ GE102.out | refine below_set ?_ GE103.out) | exact HB.out))) hk)), Kd.freshB (g := gb101) (o := .cells #[.int .i64 a0_0, .slice A0_1 l0_1.length c0_1] 24 (0, 0)) (by (with_reducible repeat (first | refine blk_drewN ?_ _ | refine blk_drew ?_ | refine blk_alloc ?_ _)); exact BK101.out) k_ hk, Kd.freshB (g := gb102) (o := .cells #[.int .i64 a1_0, .slice A1_1 l1_1.length c1_1] 24 (0, 0)) (by (with_reducible repeat (first | refine blk_drewN ?_ _ | refine blk_drew ?_ | refine blk_alloc ?_ _)); exact BK102.out) k_ hk, Kd.freshB (g := gb103) (o := .cells #[.int .i64 0, .slice none 0 0] 24 (0, 0)) (by (with_reducible repeat (first | refine blk_drewN ?_ _ | refine blk_drew ?_ | refine blk_alloc ?_ _)); exact BK103.out) k_ hk⟩) _ (Nat.le_refl _)) (Below.refl _ _) (Nat.le_refl _) (by simp) ?_; (case hd => rfl); (case hg => rfl); (case hr => first | (go_simp; done) | (go_simp; rfl)); (case hp => exact (Reps.c2 (show Kd.FK k24 _ _ (⟨a1_0, l1_1⟩ : S24) [.int .i64 a1_0, .slice A1_1 l1_1.length c1_1] from (k24_mkF _ _ (⟨a1_0, l1_1⟩ : S24) (Kd.V_reads' (Kd.V_mono (ok' := (fun k_ => (P1_1_ k_ ∨ w.heap.size ≤ k_) ∧ k_ ≠ gb101 ∧ k_ ≠ gb102 ∧ k_ ≠ gb103)) (HO_103001.out) (fun k_ hk => ⟨hk.1, ⟨hk.2.1, ⟨hk.2.2.1, hk.2.2.2⟩⟩⟩))).2.1 (Kd.V_F (Kd.V_mono (ok' := (fun k_ => (P1_1_ k_ ∨ w.heap.size ≤ k_) ∧ k_ ≠ gb101 ∧ k_ ≠ gb102 ∧ k_ ≠ gb103)) (HO_103001.out) (fun k_ hk => ⟨hk.1, ⟨hk.2.1, ⟨hk.2.2.1, hk.2.2.2⟩⟩⟩))))) (Reps.none _ _)))
              intro v110 w35 ho36 hb hg_ hnew_
              clear hg_ hnew_
              (first | rw [← Ny109.out] at ho36 | (simp only [Int.reduceToNat] at ho36; rw [← Ny109.out] at ho36))
              have n0_ := Aside0.mk (Kd.V_elder' (by (with_reducible repeat (first | apply Kd.V_alloc | apply Kd.V_drewN | apply Kd.V_drew)); exact HO_103001.out) (Kd.N_base ho36) hb)
              have n1_ := Aside0.mk (Kd.N_lower ho36 (below_size (by repeat (first | (with_reducible first | exact HB.out | apply below_alloc | apply pw_below_drewN | apply below_drew1 | refine below_set ?_ GE101.out | refine below_set ?_ GE102.out | refine below_set ?_ GE103.out) | exact HB.out))))
              have n2_ := Aside0.mk (blk_below (g := gb101) (o := .cells #[.int .i64 a0_0, .slice A0_1 l0_1.length c0_1] 24 (0, 0)) (by (with_reducible repeat (first | refine blk_drewN ?_ _ | refine blk_drew ?_ | refine blk_alloc ?_ _)); exact BK101.out) hb)
              have n3_ := Aside0.mk (blk_below (g := gb102) (o := .cells #[.int .i64 a1_0, .slice A1_1 l1_1.length c1_1] 24 (0, 0)) (by (with_reducible repeat (first | refine blk_drewN ?_ _ | refine blk_drew ?_ | refine blk_alloc ?_ _)); exact BK102.out) hb)
              have n4_ := Aside0.mk (blk_below (g := gb103) (o := .cells #[.int .i64 0, .slice none 0 0] 24 (0, 0)) (by (with_reducible repeat (first | refine blk_drewN ?_ _ | refine blk_drew ?_ | refine blk_alloc ?_ _)); exact BK103.out) hb)
              have n5_ := Aside0.mk (below_step (by repeat (first | (with_reducible first | exact HB.out | apply below_alloc | apply pw_below_drewN | apply below_drew1 | refine below_set ?_ GE101.out | refine below_set ?_ GE102.out | refine below_set ?_ GE103.out) | exact HB.out)) hb)
              clear HO_103001
              clear BK101
              clear BK102
              clear BK103
              clear HB
              have HO_103001 := n0_
              have HO111 := n1_
              have BK101 := n2_
              have BK102 := n3_
              have BK103 := n4_
              have HB := n5_
              clear n0_ n1_ n2_ n3_ n4_ n5_
              clear hb ho36
              refine hK.out _ _ ⟨(blk_cell BK101.out 0).trans rfl, (blk_cell BK101.out 1).trans rfl, (blk_cell BK102.out 0).trans rfl, (blk_cell BK102.out 1).trans rfl⟩ (fun hHeld => ?_)
              clear hK K
              refine norm_ (a' := ?_) ?_ ?_
              rotate_left
              · show Act.put _ (some 29) _ = _
                simp only [Act.put, List.setIfInBounds_toArray, List.set_cons_zero, List.set_cons_succ, i64_w, i32_w]
                rfl
              refine one_ (i := 3) (N := some 26) #[true, true, true, true, false, true, true, true, false, false, false] rfl rfl (one_of HT_.out (by kernel_rfl)) (by decide) (fun K hK => ?_)
              refine goes_ Tryd.func81 (by kernel_rfl) rfl #[.agg #[.int .i64 a0_0, .slice A0_1 l0_1.length c0_1]] (by rfl) rfl rfl (by (try simp only [List.map_toArray, List.map_cons, List.map_nil]); first | done | rfl | (simp only [List.length_drop, List.length_take]; rfl)) ?_
              with_reducible refine (bitset_own.calls a0_0 _ _ l0_1 t106 _ ?side1 ?side2 A27.out).mono ?_
              (case side1 => repeat (first | exact (Kd.C_below HR0_1.out HB.out) | (with_reducible refine Kd.C_alloc ?_ _) | (with_reducible refine Kd.C_drewN ?_ _) | (with_reducible refine Kd.C_drew ?_)))
              (case side2 => exact HC0_1.out)
              rintro e w37 ⟨v107, rfl, ho0, hb⟩
              refine ⟨_, rfl, ?_⟩
              have n0_ := Aside0.mk (Kd.V_elder' (by (with_reducible repeat (first | apply Kd.V_alloc | apply Kd.V_drewN | apply Kd.V_drew)); exact HO_103001.out) (Kd.R_base ho0) hb)
              have n1_ := Aside0.mk (Kd.N_elder' (by (with_reducible repeat (first | apply Kd.N_alloc | apply Kd.N_drewN | apply Kd.N_drew)); exact HO111.out) (Kd.R_base ho0) hb)
              have n2_ := Aside0.mk (Kd.R_lower (Kd.R_newM (M := fun k_ => (w.heap.size ≤ k_)) ho0 (below_size (by repeat (first | (with_reducible first | exact HB.out | apply below_alloc | apply pw_below_drewN | apply below_drew1 | refine below_set ?_ GE101.out | refine below_set ?_ GE102.out | refine below_set ?_ GE103.out) | exact HB.out))) (fun k_ h_ => h_)) (below_size (by repeat (first | (with_reducible first | exact HB.out | apply below_alloc | apply pw_below_drewN | apply below_drew1 | refine below_set ?_ GE101.out | refine below_set ?_ GE102.out | refine below_set ?_ GE103.out) | exact HB.out))))
              have n3_ := Aside0.mk (blk_below (g := gb101) (o := .cells #[.int .i64 a0_0, .slice A0_1 l0_1.length c0_1] 24 (0, 0)) (by (with_reducible repeat (first | refine blk_drewN ?_ _ | refine blk_drew ?_ | refine blk_alloc ?_ _)); exact BK101.out) hb)
              have n4_ := Aside0.mk (blk_below (g := gb102) (o := .cells #[.int .i64 a1_0, .slice A1_1 l1_1.length c1_1] 24 (0, 0)) (by (with_reducible repeat (first | refine blk_drewN ?_ _ | refine blk_drew ?_ | refine blk_alloc ?_ _)); exact BK102.out) hb)
              have n5_ := Aside0.mk (blk_below (g := gb103) (o := .cells #[.int .i64 0, .slice none 0 0] 24 (0, 0)) (by (with_reducible repeat (first | refine blk_drewN ?_ _ | refine blk_drew ?_ | refine blk_alloc ?_ _)); exact BK103.out) hb)
              have n6_ := Aside0.mk (below_step (by repeat (first | (with_reducible first | exact HB.out | apply below_alloc | apply pw_below_drewN | apply below_drew1 | refine below_set ?_ GE101.out | refine below_set ?_ GE102.out | refine below_set ?_ GE103.out) | exact HB.out)) hb)
              clear HO_103001
              clear HO111
              clear BK101
              clear BK102
              clear BK103
              clear HB
              have HO_103001 := n0_
              have HO111 := n1_
              have HO108 := n2_
              have BK101 := n3_
              have BK102 := n4_
              have BK103 := n5_
              have HB := n6_
              clear n0_ n1_ n2_ n3_ n4_ n5_ n6_
              (try clear hb)
              (try clear hb2)
              (try clear hk)
              (try clear hi)
              (try clear ho0)
              obtain ⟨Ao38, co38, eo38⟩ := Kd.R_slice HO108.out
              (first | subst eo38 | (injection eo38 with f1_ f2_ f3_; have f4_ := f1_.symm; have f5_ := f3_.symm; clear f1_ f2_ f3_; subst f4_; subst f5_))
              refine hK.out _ _ ⟨(blk_cell BK101.out 0).trans rfl, (blk_cell BK101.out 1).trans rfl, (blk_cell BK102.out 0).trans rfl, (blk_cell BK102.out 1).trans rfl⟩ (fun hHeld => ?_)
              clear hK K
              refine norm_ (a' := ?_) ?_ ?_
              rotate_left
              · show Act.put _ (some 26) _ = _
                simp only [Act.put, List.setIfInBounds_toArray, List.set_cons_zero, List.set_cons_succ, i64_w, i32_w]
                rfl
              refine pure_ (i := 4) (N := some 27) (v := ?_) (a' := ?_) #[true, true, true, true, true, true, true, true, false, false, false] rfl rfl (any_of HT_.out (by kernel_rfl)) (fun _ _ _ h => h) (Or.inl ⟨by rfl, ?_⟩) ?_ ?_
              rotate_left
              · intro w'
                go_simp
                with_reducible rfl
              rotate_left
              · simp only [Act.put, List.setIfInBounds_toArray, List.set_cons_zero, List.set_cons_succ, i64_w, i32_w]
                rfl
              exact norm_ (by simp only [putAll, Act.put, List.setIfInBounds_toArray, List.set_cons_zero, List.set_cons_succ]) (hCont (.slice Ao38 t106.length co38, v110) _ ⟨hHeld, (by (with_reducible repeat (first | apply Kd.R_alloc | apply Kd.R_drewN | apply Kd.R_drew)); exact Kd.R_mono HO108.out (fun _ hk => hk.1)), (by (with_reducible repeat (first | apply Kd.N_alloc | apply Kd.N_drewN | apply Kd.N_drew)); exact Kd.N_mono HO111.out (fun _ hk => ⟨hk.1.1, ⟨hk.2, ⟨hk.1.2.1, ⟨hk.1.2.2.1, hk.1.2.2.2⟩⟩⟩⟩)), (by (with_reducible repeat (first | apply Kd.V_alloc | apply Kd.V_drewN | apply Kd.V_drew)); exact Kd.V_mono HO_103001.out (fun _ hk => ⟨hk.1.1.1, ⟨hk.2, ⟨hk.1.2, ⟨hk.1.1.2.1, ⟨hk.1.1.2.2.1, hk.1.1.2.2.2⟩⟩⟩⟩⟩)), (by (with_reducible repeat (first | refine blk_drewN ?_ _ | refine blk_drew ?_ | refine blk_alloc ?_ _)); exact BK101.out), (by (with_reducible repeat (first | refine blk_drewN ?_ _ | refine blk_drew ?_ | refine blk_alloc ?_ _)); exact BK102.out), (by (with_reducible repeat (first | refine blk_drewN ?_ _ | refine blk_drew ?_ | refine blk_alloc ?_ _)); exact BK103.out), (by repeat (first | (with_reducible first | exact HB.out | apply below_alloc | apply pw_below_drewN | apply below_drew1 | refine below_set ?_ GE101.out | refine below_set ?_ GE102.out | refine below_set ?_ GE103.out) | exact HB.out))⟩)
          rintro ⟨v107, v110⟩ w39 ⟨hS_, h0_, h1_, h2_, h3_, h4_, h5_, h6_⟩
          have n0_ : Aside0 (Kd.R (Kd.int .u64) 87 w39 w.heap.size (fun k_ => (w.heap.size ≤ k_)) v107 t106) := ⟨h0_⟩
          have n1_ : Aside0 (Kd.N k24 24 w39 w.heap.size (fun k_ => (P1_1_ k_ ∨ w.heap.size ≤ k_) ∧ some k_ ≠ (v107 : Value).ownBlock ∧ k_ ≠ gb101 ∧ k_ ≠ gb102 ∧ k_ ≠ gb103) v110 y109) := ⟨h1_⟩
          have n2_ : Aside0 (Kd.V (Kd.int .u64) 87 w39 w.heap.size (fun k_ => (P1_1_ k_ ∨ w.heap.size ≤ k_) ∧ some k_ ≠ (v107 : Value).ownBlock ∧ some k_ ≠ (v110 : Value).ownBlock ∧ k_ ≠ gb101 ∧ k_ ≠ gb102 ∧ k_ ≠ gb103) (.slice A1_1 l1_1.length c1_1) l1_1) := ⟨h2_⟩
          have n3_ : Aside0 (w39.heap[gb101]? = some (.cells #[.int .i64 a0_0, .slice A0_1 l0_1.length c0_1] 24 (0, 0))) := ⟨h3_⟩
          have n4_ : Aside0 (w39.heap[gb102]? = some (.cells #[.int .i64 a1_0, .slice A1_1 l1_1.length c1_1] 24 (0, 0))) := ⟨h4_⟩
          have n5_ : Aside0 (w39.heap[gb103]? = some (.cells #[.int .i64 0, .slice none 0 0] 24 (0, 0))) := ⟨h5_⟩
          have n6_ : Aside0 (Below w.heap.size w w39) := ⟨h6_⟩
          clear HO_103001
          clear BK101
          clear BK102
          clear BK103
          clear HB
          clear h0_ h1_ h2_ h3_ h4_ h5_ h6_
          have HO108 := n0_
          have HO111 := n1_
          have HO_103001 := n2_
          have BK101 := n3_
          have BK102 := n4_
          have BK103 := n5_
          have HB := n6_
          clear n0_ n1_ n2_ n3_ n4_ n5_ n6_
          have hHeld : w39.cell? ⟨gb101, 0, none⟩ = some (.int .i64 a0_0) ∧ w39.cell? ⟨gb101, 1, none⟩ = some (.slice A0_1 l0_1.length c0_1) ∧ w39.cell? ⟨gb102, 0, none⟩ = some (.int .i64 a1_0) ∧ w39.cell? ⟨gb102, 1, none⟩ = some (.slice A1_1 l1_1.length c1_1) := hS_
          obtain ⟨Ao40, co40, eo40⟩ := Kd.R_slice HO108.out
          (first | subst eo40 | (injection eo40 with f1_ f2_ f3_; have f4_ := f1_.symm; have f5_ := f3_.symm; clear f1_ f2_ f3_; subst f4_; subst f5_))
          obtain ⟨Ao41, co41, eo41⟩ := Kd.N_slice HO111.out
          (first | subst eo41 | (injection eo41 with f1_ f2_ f3_; have f4_ := f1_.symm; have f5_ := f3_.symm; clear f1_ f2_ f3_; subst f4_; subst f5_))
          refine norm_ (a' := ?_) ?_ ?_
          rotate_left
          · simp only [putAll, Act.put, List.setIfInBounds_toArray, List.set_cons_zero, List.set_cons_succ]
            rfl
          refine one_ (i := 8) (N := some 31) #[true, true, true, true, true, true, true, true, true, false, false] rfl rfl (one_of HT_.out (by kernel_rfl)) (by decide) (fun K hK => ?_)
          refine goes_ Tryd.func88 (by kernel_rfl) rfl #[.agg #[.int .i64 a0_0, .slice Ao40 t106.length co40], .slice Ao41 y109.length co41, .func (.func 98) #[] #[]] (by rfl) rfl rfl (by (try simp only [List.map_toArray, List.map_cons, List.map_nil]); first | done | rfl | (simp only [List.length_drop, List.length_take]; rfl)) ?_
          with_reducible refine (bitset_fold_andNot.calls a0_0 (fun k_ => some k_ = (.slice Ao40 t106.length co40 : Value).ownBlock) (.slice Ao40 t106.length co40) t106 _ _ y109 a2 t112 t113 w _ ?side1 ?side2 ?side3 ?side4 A28.out).mono ?_
          (case side1 => repeat (first | (with_reducible first | exact HB.out | apply below_alloc | apply pw_below_drewN | apply below_drew1 | refine below_set ?_ GE101.out | refine below_set ?_ GE102.out | refine below_set ?_ GE103.out) | exact HB.out))
          (case side2 => exact Kd.R_tight rfl HO108.out)
          (case side3 => exact Kd.C_kept_ownV (base := 0) (Kd.N_V (HO111.out)) (fun k_ hk_ hs_ => (hk_.2.1) hs_))
          (case side4 => exact (Kd.N_reads' HO111.out).2.1)
          rintro e w42 ⟨v114, rfl, ho0, hb, hkp⟩
          refine ⟨_, rfl, ?_⟩
          have n0_ := Aside0.mk (Kd.V_mono (ok' := fun k_ => (P1_1_ k_ ∨ w.heap.size ≤ k_) ∧ some k_ ≠ (.slice Ao41 y109.length co41 : Value).ownBlock ∧ k_ ≠ gb101 ∧ k_ ≠ gb102 ∧ k_ ≠ gb103 ∧ some k_ ≠ (v114 : Value).ownBlock) (Kd.V_keptB (HO_103001.out) hkp (fun k_ hk_ hs_ => (hk_.2.1) hs_)) (fun k_ hk_ => ⟨hk_.1.1, hk_.1.2.2.1, hk_.1.2.2.2.1, hk_.1.2.2.2.2.1, hk_.1.2.2.2.2.2, fun e_ => Or.elim (ho0.1 k_ e_.symm) (fun hs_ => hk_.2.1 hs_) (fun hn_ => Nat.not_le.2 hk_.2.2 hn_)⟩))
          have n1_ := Aside0.mk (blk_kept (by (with_reducible repeat (first | refine blk_drewN ?_ _ | refine blk_drew ?_ | refine blk_alloc ?_ _)); exact BK101.out) hkp (fun hs_ => (fun e_ => (Kd.R_ne HO108.out BK101.out (by decide)) e_) hs_))
          have n2_ := Aside0.mk (blk_kept (by (with_reducible repeat (first | refine blk_drewN ?_ _ | refine blk_drew ?_ | refine blk_alloc ?_ _)); exact BK102.out) hkp (fun hs_ => (fun e_ => (Kd.R_ne HO108.out BK102.out (by decide)) e_) hs_))
          have n3_ := Aside0.mk (blk_kept (by (with_reducible repeat (first | refine blk_drewN ?_ _ | refine blk_drew ?_ | refine blk_alloc ?_ _)); exact BK103.out) hkp (fun hs_ => (fun e_ => (Kd.R_ne HO108.out BK103.out (by decide)) e_) hs_))
          have n4_ := Aside0.mk (Kd.N_mono (ok' := fun k_ => (P1_1_ k_ ∨ w.heap.size ≤ k_) ∧ k_ ≠ gb101 ∧ k_ ≠ gb102 ∧ k_ ≠ gb103 ∧ some k_ ≠ (v114 : Value).ownBlock) (Kd.N_keptB (HO111.out) hkp (fun k_ hk_ hs_ => (hk_.2.1) hs_)) (fun k_ hk_ => ⟨hk_.1.1, hk_.1.2.2.1, hk_.1.2.2.2.1, hk_.1.2.2.2.2, fun e_ => Or.elim (ho0.1 k_ e_.symm) (fun hs_ => hk_.2.1 hs_) (fun hn_ => Nat.not_le.2 hk_.2.2 hn_)⟩))
          have n5_ := Aside0.mk (Kd.R_mono (ok' := fun k_ => (w.heap.size ≤ k_)) ho0 (fun k_ hk_ => Or.elim hk_ (fun hs_ => (HO108.out.1 k_ (hs_).symm)) (fun hn_ => (Nat.le_trans (below_size (by repeat (first | (with_reducible first | exact HB.out | apply below_alloc | apply pw_below_drewN | apply below_drew1 | refine below_set ?_ GE101.out | refine below_set ?_ GE102.out | refine below_set ?_ GE103.out) | exact HB.out))) hn_))))
          have n6_ := Aside0.mk (hb)
          clear HO_103001
          clear BK101
          clear BK102
          clear BK103
          clear HO111
          clear HB
          clear HO108
          have HO_103001 := n0_
          have BK101 := n1_
          have BK102 := n2_
          have BK103 := n3_
          have HO111 := n4_
          have HO115 := n5_
          have HB := n6_
          clear n0_ n1_ n2_ n3_ n4_ n5_ n6_
          (try clear hb)
          (try clear hkp)
          (try clear ho0)
          obtain ⟨Ao44, co44, eo44⟩ := Kd.R_slice HO115.out
          (first | subst eo44 | (injection eo44 with f1_ f2_ f3_; have f4_ := f1_.symm; have f5_ := f3_.symm; clear f1_ f2_ f3_; subst f4_; subst f5_))
          refine hK.out _ _ ⟨(blk_cell BK101.out 0).trans rfl, (blk_cell BK101.out 1).trans rfl, (blk_cell BK102.out 0).trans rfl, (blk_cell BK102.out 1).trans rfl⟩ (fun hHeld => ?_)
          clear hK K
          refine norm_ (a' := ?_) ?_ ?_
          rotate_left
          · show Act.put _ (some 31) _ = _
            simp only [Act.put, List.setIfInBounds_toArray, List.set_cons_zero, List.set_cons_succ, i64_w, i32_w]
            rfl
          refine one_ (i := 9) (N := none) #[true, true, true, true, true, true, true, true, true, true, false] rfl rfl (one_of HT_.out (by kernel_rfl)) (by decide) (fun K hK => ?_)
          have hs43 : w42.cell? ⟨gb103, 0, none⟩ = some (.int .i64 0) := (blk_cell BK103.out 0).trans rfl
          have hfs43 := blk_frozen BK103.out 0
          have hns43_0 := NB101_103.out
          have hns43_1 := NB102_103.out
          have hms43_0 := NB103_101.out
          have hms43_1 := NB103_102.out
          have hs45 : w42.cell? ⟨gb103, 1, none⟩ = some (.slice none 0 0) := (blk_cell BK103.out 1).trans rfl
          have hfs45 := blk_frozen BK103.out 1
          have hns45_0 := NB101_103.out
          have hns45_1 := NB102_103.out
          have hms45_0 := NB103_101.out
          have hms45_1 := NB103_102.out
          refine skip_ (w1 := ?_) (by rfl) rfl ?_ ?_
          rotate_left
          · go_simp
            rfl
          refine hK.out _ _ ⟨((cell_far (p := ⟨gb103, _, none⟩) NB101_103.out _).trans (((cell_far (p := ⟨gb103, _, none⟩) NB101_103.out _).trans (hHeld.1)))), ((cell_far (p := ⟨gb103, _, none⟩) NB101_103.out _).trans (((cell_far (p := ⟨gb103, _, none⟩) NB101_103.out _).trans (hHeld.2.1)))), ((cell_far (p := ⟨gb103, _, none⟩) NB102_103.out _).trans (((cell_far (p := ⟨gb103, _, none⟩) NB102_103.out _).trans (hHeld.2.2.1)))), ((cell_far (p := ⟨gb103, _, none⟩) NB102_103.out _).trans (((cell_far (p := ⟨gb103, _, none⟩) NB102_103.out _).trans (hHeld.2.2.2))))⟩ (fun hHeld => ?_)
          clear hK K
          refine pure_ (i := 10) (N := some 7) (v := ?_) (a' := ?_) #[true, true, true, true, true, true, true, true, true, true, true] rfl rfl (any_of HT_.out (by kernel_rfl)) (fun _ _ _ h => h) (Or.inl ⟨by rfl, ?_⟩) ?_ ?_
          rotate_left
          · intro w'
            go_simp
            with_reducible rfl
          rotate_left
          · simp only [Act.put, List.setIfInBounds_toArray, List.set_cons_zero, List.set_cons_succ, i64_w, i32_w]
            rfl
          refine done_ (done_of HT_.out (by kernel_rfl)) ?_
          try go_wp2
          refine bodyPost_ret (results_ct rfl _ _ gb103 24 #[.int .i64 t112, .slice Ao44 t113.length co44] (0, 0) _ rfl (by (with_reducible repeat (first | refine blk_drewN ?_ _ | refine blk_drew ?_ | refine blk_alloc ?_ _)); refine blk_put (cs := #[.int .i64 t112, .slice none 0 0]) ?_ 1 _ rfl; (with_reducible repeat (first | refine blk_drewN ?_ _ | refine blk_drew ?_ | refine blk_alloc ?_ _)); refine blk_put (cs := #[.int .i64 0, .slice none 0 0]) ?_ 0 _ rfl; (with_reducible repeat (first | refine blk_drewN ?_ _ | refine blk_drew ?_ | refine blk_alloc ?_ _)); exact BK103.out) Tryd.underlying24 rfl (by kernel_rfl)) rfl ?_
          exact ⟨_, by first | rfl | (simp [errW_none, errW_some] <;> rfl) | (simp [*, errW_none, errW_some] <;> rfl), by (with_reducible repeat (first | apply Kd.R_alloc | apply Kd.R_drewN | apply Kd.R_drew)); exact Kd.R_mono (Kd.R_far (p := ⟨gb103, 1, none⟩) (Kd.R_far (p := ⟨gb103, 0, none⟩) (Kd.R_types HO115.out BK103.out (by decide)) (fun _ hk => hk.2) (.int .i64 t112)) (fun _ hk => hk.2) (.slice Ao44 t113.length co44)) (fun _ hk => hk.1), by repeat (first | (with_reducible first | exact HB.out | apply below_alloc | apply pw_below_drewN | apply below_drew1 | refine below_set ?_ GE101.out | refine below_set ?_ GE102.out | refine below_set ?_ GE103.out) | exact HB.out)⟩
        · rw [if_neg c26] at H
          have c26b0 : (a0_0 == a1_0) = false := beq_eq_false_iff_ne.mpr c26
          have c26b1 : (a0_0 != a1_0) = true := bne_iff_ne.mpr c26
          simp only [Option.some.injEq, Prod.mk.injEq] at H
          obtain ⟨rfl, rfl, rfl⟩ := H
          have hnb46 := NB101_102.out
          have hnc46 := NB102_101.out
          have hnb47 := NB101_103.out
          have hnc47 := NB103_101.out
          have hcz48_0 : wc.cell? ⟨gb101, 0, none⟩ = some (.int .i64 a0_0) := (blk_cell BK101.out 0).trans rfl
          have hcz48_1 : wc.cell? ⟨gb101, 1, none⟩ = some (.slice A0_1 l0_1.length c0_1) := (blk_cell BK101.out 1).trans rfl
          have hfz48_0 := blk_frozen BK101.out 0
          have hfz48_1 := blk_frozen BK101.out 1
          have hnb49 := NB102_103.out
          have hnc49 := NB103_102.out
          have hcz50_0 : wc.cell? ⟨gb102, 0, none⟩ = some (.int .i64 a1_0) := (blk_cell BK102.out 0).trans rfl
          have hcz50_1 : wc.cell? ⟨gb102, 1, none⟩ = some (.slice A1_1 l1_1.length c1_1) := (blk_cell BK102.out 1).trans rfl
          have hfz50_0 := blk_frozen BK102.out 0
          have hfz50_1 := blk_frozen BK102.out 1
          have hcz51_0 : wc.cell? ⟨gb103, 0, none⟩ = some (.int .i64 0) := (blk_cell BK103.out 0).trans rfl
          have hcz51_1 : wc.cell? ⟨gb103, 1, none⟩ = some (.slice none 0 0) := (blk_cell BK103.out 1).trans rfl
          have hfz51_0 := blk_frozen BK103.out 0
          have hfz51_1 := blk_frozen BK103.out 1
          go_wp2
          refine bodyPost_ret (results_ct rfl _ _ gb103 24 #[.int .i64 0, .slice none 0 0] (0, 0) _ rfl (by (with_reducible repeat (first | refine blk_drewN ?_ _ | refine blk_drew ?_ | refine blk_alloc ?_ _)); refine blk_put (cs := #[.int .i64 0, .slice none 0 0]) ?_ 1 _ rfl; (with_reducible repeat (first | refine blk_drewN ?_ _ | refine blk_drew ?_ | refine blk_alloc ?_ _)); refine blk_put (cs := #[.int .i64 0, .slice none 0 0]) ?_ 0 _ rfl; (with_reducible repeat (first | refine blk_drewN ?_ _ | refine blk_drew ?_ | refine blk_alloc ?_ _)); exact BK103.out) Tryd.underlying24 rfl (by kernel_rfl)) rfl ?_
          exact ⟨_, by first | rfl | (simp [errW_none, errW_some] <;> rfl) | (simp [*, errW_none, errW_some] <;> rfl), by first | exact Kd.R_nil _ _ _ _ _ | exact Kd.N_nil _ _ _ _ _ | exact Kd.V_nil _ _ _ _ _ | exact Kd.Q_nil _ _ _ _ _ | exact Kd.S_nil _ _ _ _ _, by repeat (first | (with_reducible first | exact HB.out | apply below_alloc | apply pw_below_drewN | apply below_drew1 | refine below_set ?_ GE101.out | refine below_set ?_ GE102.out | refine below_set ?_ GE103.out) | exact HB.out)⟩
end Go.Proofs.YtjmkhdhffmlhiaaDoor.PAll
end
section
namespace Go.Proofs.YtjmkhdhffmlhiaaDoor.PAll
open Go.RowKit Go.Proofs.YtjmkhdhffmlhiaaDoorW.PrintWords Go.Proofs.YtjmkhdhffmlhiaaDoorW.PrintLast Go.Proofs.YtjmkhdhffmlhiaaDoorW.PrintMore
attribute [local go_sem] max2_int min2_int max_two min_two max_three min_three max_four min_four w64_u8 w64_mod256   -- for this text's walks alone
set_option linter.unusedVariables false
set_option linter.unusedSimpArgs false
def bitset_none_andNot.f (k : Nat) (a0_0 : Int) (l0_1 : List Int) (a1_0 : Int) (l1_1 : List Int) (a2 : Unit) : Option (Bool) := (bitset_two_andNot.f k a0_0 l0_1 a1_0 l1_1 a2).bind fun bt103 => (if bt103.2.2 = 0 then ((bitset_Count.f k bt103.1 bt103.2.1).bind fun t109 => (some (t109 == 0))) else (some false))
set_option maxHeartbeats 8000000 in
set_option maxRecDepth 100000 in
theorem bitset_none_andNot.calls (k : Nat) (a0_0 : Int) (A0_1 : Option Addr) (c0_1 : Nat) (l0_1 : List Int) (a1_0 : Int) (A1_1 : Option Addr) (c1_1 : Nat) (l1_1 : List Int) (a2 : Unit) (r : Bool) (w : World) (hr0_1 : Kd.C (Kd.int .u64) w A0_1 l0_1.length l0_1) (hc0_1 : l0_1.length ≤ c0_1) (hr1_1 : Kd.C (Kd.int .u64) w A1_1 l1_1.length l1_1) (hc1_1 : l1_1.length ≤ c1_1) (h : bitset_none_andNot.f k a0_0 l0_1 a1_0 l1_1 a2 = some r) :
    Calls Tryd.prog 97 #[.agg #[.int .i64 a0_0, .slice A0_1 l0_1.length c0_1], .agg #[.int .i64 a1_0, .slice A1_1 l1_1.length c1_1], .func (.func 98) #[] #[]] w fun e w' => e = .returned (.bool r) ∧ Below w.heap.size w w' := by
  have hu24 := Tryd.underlying24
  have HR0_1 := Aside0.mk hr0_1
  have HC0_1 := Aside0.mk hc0_1
  clear hr0_1 hc0_1
  have HR1_1 := Aside0.mk hr1_1
  have HC1_1 := Aside0.mk hc1_1
  clear hr1_1 hc1_1
  have HB := Aside0.mk (Below.refl w.heap.size w)
  have H : ((bitset_two_andNot.f k a0_0 l0_1 a1_0 l1_1 a2).bind fun bt103 => (if bt103.2.2 = 0 then ((bitset_Count.f k bt103.1 bt103.2.1).bind fun t109 => (some (t109 == 0))) else (some false))) = some r := h
  clear h
  replace H := Option.bind_eq_some_iff.mp H
  obtain ⟨⟨t103, t104, t107⟩, A40, H⟩ := H
  replace H : (if t107 = 0 then ((bitset_Count.f k t103 t104).bind fun t109 => (some (t109 == 0))) else (some false)) = some r := H
  have A4 := Aside0.mk A40
  clear A40
  by_cases c5 : t107 = 0
  · rw [if_pos c5] at H
    have c5b0 : (t107 == 0) = true := beq_iff_eq.mpr c5
    have c5b1 : (t107 != 0) = false := bne_eq_false_iff_eq.mpr c5
    clear c5
    replace H := Option.bind_eq_some_iff.mp H
    obtain ⟨t109, A60, H⟩ := H
    replace H : (some (t109 == 0)) = some r := H
    have A6 := Aside0.mk A60
    clear A60
    obtain rfl := Option.some.inj H
    go_enter Tryd.func97, Tryd.ntmps97
    go_wp2_with (first | ((with_reducible refine gate_dst (N := 3) rfl ?_); refine box_event ?hg (N := 3) ?hd (cs := #[.int .i64 a0_0, .slice A0_1 l0_1.length c0_1]) (t := 24) ?hr ?_; (case hd => rfl); (case hg => rfl); (case hr => first | (go_simp; done) | (go_simp; rfl)); intro gb101 hg w7 hbox hb; have n0_ := Aside0.mk (below_step (by repeat (first | (with_reducible first | exact HB.out | apply below_alloc | apply pw_below_drewN | apply below_drew1) | exact HB.out)) hb); have n1_ := Aside0.mk (hbox); have n2_ := Aside0.mk ((by rw [hg]; exact (below_size (by repeat (first | (with_reducible first | exact HB.out | apply below_alloc | apply pw_below_drewN | apply below_drew1) | exact HB.out))) : w.heap.size ≤ gb101)); have n3_ := Aside0.mk ((by rw [hg]; exact (below_size (by repeat (first | (with_reducible first | exact HB.out | apply below_alloc | apply pw_below_drewN | apply below_drew1) | exact HB.out))) : w.heap.size ≤ gb101)); clear HB; have HB := n0_; have BK101 := n1_; have GW101 := n2_; have GE101 := n3_; clear n0_ n1_ n2_ n3_; clear hb hbox hg) | ((with_reducible refine gate_dst (N := 4) rfl ?_); refine box_event ?hg (N := 4) ?hd (cs := #[.int .i64 a1_0, .slice A1_1 l1_1.length c1_1]) (t := 24) ?hr ?_; (case hd => rfl); (case hg => rfl); (case hr => first | (go_simp; done) | (go_simp; rfl)); intro gb102 hg w8 hbox hb; have n0_ := Aside0.mk (blk_below (g := gb101) (o := .cells #[.int .i64 a0_0, .slice A0_1 l0_1.length c0_1] 24 (0, 0)) (by (with_reducible repeat (first | refine blk_drewN ?_ _ | refine blk_drew ?_ | refine blk_alloc ?_ _)); exact BK101.out) hb); have n1_ := Aside0.mk (below_step (by repeat (first | (with_reducible first | exact HB.out | apply below_alloc | apply pw_below_drewN | apply below_drew1 | refine below_set ?_ GE101.out) | exact HB.out)) hb); have n2_ := Aside0.mk (hbox); have n3_ := Aside0.mk ((by rw [hg]; exact (below_size (by repeat (first | (with_reducible first | exact HB.out | apply below_alloc | apply pw_below_drewN | apply below_drew1 | refine below_set ?_ GE101.out) | exact HB.out))) : w.heap.size ≤ gb102)); have n4_ := Aside0.mk ((by rw [hg]; exact (below_size (by repeat (first | (with_reducible first | exact HB.out | apply below_alloc | apply pw_below_drewN | apply below_drew1 | refine below_set ?_ GE101.out) | exact HB.out))) : w.heap.size ≤ gb102)); have n5_ := Aside0.mk ((by rw [hg]; exact Nat.ne_of_lt (blk_lt (g := gb101) (o := .cells #[.int .i64 a0_0, .slice A0_1 l0_1.length c0_1] 24 (0, 0)) (by (with_reducible repeat (first | refine blk_drewN ?_ _ | refine blk_drew ?_ | refine blk_alloc ?_ _)); exact BK101.out)) : gb101 ≠ gb102)); have n6_ := Aside0.mk ((by rw [hg]; exact Nat.ne_of_gt (blk_lt (g := gb101) (o := .cells #[.int .i64 a0_0, .slice A0_1 l0_1.length c0_1] 24 (0, 0)) (by (with_reducible repeat (first | refine blk_drewN ?_ _ | refine blk_drew ?_ | refine blk_alloc ?_ _)); exact BK101.out)) : gb102 ≠ gb101)); clear BK101; clear HB; have BK101 := n0_; have HB := n1_; have BK102 := n2_; have GW102 := n3_; have GE102 := n4_; have NB101_102 := n5_; have NB102_101 := n6_; clear n0_ n1_ n2_ n3_ n4_ n5_ n6_; clear hb hbox hg; have hnb9 := NB101_102.out; have hnc9 := NB102_101.out; have hcz10_0 : w8.cell? ⟨gb101, 0, none⟩ = some (.int .i64 a0_0) := (blk_cell BK101.out 0).trans rfl; have hcz10_1 : w8.cell? ⟨gb101, 1, none⟩ = some (.slice A0_1 l0_1.length c0_1) := (blk_cell BK101.out 1).trans rfl; have hfz10_0 := blk_frozen BK101.out 0; have hfz10_1 := blk_frozen BK101.out 1; have hcz11_0 : w8.cell? ⟨gb102, 0, none⟩ = some (.int .i64 a1_0) := (blk_cell BK102.out 0).trans rfl; have hcz11_1 : w8.cell? ⟨gb102, 1, none⟩ = some (.slice A1_1 l1_1.length c1_1) := (blk_cell BK102.out 1).trans rfl; have hfz11_0 := blk_frozen BK102.out 0; have hfz11_1 := blk_frozen BK102.out 1) | ((with_reducible refine gate_callee (f := 120) rfl ?_); refine goesL_ (some 13) rfl rfl Tryd.func120 (by kernel_rfl) rfl #[.agg #[.int .i64 a0_0, .slice A0_1 l0_1.length c0_1], .agg #[.int .i64 a1_0, .slice A1_1 l1_1.length c1_1], .func (.func 98) #[] #[]] rfl (by (try simp only [List.map_toArray, List.map_cons, List.map_nil]); first | done | rfl | (simp only [List.length_drop, List.length_take]; rfl)) ?_; (with_reducible refine (bitset_two_andNot.calls k a0_0 _ _ l0_1 a1_0 (fun k_ => k_ < w.heap.size) _ _ l1_1 a2 t103 t104 t107 _ ?side1 ?side2 ?side3 A4.out).mono ?_); (case side1 => repeat (first | exact (Kd.C_below HR0_1.out HB.out) | (with_reducible refine Kd.C_alloc ?_ _) | (with_reducible refine Kd.C_drewN ?_ _) | (with_reducible refine Kd.C_drew ?_))); (case side2 => exact HC0_1.out); (case side3 => exact Kd.V_mk HC1_1.out (Kd.F_below (Kd.C_F (Kd.heap_int .u64) HR1_1.out) (by repeat (first | (with_reducible first | exact HB.out | apply below_alloc | apply pw_below_drewN | apply below_drew1 | refine below_set ?_ GE101.out | refine below_set ?_ GE102.out) | exact HB.out)))); rintro e w12 ⟨v105, rfl, ho0, hb⟩; refine ⟨_, rfl, ?_⟩; have n0_ := Aside0.mk (Kd.R_lower (Kd.R_mono (ok' := fun k_ => True) ho0 (fun _ hk_ => trivial)) (below_size (by repeat (first | (with_reducible first | exact HB.out | apply below_alloc | apply pw_below_drewN | apply below_drew1 | refine below_set ?_ GE101.out | refine below_set ?_ GE102.out) | exact HB.out)))); have n1_ := Aside0.mk (blk_below (g := gb101) (o := .cells #[.int .i64 a0_0, .slice A0_1 l0_1.length c0_1] 24 (0, 0)) (by (with_reducible repeat (first | refine blk_drewN ?_ _ | refine blk_drew ?_ | refine blk_alloc ?_ _)); exact BK101.out) hb); have n2_ := Aside0.mk (blk_below (g := gb102) (o := .cells #[.int .i64 a1_0, .slice A1_1 l1_1.length c1_1] 24 (0, 0)) (by (with_reducible repeat (first | refine blk_drewN ?_ _ | refine blk_drew ?_ | refine blk_alloc ?_ _)); exact BK102.out) hb); have n3_ := Aside0.mk (below_step (by repeat (first | (with_reducible first | exact HB.out | apply below_alloc | apply pw_below_drewN | apply below_drew1 | refine below_set ?_ GE101.out | refine below_set ?_ GE102.out) | exact HB.out)) hb); clear BK101; clear BK102; clear HB; have HO106 := n0_; have BK101 := n1_; have BK102 := n2_; have HB := n3_; clear n0_ n1_ n2_ n3_; (try clear hb); (try clear hb2); (try clear hk); (try clear hi); (try clear ho0)) | ((with_reducible refine gate_dst (N := 7) rfl ?_); refine box_event ?hg (N := 7) ?hd (cs := #[.int .i64 0, .slice none 0 0]) (t := 24) ?hr ?_; (case hd => rfl); (case hg => rfl); (case hr => first | (go_simp; done) | (go_simp; rfl)); intro gb108 hg w13 hbox hb; have n0_ := Aside0.mk (Kd.R_below (by (with_reducible repeat (first | apply Kd.R_alloc | apply Kd.R_drewN | apply Kd.R_drew)); exact HO106.out) hb); have n1_ := Aside0.mk (blk_below (g := gb101) (o := .cells #[.int .i64 a0_0, .slice A0_1 l0_1.length c0_1] 24 (0, 0)) (by (with_reducible repeat (first | refine blk_drewN ?_ _ | refine blk_drew ?_ | refine blk_alloc ?_ _)); exact BK101.out) hb); have n2_ := Aside0.mk (blk_below (g := gb102) (o := .cells #[.int .i64 a1_0, .slice A1_1 l1_1.length c1_1] 24 (0, 0)) (by (with_reducible repeat (first | refine blk_drewN ?_ _ | refine blk_drew ?_ | refine blk_alloc ?_ _)); exact BK102.out) hb); have n3_ := Aside0.mk (below_step (by repeat (first | (with_reducible first | exact HB.out | apply below_alloc | apply pw_below_drewN | apply below_drew1 | refine below_set ?_ GE101.out | refine below_set ?_ GE102.out) | exact HB.out)) hb); have n4_ := Aside0.mk (hbox); have n5_ := Aside0.mk ((by rw [hg]; exact (below_size (by repeat (first | (with_reducible first | exact HB.out | apply below_alloc | apply pw_below_drewN | apply below_drew1 | refine below_set ?_ GE101.out | refine below_set ?_ GE102.out) | exact HB.out))) : w.heap.size ≤ gb108)); have n6_ := Aside0.mk ((by rw [hg]; exact (below_size (by repeat (first | (with_reducible first | exact HB.out | apply below_alloc | apply pw_below_drewN | apply below_drew1 | refine below_set ?_ GE101.out | refine below_set ?_ GE102.out) | exact HB.out))) : w.heap.size ≤ gb108)); have n7_ := Aside0.mk ((by rw [hg]; exact Nat.ne_of_lt (blk_lt (g := gb101) (o := .cells #[.int .i64 a0_0, .slice A0_1 l0_1.length c0_1] 24 (0, 0)) (by (with_reducible repeat (first | refine blk_drewN ?_ _ | refine blk_drew ?_ | refine blk_alloc ?_ _)); exact BK101.out)) : gb101 ≠ gb108)); have n8_ := Aside0.mk ((by rw [hg]; exact Nat.ne_of_gt (blk_lt (g := gb101) (o := .cells #[.int .i64 a0_0, .slice A0_1 l0_1.length c0_1] 24 (0, 0)) (by (with_reducible repeat (first | refine blk_drewN ?_ _ | refine blk_drew ?_ | refine blk_alloc ?_ _)); exact BK101.out)) : gb108 ≠ gb101)); have n9_ := Aside0.mk ((by rw [hg]; exact Nat.ne_of_lt (blk_lt (g := gb102) (o := .cells #[.int .i64 a1_0, .slice A1_1 l1_1.length c1_1] 24 (0, 0)) (by (with_reducible repeat (first | refine blk_drewN ?_ _ | refine blk_drew ?_ | refine blk_alloc ?_ _)); exact BK102.out)) : gb102 ≠ gb108)); have n10_ := Aside0.mk ((by rw [hg]; exact Nat.ne_of_gt (blk_lt (g := gb102) (o := .cells #[.int .i64 a1_0, .slice A1_1 l1_1.length c1_1] 24 (0, 0)) (by (with_reducible repeat (first | refine blk_drewN ?_ _ | refine blk_drew ?_ | refine blk_alloc ?_ _)); exact BK102.out)) : gb108 ≠ gb102)); clear HO106; clear BK101; clear BK102; clear HB; have HO106 := n0_; have BK101 := n1_; have BK102 := n2_; have HB := n3_; have BK108 := n4_; have GW108 := n5_; have GE108 := n6_; have NB101_108 := n7_; have NB108_101 := n8_; have NB102_108 := n9_; have NB108_102 := n10_; clear n0_ n1_ n2_ n3_ n4_ n5_ n6_ n7_ n8_ n9_ n10_; clear hb hbox hg; have hnb14 := NB108_101.out; have hnc14 := NB101_108.out; have hnb15 := NB108_102.out; have hnc15 := NB102_108.out; have hcz16_0 : w13.cell? ⟨gb108, 0, none⟩ = some (.int .i64 0) := (blk_cell BK108.out 0).trans rfl; have hcz16_1 : w13.cell? ⟨gb108, 1, none⟩ = some (.slice none 0 0) := (blk_cell BK108.out 1).trans rfl; have hfz16_0 := blk_frozen BK108.out 0; have hfz16_1 := blk_frozen BK108.out 1; obtain ⟨Ao17, co17, eo17⟩ := Kd.R_slice HO106.out; subst eo17) | (go_at_call 33; (with_reducible refine (bitset_Count.calls k t103 _ _ t104 t109 _ ?side1 ?side2 A6.out).mono ?_); (case side1 => refine (Kd.R_reads' (e := 87) (base := w.heap.size) (ok := fun k_ => True) (n := t104.length) (c := co17) ?_).2.2; exact (by (with_reducible repeat (first | apply Kd.R_alloc | apply Kd.R_drewN | apply Kd.R_drew)); exact (Kd.R_mono (Kd.R_far (p := ⟨gb108, 1, none⟩) (Kd.R_far (p := ⟨gb108, 0, none⟩) (Kd.R_types HO106.out BK108.out (by decide)) (fun _ hk => hk.2) (.int .i64 t103)) (fun _ hk => hk.2) (.slice Ao17 t104.length co17)) (fun _ h_ => h_.1)))); (case side2 => exact (Kd.R_reads' HO106.out).2.1); rintro e w18 ⟨rfl, hb⟩; have n0_ := Aside0.mk (Kd.R_below (by (with_reducible repeat (first | apply Kd.R_alloc | apply Kd.R_drewN | apply Kd.R_drew)); exact (Kd.R_mono (Kd.R_far (p := ⟨gb108, 1, none⟩) (Kd.R_far (p := ⟨gb108, 0, none⟩) (Kd.R_types HO106.out BK108.out (by decide)) (fun _ hk => hk.2) (.int .i64 t103)) (fun _ hk => hk.2) (.slice Ao17 t104.length co17)) (fun _ h_ => h_.1))) hb); have n1_ := Aside0.mk (blk_below (g := gb101) (o := .cells #[.int .i64 a0_0, .slice A0_1 l0_1.length c0_1] 24 (0, 0)) (by (with_reducible repeat (first | refine blk_drewN ?_ _ | refine blk_drew ?_ | refine blk_alloc ?_ _)); refine blk_far ?_ NB101_108.out _; (with_reducible repeat (first | refine blk_drewN ?_ _ | refine blk_drew ?_ | refine blk_alloc ?_ _)); refine blk_far ?_ NB101_108.out _; (with_reducible repeat (first | refine blk_drewN ?_ _ | refine blk_drew ?_ | refine blk_alloc ?_ _)); exact BK101.out) hb); have n2_ := Aside0.mk (blk_below (g := gb102) (o := .cells #[.int .i64 a1_0, .slice A1_1 l1_1.length c1_1] 24 (0, 0)) (by (with_reducible repeat (first | refine blk_drewN ?_ _ | refine blk_drew ?_ | refine blk_alloc ?_ _)); refine blk_far ?_ NB102_108.out _; (with_reducible repeat (first | refine blk_drewN ?_ _ | refine blk_drew ?_ | refine blk_alloc ?_ _)); refine blk_far ?_ NB102_108.out _; (with_reducible repeat (first | refine blk_drewN ?_ _ | refine blk_drew ?_ | refine blk_alloc ?_ _)); exact BK102.out) hb); have n3_ := Aside0.mk (blk_below (g := gb108) (o := .cells #[.int .i64 t103, .slice Ao17 t104.length co17] 24 (0, 0)) (by (with_reducible repeat (first | refine blk_drewN ?_ _ | refine blk_drew ?_ | refine blk_alloc ?_ _)); refine blk_put (cs := #[.int .i64 t103, .slice none 0 0]) ?_ 1 _ rfl; (with_reducible repeat (first | refine blk_drewN ?_ _ | refine blk_drew ?_ | refine blk_alloc ?_ _)); refine blk_put (cs := #[.int .i64 0, .slice none 0 0]) ?_ 0 _ rfl; (with_reducible repeat (first | refine blk_drewN ?_ _ | refine blk_drew ?_ | refine blk_alloc ?_ _)); exact BK108.out) hb); have n4_ := Aside0.mk (below_step (by repeat (first | (with_reducible first | exact HB.out | apply below_alloc | apply pw_below_drewN | apply below_drew1 | refine below_set ?_ GE101.out | refine below_set ?_ GE102.out | refine below_set ?_ GE108.out) | exact HB.out)) hb); clear HO106; clear BK101; clear BK102; clear BK108; clear HB; have HO106 := n0_; have BK101 := n1_; have BK102 := n2_; have BK108 := n3_; have HB := n4_; clear n0_ n1_ n2_ n3_ n4_; (try clear hb); (try clear hb2); (try clear hk); (try clear hi)))
    go_ret
    exact ⟨by first | rfl | (simp [errW_none, errW_some] <;> rfl) | (simp [*, errW_none, errW_some] <;> rfl), by repeat (first | (with_reducible first | exact HB.out | apply below_alloc | apply pw_below_drewN | apply below_drew1 | refine below_set ?_ GE101.out | refine below_set ?_ GE102.out | refine below_set ?_ GE108.out) | exact HB.out)⟩
  · rw [if_neg c5] at H
    have c5b0 : (t107 == 0) = false := beq_eq_false_iff_ne.mpr c5
    have c5b1 : (t107 != 0) = true := bne_iff_ne.mpr c5
    obtain rfl := Option.some.inj H
    go_enter Tryd.func97, Tryd.ntmps97
    go_wp2_with (first | ((with_reducible refine gate_dst (N := 3) rfl ?_); refine box_event ?hg (N := 3) ?hd (cs := #[.int .i64 a0_0, .slice A0_1 l0_1.length c0_1]) (t := 24) ?hr ?_; (case hd => rfl); (case hg => rfl); (case hr => first | (go_simp; done) | (go_simp; rfl)); intro gb101 hg w19 hbox hb; have n0_ := Aside0.mk (below_step (by repeat (first | (with_reducible first | exact HB.out | apply below_alloc | apply pw_below_drewN | apply below_drew1) | exact HB.out)) hb); have n1_ := Aside0.mk (hbox); have n2_ := Aside0.mk ((by rw [hg]; exact (below_size (by repeat (first | (with_reducible first | exact HB.out | apply below_alloc | apply pw_below_drewN | apply below_drew1) | exact HB.out))) : w.heap.size ≤ gb101)); have n3_ := Aside0.mk ((by rw [hg]; exact (below_size (by repeat (first | (with_reducible first | exact HB.out | apply below_alloc | apply pw_below_drewN | apply below_drew1) | exact HB.out))) : w.heap.size ≤ gb101)); clear HB; have HB := n0_; have BK101 := n1_; have GW101 := n2_; have GE101 := n3_; clear n0_ n1_ n2_ n3_; clear hb hbox hg) | ((with_reducible refine gate_dst (N := 4) rfl ?_); refine box_event ?hg (N := 4) ?hd (cs := #[.int .i64 a1_0, .slice A1_1 l1_1.length c1_1]) (t := 24) ?hr ?_; (case hd => rfl); (case hg => rfl); (case hr => first | (go_simp; done) | (go_simp; rfl)); intro gb102 hg w20 hbox hb; have n0_ := Aside0.mk (blk_below (g := gb101) (o := .cells #[.int .i64 a0_0, .slice A0_1 l0_1.length c0_1] 24 (0, 0)) (by (with_reducible repeat (first | refine blk_drewN ?_ _ | refine blk_drew ?_ | refine blk_alloc ?_ _)); exact BK101.out) hb); have n1_ := Aside0.mk (below_step (by repeat (first | (with_reducible first | exact HB.out | apply below_alloc | apply pw_below_drewN | apply below_drew1 | refine below_set ?_ GE101.out) | exact HB.out)) hb); have n2_ := Aside0.mk (hbox); have n3_ := Aside0.mk ((by rw [hg]; exact (below_size (by repeat (first | (with_reducible first | exact HB.out | apply below_alloc | apply pw_below_drewN | apply below_drew1 | refine below_set ?_ GE101.out) | exact HB.out))) : w.heap.size ≤ gb102)); have n4_ := Aside0.mk ((by rw [hg]; exact (below_size (by repeat (first | (with_reducible first | exact HB.out | apply below_alloc | apply pw_below_drewN | apply below_drew1 | refine below_set ?_ GE101.out) | exact HB.out))) : w.heap.size ≤ gb102)); have n5_ := Aside0.mk ((by rw [hg]; exact Nat.ne_of_lt (blk_lt (g := gb101) (o := .cells #[.int .i64 a0_0, .slice A0_1 l0_1.length c0_1] 24 (0, 0)) (by (with_reducible repeat (first | refine blk_drewN ?_ _ | refine blk_drew ?_ | refine blk_alloc ?_ _)); exact BK101.out)) : gb101 ≠ gb102)); have n6_ := Aside0.mk ((by rw [hg]; exact Nat.ne_of_gt (blk_lt (g := gb101) (o := .cells #[.int .i64 a0_0, .slice A0_1 l0_1.length c0_1] 24 (0, 0)) (by (with_reducible repeat (first | refine blk_drewN ?_ _ | refine blk_drew ?_ | refine blk_alloc ?_ _)); exact BK101.out)) : gb102 ≠ gb101)); clear BK101; clear HB; have BK101 := n0_; have HB := n1_; have BK102 := n2_; have GW102 := n3_; have GE102 := n4_; have NB101_102 := n5_; have NB102_101 := n6_; clear n0_ n1_ n2_ n3_ n4_ n5_ n6_; clear hb hbox hg; have hnb21 := NB101_102.out; have hnc21 := NB102_101.out; have hcz22_0 : w20.cell? ⟨gb101, 0, none⟩ = some (.int .i64 a0_0) := (blk_cell BK101.out 0).trans rfl; have hcz22_1 : w20.cell? ⟨gb101, 1, none⟩ = some (.slice A0_1 l0_1.length c0_1) := (blk_cell BK101.out 1).trans rfl; have hfz22_0 := blk_frozen BK101.out 0; have hfz22_1 := blk_frozen BK101.out 1; have hcz23_0 : w20.cell? ⟨gb102, 0, none⟩ = some (.int .i64 a1_0) := (blk_cell BK102.out 0).trans rfl; have hcz23_1 : w20.cell? ⟨gb102, 1, none⟩ = some (.slice A1_1 l1_1.length c1_1) := (blk_cell BK102.out 1).trans rfl; have hfz23_0 := blk_frozen BK102.out 0; have hfz23_1 := blk_frozen BK102.out 1) | ((with_reducible refine gate_callee (f := 120) rfl ?_); refine goesL_ (some 13) rfl rfl Tryd.func120 (by kernel_rfl) rfl #[.agg #[.int .i64 a0_0, .slice A0_1 l0_1.length c0_1], .agg #[.int .i64 a1_0, .slice A1_1 l1_1.length c1_1], .func (.func 98) #[] #[]] rfl (by (try simp only [List.map_toArray, List.map_cons, List.map_nil]); first | done | rfl | (simp only [List.length_drop, List.length_take]; rfl)) ?_; (with_reducible refine (bitset_two_andNot.calls k a0_0 _ _ l0_1 a1_0 (fun k_ => k_ < w.heap.size) _ _ l1_1 a2 t103 t104 t107 _ ?side1 ?side2 ?side3 A4.out).mono ?_); (case side1 => repeat (first | exact (Kd.C_below HR0_1.out HB.out) | (with_reducible refine Kd.C_alloc ?_ _) | (with_reducible refine Kd.C_drewN ?_ _) | (with_reducible refine Kd.C_drew ?_))); (case side2 => exact HC0_1.out); (case side3 => exact Kd.V_mk HC1_1.out (Kd.F_below (Kd.C_F (Kd.heap_int .u64) HR1_1.out) (by repeat (first | (with_reducible first | exact HB.out | apply below_alloc | apply pw_below_drewN | apply below_drew1 | refine below_set ?_ GE101.out | refine below_set ?_ GE102.out) | exact HB.out)))); rintro e w24 ⟨v105, rfl, ho0, hb⟩; refine ⟨_, rfl, ?_⟩; have n0_ := Aside0.mk (Kd.R_lower (Kd.R_mono (ok' := fun k_ => True) ho0 (fun _ hk_ => trivial)) (below_size (by repeat (first | (with_reducible first | exact HB.out | apply below_alloc | apply pw_below_drewN | apply below_drew1 | refine below_set ?_ GE101.out | refine below_set ?_ GE102.out) | exact HB.out)))); have n1_ := Aside0.mk (blk_below (g := gb101) (o := .cells #[.int .i64 a0_0, .slice A0_1 l0_1.length c0_1] 24 (0, 0)) (by (with_reducible repeat (first | refine blk_drewN ?_ _ | refine blk_drew ?_ | refine blk_alloc ?_ _)); exact BK101.out) hb); have n2_ := Aside0.mk (blk_below (g := gb102) (o := .cells #[.int .i64 a1_0, .slice A1_1 l1_1.length c1_1] 24 (0, 0)) (by (with_reducible repeat (first | refine blk_drewN ?_ _ | refine blk_drew ?_ | refine blk_alloc ?_ _)); exact BK102.out) hb); have n3_ := Aside0.mk (below_step (by repeat (first | (with_reducible first | exact HB.out | apply below_alloc | apply pw_below_drewN | apply below_drew1 | refine below_set ?_ GE101.out | refine below_set ?_ GE102.out) | exact HB.out)) hb); clear BK101; clear BK102; clear HB; have HO106 := n0_; have BK101 := n1_; have BK102 := n2_; have HB := n3_; clear n0_ n1_ n2_ n3_; (try clear hb); (try clear hb2); (try clear hk); (try clear hi); (try clear ho0)) | ((with_reducible refine gate_dst (N := 7) rfl ?_); refine box_event ?hg (N := 7) ?hd (cs := #[.int .i64 0, .slice none 0 0]) (t := 24) ?hr ?_; (case hd => rfl); (case hg => rfl); (case hr => first | (go_simp; done) | (go_simp; rfl)); intro gb108 hg w25 hbox hb; have n0_ := Aside0.mk (Kd.R_below (by (with_reducible repeat (first | apply Kd.R_alloc | apply Kd.R_drewN | apply Kd.R_drew)); exact HO106.out) hb); have n1_ := Aside0.mk (blk_below (g := gb101) (o := .cells #[.int .i64 a0_0, .slice A0_1 l0_1.length c0_1] 24 (0, 0)) (by (with_reducible repeat (first | refine blk_drewN ?_ _ | refine blk_drew ?_ | refine blk_alloc ?_ _)); exact BK101.out) hb); have n2_ := Aside0.mk (blk_below (g := gb102) (o := .cells #[.int .i64 a1_0, .slice A1_1 l1_1.length c1_1] 24 (0, 0)) (by (with_reducible repeat (first | refine blk_drewN ?_ _ | refine blk_drew ?_ | refine blk_alloc ?_ _)); exact BK102.out) hb); have n3_ := Aside0.mk (below_step (by repeat (first | (with_reducible first | exact HB.out | apply below_alloc | apply pw_below_drewN | apply below_drew1 | refine below_set ?_ GE101.out | refine below_set ?_ GE102.out) | exact HB.out)) hb); have n4_ := Aside0.mk (hbox); have n5_ := Aside0.mk ((by rw [hg]; exact (below_size (by repeat (first | (with_reducible first | exact HB.out | apply below_alloc | apply pw_below_drewN | apply below_drew1 | refine below_set ?_ GE101.out | refine below_set ?_ GE102.out) | exact HB.out))) : w.heap.size ≤ gb108)); have n6_ := Aside0.mk ((by rw [hg]; exact (below_size (by repeat (first | (with_reducible first | exact HB.out | apply below_alloc | apply pw_below_drewN | apply below_drew1 | refine below_set ?_ GE101.out | refine below_set ?_ GE102.out) | exact HB.out))) : w.heap.size ≤ gb108)); have n7_ := Aside0.mk ((by rw [hg]; exact Nat.ne_of_lt (blk_lt (g := gb101) (o := .cells #[.int .i64 a0_0, .slice A0_1 l0_1.length c0_1] 24 (0, 0)) (by (with_reducible repeat (first | refine blk_drewN ?_ _ | refine blk_drew ?_ | refine blk_alloc ?_ _)); exact BK101.out)) : gb101 ≠ gb108)); have n8_ := Aside0.mk ((by rw [hg]; exact Nat.ne_of_gt (blk_lt (g := gb101) (o := .cells #[.int .i64 a0_0, .slice A0_1 l0_1.length c0_1] 24 (0, 0)) (by (with_reducible repeat (first | refine blk_drewN ?_ _ | refine blk_drew ?_ | refine blk_alloc ?_ _)); exact BK101.out)) : gb108 ≠ gb101)); have n9_ := Aside0.mk ((by rw [hg]; exact Nat.ne_of_lt (blk_lt (g := gb102) (o := .cells #[.int .i64 a1_0, .slice A1_1 l1_1.length c1_1] 24 (0, 0)) (by (with_reducible repeat (first | refine blk_drewN ?_ _ | refine blk_drew ?_ | refine blk_alloc ?_ _)); exact BK102.out)) : gb102 ≠ gb108)); have n10_ := Aside0.mk ((by rw [hg]; exact Nat.ne_of_gt (blk_lt (g := gb102) (o := .cells #[.int .i64 a1_0, .slice A1_1 l1_1.length c1_1] 24 (0, 0)) (by (with_reducible repeat (first | refine blk_drewN ?_ _ | refine blk_drew ?_ | refine blk_alloc ?_ _)); exact BK102.out)) : gb108 ≠ gb102)); clear HO106; clear BK101; clear BK102; clear HB; have HO106 := n0_; have BK101 := n1_; have BK102 := n2_; have HB := n3_; have BK108 := n4_; have GW108 := n5_; have GE108 := n6_; have NB101_108 := n7_; have NB108_101 := n8_; have NB102_108 := n9_; have NB108_102 := n10_; clear n0_ n1_ n2_ n3_ n4_ n5_ n6_ n7_ n8_ n9_ n10_; clear hb hbox hg; have hnb26 := NB108_101.out; have hnc26 := NB101_108.out; have hnb27 := NB108_102.out; have hnc27 := NB102_108.out; have hcz28_0 : w25.cell? ⟨gb108, 0, none⟩ = some (.int .i64 0) := (blk_cell BK108.out 0).trans rfl; have hcz28_1 : w25.cell? ⟨gb108, 1, none⟩ = some (.slice none 0 0) := (blk_cell BK108.out 1).trans rfl; have hfz28_0 := blk_frozen BK108.out 0; have hfz28_1 := blk_frozen BK108.out 1; obtain ⟨Ao29, co29, eo29⟩ := Kd.R_slice HO106.out; subst eo29))
    go_ret
    exact ⟨by first | rfl | (simp [errW_none, errW_some] <;> rfl) | (simp [*, errW_none, errW_some] <;> rfl), by repeat (first | (with_reducible first | exact HB.out | apply below_alloc | apply pw_below_drewN | apply below_drew1 | refine below_set ?_ GE101.out | refine below_set ?_ GE102.out | refine below_set ?_ GE108.out) | exact HB.out)⟩
end Go.Proofs.YtjmkhdhffmlhiaaDoor.PAll
end
