import Derived.Test.YtjmkhdhffmlhiaaDoorBzBitProducts3
import Derived.Laws.IdiomCopy
import Derived.Test.YtjmkhdhffmlhiaaDoorBzBitProducts2
import Derived.SizedLaws
section
namespace Go.Proofs.YtjmkhdhffmlhiaaDoor.PAll
set_option linter.unusedVariables false
open Go.RowKit Go.Shelf Go.Proofs.YtjmkhdhffmlhiaaDoorW.PrintWords Go.Proofs.YtjmkhdhffmlhiaaDoorW.PrintLast Go.Proofs.YtjmkhdhffmlhiaaDoorW.PrintMore
theorem put_words (g cap n base : Nat) (ok : Nat → Prop) : ∀ (ys : List Int) (o : Nat) (xs : List Int) (W : World), Kd.R (Kd.int .u64) 87 W base ok (.slice (some ⟨g, 0, none⟩) n cap) xs → o + ys.length ≤ xs.length →
    Kd.R (Kd.int .u64) 87 (W.setCells g o (ys.map (.int .u64))) base ok (.slice (some ⟨g, 0, none⟩) n cap) (xs.take o ++ ys ++ xs.drop (o + ys.length)) ∧ Kept W (W.setCells g o (ys.map (.int .u64))) (fun k => k = g) ∧ KeepsOthers W (W.setCells g o (ys.map (.int .u64))) ∧ ∀ B w0, Below B w0 W → B ≤ g → Below B w0 (W.setCells g o (ys.map (.int .u64)))
  | [], o, xs, W, h, hl => by
    refine ⟨?_, Kept.refl _ _, KeepsOthers.refl _, fun _ _ h _ => h⟩
    have e : xs.take o ++ [] ++ xs.drop (o + ([] : List Int).length) = xs := by simp
    rw [e]
    exact h
  | y :: ys, o, xs, W, h, hl => by
    simp only [List.length_cons] at hl
    have h1 := Kd.R_putn h (o : Int) y
    rw [Int.toNat_natCast] at h1
    obtain ⟨a1, a2, a3, a4⟩ := put_words g cap n base ok ys (o + 1) (xs.set o y) (W.setCell ⟨g, o, none⟩ (.int .u64 y)) h1 (by rw [List.length_set]; omega)
    have ho : o < xs.length := by omega
    have e : (xs.set o y).take (o + 1) ++ ys ++ (xs.set o y).drop (o + 1 + ys.length) = xs.take o ++ (y :: ys) ++ xs.drop (o + (ys.length + 1)) := by
      rw [List.take_add_one, List.take_set_of_le (by omega), List.drop_set_of_lt (by omega)]
      simp [ho, Nat.add_assoc, Nat.add_comm 1]
    rw [e] at a1
    refine ⟨a1, ⟨?_, fun k hk hn => ?_⟩, (KeepsOthers.setCell _ _ _).trans a3, fun B w0 hB hg => a4 B w0 (hB.setCell hg _) hg⟩
    · have := a2.1; rw [World.size_setCell] at this; exact this
    · have := a2.2 k (by rw [World.size_setCell]; exact hk) hn
      exact this.trans (Below.heap_setCell _ _ _ _ hn)
set_option maxRecDepth 100000 in
theorem copy_words (W : World) (base : Nat) (ok : Nat → Prop) (v : Value) (xs ys : List Int) (A : Option Addr) (c : Nat) (hR : Kd.R (Kd.int .u64) 87 W base ok v xs) (hC : Kd.C (Kd.int .u64) W A ys.length ys) (hl : ys.length = xs.length) :
    ∃ W', (Builtin.copy_ #[22, 22] 3 #[v, .slice A ys.length c]).run Tryd.prog W = .ok (goInt ys.length) W' ∧ Kd.R (Kd.int .u64) 87 W' base ok v ys ∧ Kept W W' (fun k => some k = v.ownBlock) ∧ KeepsOthers W W' ∧ ∀ B w0, Below B w0 W → B ≤ base → Below B w0 W' := by
  have hi : (Tryd.prog.info? 87).map (·.size) = some 1 := by kernel_rfl
  by_cases h0 : ys.length = 0
  · obtain ⟨A', c', rfl⟩ := Kd.R_slice hR
    have hx : xs = [] := List.length_eq_zero_iff.1 (by omega)
    have hy : ys = [] := List.length_eq_zero_iff.1 h0
    refine ⟨W, ?_, ?_, Kept.refl _ _, KeepsOthers.refl _, fun _ _ h _ => h⟩
    · rw [h0]
      exact run_copy_none W _ _ _ _ A' A _ c' 0 c Tryd.underlying22 hi (by simp)
    · rw [hy, ← hx]; exact hR
  · obtain ⟨g, cap, rfl, hgb, hgl, cells, hcells⟩ := Kd.R_form hR (by omega)
    obtain ⟨ad, hA, _⟩ := Kd.at_int hC 0 (by decide) (by omega)
    subst hA
    obtain ⟨a1, a2, a3, a4⟩ := put_words g cap xs.length base ok ys 0 xs W hR (by omega)
    refine ⟨_, ?_, ?_, ⟨a2.1, fun k hk hn => a2.2 k hk (fun e => hn (by rw [e]; rfl))⟩, a3, fun B w0 hB hb => a4 B w0 hB (Nat.le_trans hb hgb)⟩
    · have := run_copy_cells (P := Tryd.prog) W 22 22 3 87 g 0 xs.length cap ad ys.length c (ys.map (.int .u64)) Tryd.underlying22 hi (by rw [List.length_map, hl]; exact (Nat.min_self _).symm)
        (fun j u hu => by
          rw [List.getElem?_map] at hu
          obtain ⟨y, hy, rfl⟩ := Option.map_eq_some_iff.1 hu
          obtain ⟨hj, hy2⟩ := List.getElem?_eq_some_iff.1 hy
          obtain ⟨ad', e1, e2⟩ := Kd.at_int hC (j : Int) (by omega) (by omega)
          injection e1 with e1
          subst e1
          rw [Int.toNat_natCast, rd_nat] at e2
          rw [e2, List.getD_eq_getElem?_getD, hy]
          rfl)
        (fun j hj => by
          rw [List.length_map] at hj
          have := (Kd.R_celln (0 : Int) hR (j : Int) (by omega) (by omega)).1
          rw [Int.toNat_natCast] at this
          rw [Nat.zero_add, this]; rfl)
        (fun j hj => by
          rw [List.length_map] at hj
          have := (Kd.R_celln (0 : Int) hR (j : Int) (by omega) (by omega)).2
          rw [Int.toNat_natCast] at this
          rw [Nat.zero_add, this])
        (fun u hu => by
          obtain ⟨y, _, rfl⟩ := List.mem_map.1 hu
          rfl)
      rw [List.length_map] at this
      exact this
    · have e : xs.take 0 ++ ys ++ xs.drop (0 + ys.length) = ys := by
        rw [List.take_zero, List.nil_append, List.drop_of_length_le (by omega), List.append_nil]
      rw [e] at a1
      exact a1
theorem copy_row (rows : List S24) (j : Nat) (w0 W : World) (ok : Nat → Prop) (g cap : Nat) (hB : Below w0.heap.size w0 W) (hS : Kd.S k24 24 W w0.heap.size ok (.slice (some ⟨g, 0, none⟩) rows.length cap) rows) (hj : j < rows.length) (ys : List Int) (A1 : Option Addr) (c1 : Nat)
    (hx : Kd.C (Kd.int .u64) W A1 ys.length ys) (hl : ys.length = (rd_T24 rows (j : Int)).f1.length) :
    ∃ v W', W.cell? ⟨g, j * 2 + 1, none⟩ = some v ∧ (Builtin.copy_ #[22, 22] 3 #[v, .slice A1 ys.length c1]).run Tryd.prog W = .ok (goInt ys.length) W' ∧
        Kd.S k24 24 W' w0.heap.size ok (.slice (some ⟨g, 0, none⟩) rows.length cap) (rows.set j ⟨(rd_T24 rows (j : Int)).f0, ys⟩) ∧ Below w0.heap.size w0 W' ∧ Kept W W' ok := by
  obtain ⟨oki, c, hcl, hM, hcc, hfr, hoki, hH⟩ := Kd.S_elem hS (rd_T24 rows (j : Int)) (j : Int) (by omega) (by omega)
  rw [Int.toNat_natCast] at hM hcc hfr
  have he : rows.getD j (rd_T24 rows (j : Int)) = rd_T24 rows (j : Int) := by rw [rdT_nat rows hj, List.getD_eq_getElem?_getD, List.getElem?_eq_getElem hj]; rfl
  rw [he] at hM
  obtain ⟨v, rfl, hR⟩ := k24_openM hM
  obtain ⟨W', hrun, hR', hK', hO', hBl⟩ := copy_words W w0.heap.size oki v _ ys A1 c1 hR hx hl
  refine ⟨v, W', hcc 1 _ rfl, hrun, ?_, hBl _ _ hB (Nat.le_refl _), ⟨hK'.1, fun k hk hn => hK'.2 k hk (fun h => hn (hoki k (hR.1 k h.symm)).1)⟩⟩
  have h2 := Kd.H_back (Kd.H_kept hH hK' (fun k _ h he => h (hR.1 k he.symm))) (k24_mkM W' w0.heap.size oki ⟨(rd_T24 rows (j : Int)).f0, ys⟩ hR') (fun _ h => h)
  rwa [Int.toNat_natCast] at h2
end Go.Proofs.YtjmkhdhffmlhiaaDoor.PAll
end
section
namespace Go.Proofs.YtjmkhdhffmlhiaaDoor.PAll
set_option linter.unusedVariables false
set_option linter.unusedSimpArgs false
open Go.RowKit Go.Shelf Go.Proofs.YtjmkhdhffmlhiaaDoorW.PrintWords Go.Proofs.YtjmkhdhffmlhiaaDoorW.PrintLast Go.Proofs.YtjmkhdhffmlhiaaDoorW.PrintMore
attribute [local go_sem] Oper.semAt_some
def makeS (j : Nat) (rows : List S24) (s : S24) : List S24 := rows.set j ⟨(rd_T24 rows (j : Int)).f0, s.f1⟩
def makeA : Nat → List S24 → List S24 → List S24
  | _, [], rows => rows
  | j, s :: l, rows => makeA (j + 1) l (makeS j rows s)
theorem Rok.make {n m j : Nat} {rows : List S24} (h : Rok n m rows) {s : S24} (hs : s.f1.length = (m + 63) / 64) : Rok n m (makeS j rows s) := by
  refine ⟨by unfold makeS; rw [List.length_set, h.1], fun r hr => ?_⟩
  unfold makeS at hr
  rcases List.mem_or_eq_of_mem_set hr with hr | rfl
  · exact h.2 r hr
  · exact hs
set_option maxHeartbeats 8000000 in
set_option maxRecDepth 100000 in
theorem MakeTable_yes (k n : Nat) (A0 : Option Addr) (c0 : Nat) (l0 rows : List S24) (w : World) (hr0 : Kd.C k24 w A0 l0.length l0) (hc0 : l0.length ≤ c0) (hT : TabP (n : Int) l0)
    (hM : bitset_fit.f k (n : Int) l0 = some 0) (hBl : bitset_blanks.f k (n : Int) (l0.length : Int) = some ((n : Int), rows)) (hRk : Rok l0.length n rows) :
    Calls Tryd.prog 48 #[.int .i64 n, .slice A0 l0.length c0] w fun e w' => ∃ v : Value, e = .returned (.tuple #[.agg #[.int .i64 (n : Int), v], .int .i64 0]) ∧ Kd.S k24 24 w' w.heap.size (fun _ => True) v (makeA 0 l0 rows) ∧ Below w.heap.size w w' := by
  have hu24 := Tryd.underlying24
  have hu56 := Tryd.underlying56
  have HC := Aside0.mk hr0
  have HM := Aside0.mk hM
  have HBl := Aside0.mk hBl
  clear hr0 hM hBl
  have hl4 : l0.length ≤ 4096 := hT.2.2.1
  have hn4 : n ≤ 4096 := by have := hT.2.1; omega
  obtain ⟨o2, ho2⟩ : ∃ o2 : Obj, o2 = .cells #[.int .i64 0, .slice none 0 0] 56 (0, 0) := ⟨_, rfl⟩
  have K1 : (w.alloc o2).heap[w.heap.size]? = some o2 := blk_new w o2
  have HB0 : Below w.heap.size w (w.alloc o2) := below_alloc (Below.refl _ _) _
  have hs3 : w.heap.size + 1 ≤ (w.alloc o2).heap.size := by rw [World.size_alloc]; omega
  rw [ho2] at K1 HB0 hs3
  clear ho2 o2
  have KD := Aside0.mk K1
  have HB := Aside0.mk HB0
  have HS3 := Aside0.mk hs3
  clear K1 HB0 hs3
  refine (callsIn_wide (n := 6)).1 ?_
  refine callsIn_of_wp Tryd.func48 rfl trivial ?_ rfl
  simp only [Tryd.ntmps48, List.size_toArray, List.length_cons, List.length_nil, Nat.reduceAdd, Nat.reduceSub, Array.replicate_succ, Array.replicate_zero, List.push_toArray, List.append_toArray, List.nil_append, List.cons_append]
  gi_wp2_with fail
  refine ⟨trivial, ?_⟩; gi_at_call 90
  refine (callsIn_wide.2 (bitset_fit.calls k n _ _ l0 0 _ (Kd.C_alloc HC.out _) hc0 HM.out)).mono ?_
  rintro e w1 ⟨rfl, hb⟩
  have n2_ := Aside0.mk (blk_below KD.out hb); have n3_ := Aside0.mk (below_step HB.out hb); have n4_ := Aside0.mk (Nat.le_trans HS3.out (below_size hb))
  clear KD HB hb HS3
  have KD := n2_; have HB := n3_; have HS3 := n4_
  clear n2_ n3_ n4_
  have hgt : ¬ ((4096 : Int) < (l0.length : Int)) := by omega
  gi_wp2_with fail
  refine ⟨trivial, ?_⟩; gi_at_call 86
  refine (callsIn_wide.2 (bitset_blanks.calls k n l0.length n rows _ HBl.out)).mono ?_
  rintro e w2 ⟨vt, rfl, ho, hb⟩
  obtain ⟨At, ct, et⟩ := Kd.S_slice ho
  subst et
  have n2_ := Aside0.mk (blk_below KD.out hb); have n3_ := Aside0.mk (below_step HB.out hb)
  have HT := Aside0.mk (Kd.S_lower (Kd.S_mono (Kd.S_bound ho) (fun k_ hk_ => show w1.heap.size ≤ k_ ∧ k_ < w2.heap.size from ⟨hk_.2.1, hk_.2.2.1⟩)) (below_size HB.out))
  have HS2 := Aside0.mk (below_size hb)
  clear KD HB hb ho
  have KD := n2_; have HB := n3_
  clear n2_ n3_
  gi_wp2_with fail
  refine wpIn_loop (fun a W => ∃ (j : Nat) (rk : List S24) (u8 u9 u28 u29 u30 u31 u32 u33 u34 u35 u36 u37 u38 u39 u40 u41 : Value), a = { tmps := #[.int .i64 n, .slice A0 l0.length c0, undef, undef, .pointer (some ⟨w.heap.size, 0, none⟩), .int .i64 0, .int .i64 0, .pointer (some ⟨w2.heap.size, 0, none⟩), u8, u9, .int .i64 n, .slice A0 l0.length c0, .int .i64 0, .int .i64 0, .bool false, undef, undef, .slice A0 l0.length c0, .int .i64 l0.length, .bool (decide ((4096 : Int) < (l0.length : Int))), undef, .int .i64 n, .slice A0 l0.length c0, .int .i64 l0.length, .agg #[.int .i64 n, .slice At rows.length ct], .slice A0 l0.length c0, .int .i64 l0.length, .int .i64 j, u28, u29, u30, u31, u32, u33, u34, u35, u36, u37, u38, u39, u40, u41, undef], defers := [] } ∧ Aside0 (j ≤ l0.length) ∧ Aside0 (makeA j (l0.drop j) rk = makeA 0 l0 rows) ∧ Aside0 (Rok l0.length n rk) ∧
      Aside0 (W.heap[w.heap.size]? = some (.cells #[.int .i64 0, .slice none 0 0] 56 (0, 0))) ∧ Aside0 (W.heap[w2.heap.size]? = some (.cells #[.int .i64 n, .slice At rows.length ct] 56 (0, 0))) ∧
      Aside0 (Kd.S k24 24 W w.heap.size (fun k_ => w1.heap.size ≤ k_ ∧ k_ < w2.heap.size) (.slice At rows.length ct) rk) ∧ Aside0 (Below w.heap.size w W))
    (fun a _ => l0.length - (intOf (a.tmps.getD 27 undef)).toNat) ?start ?round
  case start =>
    exact ⟨0, rows, undef, undef, undef, undef, undef, undef, undef, undef, undef, undef, undef, undef, undef, undef, undef, undef, rfl, ⟨Nat.zero_le _⟩, ⟨rfl⟩, ⟨hRk⟩, ⟨blk_alloc KD.out _⟩, ⟨blk_new _ _⟩, ⟨Kd.S_alloc HT.out _⟩, ⟨below_alloc HB.out _⟩⟩
  case round =>
    clear KD HB HT
    rintro a wr ⟨j, rk, u8, u9, u28, u29, u30, u31, u32, u33, u34, u35, u36, u37, u38, u39, u40, u41, rfl, hj, hA, hRj, KD, KU, HT, HB⟩
    by_cases hlt : j < l0.length
    · obtain ⟨ad, A1, c1, eA, q0w, q1w, hlc, hC1⟩ := at_T24 HC.out (j : Int) (by omega) (by omega)
      subst eA
      simp only [Int.toNat_natCast] at q0w q1w
      obtain ⟨s, hs⟩ : ∃ s, rd_T24 l0 (j : Int) = s := ⟨_, rfl⟩
      have hsl : s = l0[j] := by rw [← hs, rdT_nat l0 hlt]
      rw [hs] at q0w q1w hlc hC1
      have hsm : MayP (n : Int) s.f1 ∧ s.f0 = (n : Int) := by
        have := hT.2.2.2 _ (List.getElem_mem hlt)
        rw [← hsl] at this
        refine ⟨?_, this.2⟩
        have h2 := this.1; unfold MayS at h2; rwa [this.2] at h2
      obtain ⟨s0, ws⟩ := s
      obtain rfl : s0 = (n : Int) := hsm.2
      simp only at q0w q1w hlc hC1 hsm
      have q0 := (HB.out.cell (World.block_lt_of_cell? w _ q0w)).trans q0w
      have q1 := (HB.out.cell (World.block_lt_of_cell? w _ q1w)).trans q1w
      have hd : decide (j < l0.length) = true := decide_eq_true hlt
      have HC1 := Aside0.mk hC1
      clear hC1 q0w q1w
      gi_wp2_with fail
      have hUr := blk_lt KU.out
      have hw12 : w.heap.size + 1 ≤ w1.heap.size := HS3.out
      have hwl : ws.length = (n + 63) / 64 := by simpa using hsm.1.2.2.1
      have KD4 := Aside0.mk (blk_drew (blk_alloc KD.out (.cells #[.int .i64 n, .slice A1 ws.length c1] 24 (0, 0))))
      have KU4 := Aside0.mk (blk_drew (blk_alloc KU.out (.cells #[.int .i64 n, .slice A1 ws.length c1] 24 (0, 0))))
      have KS4 := Aside0.mk (blk_drew (blk_new wr (.cells #[.int .i64 n, .slice A1 ws.length c1] 24 (0, 0))))
      have HT4 := Aside0.mk (Kd.S_drew (Kd.S_alloc HT.out (.cells #[.int .i64 n, .slice A1 ws.length c1] 24 (0, 0))))
      have HB4 := Aside0.mk (below_drew1 (below_alloc HB.out (.cells #[.int .i64 n, .slice A1 ws.length c1] 24 (0, 0))))
      have hjl : j < rk.length := by rw [hRj.out.1]; exact hlt
      obtain ⟨g, cap, ev, hgb, hgl, cells, hcells⟩ := Kd.S_form HT.out (by omega)
      injection ev with e1 e2 e3
      subst e1 e3
      have hT4 := HT4.out
      rw [e2] at hT4
      obtain ⟨v, W9, z1, hrun, hS9, hB9, hK9⟩ := copy_row rk j w _ _ g ct HB4.out hT4 hjl ws A1 c1 (Kd.C_below HC1.out HB4.out) (by rw [rdT_nat rk hjl, hRj.out.2 _ (List.getElem_mem hjl)]; exact hwl)
      have u1 := (blk_cell KU4.out 1).trans rfl
      rw [e2] at u1
      simp only [List.getElem?_toArray, List.getElem?_cons_zero, List.getElem?_cons_succ] at u1
      have hmx : Tryd.prog.follows .mixedOrders = true := by kernel_rfl
      have HE2 := Aside0.mk e2
      have HWL := Aside0.mk hwl
      have HRUN := Aside0.mk hrun
      clear e2 hwl hrun
      refine wpIn_wide.2 ?_
      refine start_ (n := 9) (S := fun w' => w'.cell? ⟨w2.heap.size, 1, none⟩ = some (.slice (some ⟨g, 0, none⟩) rk.length ct) ∧ w'.cell? ⟨wr.heap.size, 1, none⟩ = some (.slice A1 ws.length c1) ∧ w'.cell? ⟨g, j * 2 + 1, none⟩ = some v) (ds := [8]) #[false, false, false, false, false, false, false, false, false] hmx (by kernel_rfl) rfl ⟨u1, (blk_cell KS4.out 1).trans rfl, z1⟩ (fun hHeld => ?_)
      clear u1 z1
      generalize World.drew (wr.alloc (.cells #[.int .i64 n, .slice A1 ws.length c1] 24 (0, 0))) = W4 at KD4 KU4 KS4 HT4 HB4 hT4 hHeld HRUN hK9 ⊢
      refine pure_ (i := 0) (N := some 32) (v := ?_) (a' := ?_) #[true, false, false, false, false, false, false, false, false] rfl rfl (by kernel_rfl) (fun _ _ _ h => h) (Or.inl ⟨by rfl, ?_⟩) ?_ ?_
      rotate_left
      · intro w'
        go_simp
        with_reducible rfl
      rotate_left
      · simp only [Act.put, List.setIfInBounds_toArray, List.set_cons_zero, List.set_cons_succ, i64_w, i32_w]
        rfl
      refine pure_ (i := 2) (N := some 34) (v := ?_) (a' := ?_) #[true, false, true, false, false, false, false, false, false] rfl rfl (by kernel_rfl) (fun _ _ _ h => h) (Or.inl ⟨by rfl, ?_⟩) ?_ ?_
      rotate_left
      · intro w'
        go_simp
        with_reducible rfl
      rotate_left
      · simp only [Act.put, List.setIfInBounds_toArray, List.set_cons_zero, List.set_cons_succ, i64_w, i32_w]
        rfl
      refine pure_ (i := 6) (N := some 38) (v := ?_) (a' := ?_) #[true, false, true, false, false, false, true, false, false] rfl rfl (by kernel_rfl) (fun _ _ _ h => h) (Or.inl ⟨by rfl, ?_⟩) ?_ ?_
      rotate_left
      · intro w'
        go_simp
        with_reducible rfl
      rotate_left
      · simp only [Act.put, List.setIfInBounds_toArray, List.set_cons_zero, List.set_cons_succ, i64_w, i32_w]
        rfl
      refine take_ (i := 1) (N := some 33) (v := ?_) (a' := ?_) #[true, true, true, false, false, false, true, false, false] rfl rfl (by kernel_rfl) (fun _ _ _ h => h) (Or.inl ⟨by rfl, ?_⟩) hHeld ?_ ?_
      rotate_left
      · rintro w' ⟨s0, s1, s2⟩
        go_simp
        with_reducible rfl
      rotate_left
      · simp only [Act.put, List.setIfInBounds_toArray, List.set_cons_zero, List.set_cons_succ, i64_w, i32_w]
        rfl
      refine take_ (i := 7) (N := some 39) (v := ?_) (a' := ?_) #[true, true, true, false, false, false, true, true, false] rfl rfl (by kernel_rfl) (fun _ _ _ h => h) (Or.inl ⟨by rfl, ?_⟩) hHeld ?_ ?_
      rotate_left
      · rintro w' ⟨s0, s1, s2⟩
        go_simp
        with_reducible rfl
      rotate_left
      · simp only [Act.put, List.setIfInBounds_toArray, List.set_cons_zero, List.set_cons_succ, i64_w, i32_w]
        rfl
      refine pure_ (i := 3) (N := some 35) (v := ?_) (a' := ?_) #[true, true, true, true, false, false, true, true, false] rfl rfl (by kernel_rfl) (fun _ _ _ h => h) (Or.inl ⟨by rfl, ?_⟩) ?_ ?_
      rotate_left
      · intro w'
        go_simp
        with_reducible rfl
      rotate_left
      · simp only [Act.put, List.setIfInBounds_toArray, List.set_cons_zero, List.set_cons_succ, i64_w, i32_w]
        rfl
      refine pure_ (i := 4) (N := some 36) (v := ?_) (a' := ?_) #[true, true, true, true, true, false, true, true, false] rfl rfl (by kernel_rfl) (fun _ _ _ h => h) (Or.inl ⟨by rfl, ?_⟩) ?_ ?_
      rotate_left
      · intro w'
        go_simp
        with_reducible rfl
      rotate_left
      · simp only [Act.put, List.setIfInBounds_toArray, List.set_cons_zero, List.set_cons_succ, i64_w, i32_w]
        rfl
      refine take_ (i := 5) (N := some 37) (v := ?_) (a' := ?_) #[true, true, true, true, true, true, true, true, false] rfl rfl (by kernel_rfl) (fun _ _ _ h => h) (Or.inl ⟨by rfl, ?_⟩) hHeld ?_ ?_
      rotate_left
      · rintro w' ⟨s0, s1, s2⟩
        go_simp
        with_reducible rfl
      rotate_left
      · simp only [Act.put, List.setIfInBounds_toArray, List.set_cons_zero, List.set_cons_succ, i64_w, i32_w]
        rfl
      refine last_ (i := 8) (N := some 40) #[true, true, true, true, true, true, true, true, true] rfl rfl (by kernel_rfl) (by decide) (fun K hK => ?_)
      have hrun := HRUN.out
      refine value_ (v := .int .i64 (ws.length : Int)) (w1 := W9) (by rfl) rfl ?_ ?_
      · go_simp
      clear hrun
      refine hK.out _ _ ?_
      clear hK K
      refine done_ (by kernel_rfl) ?_
      have KD6 := Aside0.mk ((hK9.2 _ (blk_lt KD4.out) (fun h => by omega)).trans KD4.out)
      have KU6 := Aside0.mk ((hK9.2 _ (blk_lt KU4.out) (fun h => by omega)).trans KU4.out)
      gi_wp2_with fail
      rw [show ((j : Int) + 1) = ((j + 1 : Nat) : Int) from by omega]
      refine ⟨⟨j + 1, makeS j rk ⟨(n : Int), ws⟩, _, _, _, _, _, _, _, _, _, _, _, _, _, _, _, _, rfl, ⟨hlt⟩, ⟨?_⟩, ⟨hRj.out.make HWL.out⟩, KD6, KU6, ⟨?_⟩, ⟨hB9⟩⟩, ?_⟩
      · have := hA.out
        rw [List.drop_eq_getElem_cons hlt, ← hsl] at this
        exact this
      · rw [HE2.out]
        exact hS9
      · show l0.length - (intOf (.int .i64 ((j + 1 : Nat) : Int))).toNat < l0.length - (intOf (.int .i64 (j : Int))).toNat
        simp only [intOf, Int.toNat_natCast]
        omega
    · have hje : j = l0.length := by have := hj.out; omega
      subst hje
      have hd : decide (l0.length < l0.length) = false := by simp
      have q0 := (blk_cell KU.out 0).trans rfl
      have q1 := (blk_cell KU.out 1).trans rfl
      have q2 := (blk_cell KD.out 0).trans rfl
      have q3 := (blk_cell KD.out 1).trans rfl
      have z0 := blk_frozen KD.out 0
      have z1 := blk_frozen KD.out 1
      gi_wp2_with fail
      have hw12 : w.heap.size + 1 ≤ w1.heap.size := HS3.out
      obtain ⟨X, hX⟩ : ∃ X, (wr.setCell ⟨w.heap.size, 0, none⟩ (Value.int IntKind.i64 n)).setCell ⟨w.heap.size, 1, none⟩ (Value.slice At rows.length ct) = X := ⟨_, rfl⟩
      have hKX : Kept wr X (fun k_ => k_ = w.heap.size) := by
        refine ⟨by rw [← hX, World.size_setCell, World.size_setCell]; exact Nat.le_refl _, fun k_ hk_ hn_ => ?_⟩
        rw [← hX, Below.heap_setCell _ _ _ _ hn_, Below.heap_setCell _ _ _ _ hn_]
      have hXg : X.heap[w.heap.size]? = some (.cells #[.int .i64 n, .slice At rows.length ct] 56 (0, 0)) := hX ▸ blk_put (blk_put KD.out 0 (Value.int IntKind.i64 n) rfl) 1 (Value.slice At rows.length ct) rfl
      have hXB := wb (g := w.heap.size) hX.symm HB.out (Nat.le_refl _)
      have hXS := Kd.S_kept HT.out hKX (fun k_ hk_ e => by omega)
      try rw [hX]
      have c0 := (blk_cell hXg 0).trans rfl
      have c1 := (blk_cell hXg 1).trans rfl
      refine bodyPost_ret (v := .tuple #[.agg #[.int .i64 n, .slice At rows.length ct], .int .i64 0]) ?_ rfl ⟨_, rfl, ?_, hXB⟩
      · simp [results, Tryd.f48, go_sem, c0, c1]
      · have hA2 : rk = makeA 0 l0 rows := by
          have := hA.out
          rw [List.drop_length] at this
          exact this
        rw [← hA2]
        exact Kd.S_mono hXS (fun _ _ => trivial)
end Go.Proofs.YtjmkhdhffmlhiaaDoor.PAll
end
section
namespace Go.Proofs.YtjmkhdhffmlhiaaDoor.PAll
set_option linter.unusedVariables false
set_option linter.unusedSimpArgs false
open Go.RowKit Go.Proofs.YtjmkhdhffmlhiaaDoorW.PrintWords Go.Proofs.YtjmkhdhffmlhiaaDoorW.PrintLast Go.Proofs.YtjmkhdhffmlhiaaDoorW.PrintMore
theorem or_same {x : Int} (h : Wd x) : Go.bits .or .u64 x x = x := tb_ext (or_eq x x).2 h fun j _ => by rw [tb_or h h, Bool.or_self]
set_option maxHeartbeats 4000000 in
set_option maxRecDepth 100000 in
theorem fold_or_self (r1 : Int) (P0_1_ : Nat → Prop) (u9000_ : Value) (l0_1 : List Int) (g0 o0 : Nat) (w0 w : World) (hB : Below w0.heap.size w0 w) (ho0_1 : Kd.R (Kd.int .u64) 87 w w0.heap.size P0_1_ u9000_ l0_1) (hwd : Wds l0_1)
    (hel : ∀ W_, Kept w W_ (fun k_ => P0_1_ k_) → W_.cell? ⟨g0, o0, none⟩ = some (.int .i64 r1) ∧ W_.cell? ⟨g0, o0 + 1, none⟩ = some u9000_) :
    Calls Tryd.prog 88 #[.agg #[.int .i64 r1, u9000_], .slice (some ⟨g0, o0, none⟩) 1 1, .func (.func 89) #[] #[]] w fun e w' => e = .returned (.agg #[.int .i64 r1, u9000_]) ∧ Kd.R (Kd.int .u64) 87 w' w0.heap.size (fun k_ => (P0_1_ k_ ∨ w.heap.size ≤ k_)) u9000_ l0_1 ∧ Below w0.heap.size w0 w' ∧ Kept w w' (fun k_ => P0_1_ k_) := by
  have HEL := Aside0.mk hel
  have HWD := Aside0.mk hwd
  clear hel hwd
  have HB := Aside0.mk hB
  have HO := Aside0.mk ho0_1
  have hu26 := Tryd.underlying24
  clear hB ho0_1
  obtain ⟨Au, cu, hu⟩ := Kd.R_slice HO.out
  subst hu
  go_enter Tryd.func88, Tryd.ntmps88
  go_wp2_with fail
  go_loopg [13] 1 (fun gk v13 wr => ∃ (k : Nat), v13 = .int .i64 k ∧ Aside0 (k ≤ 1) ∧ Aside0 (gk + k = 1) ∧ Aside0 (Kd.R (Kd.int .u64) 87 wr w0.heap.size (fun k_ => (P0_1_ k_ ∨ w.heap.size ≤ k_)) (.slice Au l0_1.length cu) l0_1) ∧ Aside0 (Below w0.heap.size w0 wr) ∧ Aside0 (Kept w wr (fun k_ => P0_1_ k_)) ∧ Aside0 (wr.heap[w.heap.size]? = some (.cells #[.int .i64 r1, .slice Au l0_1.length cu] 24 (0, 0))) ∧ Aside0 (wr.heap[w.heap.size + 1]? = some (.cells #[.int .i64 0, .slice none 0 0] 24 (0, 0))))
  case atStart =>
    refine ⟨0, rfl, ⟨by omega⟩, ⟨by simp⟩, ⟨?_⟩, ⟨?_⟩, ⟨?_⟩, ⟨?_⟩, ⟨?_⟩⟩
    · exact Kd.R_mono (Kd.R_alloc (Kd.R_alloc HO.out _) _) (fun _ h => .inl h)
    · exact (HB.out.alloc HB.out.size _).alloc (by simp; exact Nat.le_succ_of_le HB.out.size) _
    · exact (((Kept.refl w _).alloc _).alloc _)
    · exact blk_alloc (blk_new w _) _
    · exact (by have := blk_new (w.alloc (.cells #[.int .i64 r1, .slice Au l0_1.length cu] 24)) (.cells #[.int .i64 0, .slice none 0 0] 24); simpa using this)
  case round =>
    obtain ⟨k, rfl, hk, hg, hO, hB, hK, b3, b6⟩ := hrel
    by_cases hlt : k < 1
    · obtain ⟨gk', rfl⟩ : ∃ m, gk = m + 1 := ⟨gk - 1, by have := hg.out; omega⟩
      obtain rfl : k = 0 := by omega
      obtain ⟨q0, q1⟩ := HEL.out wr hK.out
      have hm2 := (Kd.R_reads' hO.out).2.2.2.1
      have hd : decide (0 < 1) = true := by decide
      go_wp2_with fail
      obtain ⟨wo, rfl⟩ : ∃ wo : World, wo = wr := ⟨_, rfl⟩
      go_loopg [20] (l0_1.length) (fun gj v20 w2 => ∃ (i : Nat), v20 = .int .i64 i ∧ Aside0 (gj + i = l0_1.length) ∧ Aside0 (Kd.R (Kd.int .u64) 87 w2 w0.heap.size (fun k_ => (P0_1_ k_ ∨ w.heap.size ≤ k_)) (.slice Au l0_1.length cu) l0_1) ∧ Aside0 (Below w0.heap.size w0 w2) ∧ Aside0 (Kept w w2 (fun k_ => P0_1_ k_)) ∧ Aside0 (w2.heap[w.heap.size]? = some (.cells #[.int .i64 r1, .slice Au l0_1.length cu] 24 (0, 0))) ∧ Aside0 (w2.heap[w.heap.size + 1]? = some (.cells #[.int .i64 0, .slice none 0 0] 24 (0, 0))))
      case atStart => exact ⟨0, rfl, ⟨by simp⟩, ⟨Kd.R_alloc hO.out _⟩, ⟨hB.out.alloc hB.out.size _⟩, ⟨hK.out.alloc _⟩, ⟨blk_alloc b3.out _⟩, ⟨blk_alloc b6.out _⟩⟩
      case round =>
        obtain ⟨i, rfl, hg2, hO2, hB2, hK2, b32, b62⟩ := hrel
        by_cases hi : i < l0_1.length
        · obtain ⟨gj_, rfl⟩ : ∃ m, gk = m + 1 := ⟨gk - 1, by have := hg2.out; omega⟩
          obtain ⟨g, cap, eg, hgb, hgl, cells, hcells⟩ := Kd.R_form hO2.out (by omega)
          injection eg with eg1 eg2 eg3
          subst eg1
          obtain ⟨hc, hf⟩ := Kd.R_cell (0 : Int) hO2.out (i : Int) (by omega) (by omega)
          rw [Int.toNat_natCast] at hc hf
          have q0' := cell_of_row wr w.heap.size 1 _ _ _ b32.out
          simp only [List.getElem?_toArray, List.getElem?_cons_zero, List.getElem?_cons_succ] at q0'
          have hd2 : decide (i < l0_1.length) = true := decide_eq_true hi
          obtain ⟨vi, hvi⟩ : ∃ vi, rdOf (0 : Int) l0_1 (i : Int) = vi := ⟨_, rfl⟩
          rw [hvi] at hc
          have HVI := Aside0.mk hvi
          have HCELL := Aside0.mk hcells
          clear hvi eg2 eg3 q0 q1 hcells
          go_wp2_with fail
          go_still_tail 12, (by kernel_rfl)
          still_call (calls_or vi vi _)
          repeat still_step
          refine wpStill_nil ?_
          go_wp2
          have hne3 : (⟨g, i, none⟩ : Addr).block ≠ w.heap.size := fun e => by
            have h1 := b32.out
            have h2 : g = w.heap.size := e
            rw [← h2, HCELL.out] at h1
            cases h1
          have hne6 : (⟨g, i, none⟩ : Addr).block ≠ w.heap.size + 1 := fun e => by
            have h1 := b62.out
            have h2 : g = w.heap.size + 1 := e
            rw [← h2, HCELL.out] at h1
            cases h1
          have hput := (Kd.R_putn hO2.out (i : Int) (Go.bits .or .u64 vi vi))
          rw [Int.toNat_natCast] at hput
          go_roundg gj_
          case rel =>
            have hset : l0_1.set i (Go.bits .or .u64 vi vi) = l0_1 := by
              have h3 := HVI.out
              have h4 : l0_1[i] = vi := by rw [← h3]; simp [rdOf, List.getD_eq_getElem?_getD, List.getElem?_eq_getElem hi]
              rw [or_same (HWD.out vi (h4 ▸ List.getElem_mem hi)), ← h4]
              exact List.set_getElem_self hi
            rw [hset] at hput
            exact ⟨i + 1, by go_num, ⟨by have := hg2.out; omega⟩, ⟨Kd.R_drew hput⟩, ⟨below_drew (hB2.out.setCell hgb _)⟩, ⟨(hK2.out.setCell ((hO2.out.1 g rfl).imp id id) _).drew⟩, ⟨blk_drew (blk_far b32.out hne3.symm _)⟩, ⟨blk_drew (blk_far b62.out hne6.symm _)⟩⟩
          case measure => omega
        · have e := Lib.hid (show i = l0_1.length by have := hg2.out; omega)
          have hd2 : decide (i < l0_1.length) = false := decide_eq_false hi
          clear q0 q1
          go_wp2
          go_roundg gk'
          case rel => exact ⟨1, by go_num, ⟨by omega⟩, ⟨by have := hg.out; omega⟩, hO2, hB2, hK2, b32, b62⟩
          case measure => omega
    · obtain rfl : k = 1 := by have := hk.out; omega
      have hd : decide (1 < 1) = false := by decide
      have q0 := cell_of_row wr w.heap.size 0 _ _ _ b3.out
      have q1 := cell_of_row wr w.heap.size 1 _ _ _ b3.out
      have f0 := free_of_row b6.out 0
      have f1 := free_of_row b6.out 1
      have g0 := cell_of_row wr (w.heap.size + 1) 0 _ _ _ b6.out
      have g1 := cell_of_row wr (w.heap.size + 1) 1 _ _ _ b6.out
      simp only [List.getElem?_toArray, List.getElem?_cons_zero, List.getElem?_cons_succ] at q0 q1 g0 g1
      clear hlt
      go_wp2
      refine bodyPost_ret (results_cell_row rfl _ _ (w.heap.size + 1) 24 #[.int .i64 r1, .slice Au l0_1.length cu] (0, 0) _ rfl ?_ Tryd.underlying24 rfl (by kernel_rfl)) rfl ?_
      · refine blk_put (cs := #[.int .i64 r1, .slice none 0 0]) ?_ 1 _ rfl
        refine blk_put (cs := #[.int .i64 0, .slice none 0 0]) ?_ 0 _ rfl
        exact b6.out
      · skip
        refine ⟨rfl, ?_, ?_, ?_⟩
        · exact Kd.R_mono (Kd.R_far (p := ⟨w.heap.size + 1, 1, none⟩) (Kd.R_far (p := ⟨w.heap.size + 1, 0, none⟩) (Kd.R_types hO.out b6.out (by decide)) (fun _ hk => hk.2) _) (fun _ hk => hk.2) _) (fun _ hk => hk.1)
        · exact (hB.out.setCell (by simp; exact Nat.le_succ_of_le HB.out.size) _).setCell (by simp; exact Nat.le_succ_of_le HB.out.size) _
        · exact (hK.out.setCell (.inr (by simp)) _).setCell (.inr (by simp)) _
end Go.Proofs.YtjmkhdhffmlhiaaDoor.PAll
end
section
namespace Go.Proofs.YtjmkhdhffmlhiaaDoor.PAll
set_option linter.unusedVariables false
set_option linter.unusedSimpArgs false
open Go.RowKit Go.Shelf Go.Proofs.YtjmkhdhffmlhiaaDoorW.PrintWords Go.Proofs.YtjmkhdhffmlhiaaDoorW.PrintLast Go.Proofs.YtjmkhdhffmlhiaaDoorW.PrintMore
attribute [local go_sem] Oper.semAt_some
theorem Rok.both {n m j : Nat} {rows : List S24} (h : Rok n m rows) (hj : j < n) {s : S24} (hs : s.f1.length = (m + 63) / 64) : Rok n m (bothS j rows s) := by
  have hjl : j < rows.length := by rw [h.1]; exact hj
  refine ⟨by unfold bothS; rw [List.length_set, h.1], fun r hr => ?_⟩
  unfold bothS at hr
  rcases List.mem_or_eq_of_mem_set hr with hr | rfl
  · exact h.2 r hr
  · rw [rdT_nat rows hjl]
    have a1 := h.2 _ (List.getElem_mem hjl)
    simp only
    rw [orw_length (by omega)]
    exact a1
theorem fold_rowK (rows : List S24) (j : Nat) (w0 W : World) (ok : Nat → Prop) (g cap : Nat) (hB : Below w0.heap.size w0 W) (hS : Kd.S k24 24 W w0.heap.size ok (.slice (some ⟨g, 0, none⟩) rows.length cap) rows) (hj : j < rows.length) (x : S24) (A1 : Option Addr) (c1 : Nat) (hc1 : 1 ≤ c1)
    (hx : ∀ (P : Nat → Prop), (∀ k, P k → ok k) → ∀ W_, Kept W W_ P → Kd.C k24 W_ A1 1 [x]) (hl : x.f1.length ≤ (rd_T24 rows (j : Int)).f1.length) :
    ∃ v, W.cell? ⟨g, j * 2, none⟩ = some (.int .i64 (rd_T24 rows (j : Int)).f0) ∧ W.cell? ⟨g, j * 2 + 1, none⟩ = some v ∧
      Calls Tryd.prog 88 #[.agg #[.int .i64 (rd_T24 rows (j : Int)).f0, v], .slice A1 1 c1, .func (.func 89) #[] #[]] W fun e w' => e = .returned (.agg #[.int .i64 (rd_T24 rows (j : Int)).f0, v]) ∧
        Kd.S k24 24 w' w0.heap.size ok (.slice (some ⟨g, 0, none⟩) rows.length cap) (bothS j rows x) ∧ Below w0.heap.size w0 w' ∧ Kept W w' ok ∧ KeepsOthers W w' := by
  obtain ⟨oki, c, hcl, hM, hcc, hfr, hoki, hH⟩ := Kd.S_elem hS (rd_T24 rows (j : Int)) (j : Int) (by omega) (by omega)
  rw [Int.toNat_natCast] at hM hcc hfr
  have he : rows.getD j (rd_T24 rows (j : Int)) = rd_T24 rows (j : Int) := by rw [rdT_nat rows hj, List.getD_eq_getElem?_getD, List.getElem?_eq_getElem hj]; rfl
  rw [he] at hM
  obtain ⟨v, rfl, hR⟩ := k24_openM hM
  refine ⟨v, hcc 0 _ rfl, hcc 1 _ rfl, (bitset_fold_or.puts _ (fun k => some k = v.ownBlock) v _ A1 c1 [x] () (rd_T24 rows (j : Int)).f0 (orw (rd_T24 rows (j : Int)).f1 x.f1) w0 W hB (Kd.R_tight rfl hR) (hx _ (fun k hk => (hoki k (hR.1 k hk.symm)).1)) hc1 (by unfold bitset_fold_or.f; simp [folds, orw_eq hl])).mono ?_⟩
  rintro e w' ⟨rfl, hR', hB', hK'⟩
  have hR2 : Kd.R (Kd.int .u64) 87 w' w0.heap.size oki v (orw (rd_T24 rows (j : Int)).f1 x.f1) := Kd.R_mono (Kd.R_tight rfl hR') (fun k hk => hR.1 k hk.symm)
  refine ⟨rfl, ?_, hB', ⟨hK'.1, fun k hk hn => hK'.2 k hk (fun h => hn (hoki k (hR.1 k h.symm)).1)⟩, ko_kept hR hK'⟩
  have h2 := Kd.H_back (Kd.H_kept hH hK' (fun k _ h he => h (hR.1 k he.symm))) (k24_mkM w' w0.heap.size oki ⟨(rd_T24 rows (j : Int)).f0, orw (rd_T24 rows (j : Int)).f1 x.f1⟩ hR2) (fun _ h => h)
  rwa [Int.toNat_natCast] at h2
theorem row_cells (rows : List S24) (j base : Nat) (W : World) (ok : Nat → Prop) (g cap : Nat) (hS : Kd.S k24 24 W base ok (.slice (some ⟨g, 0, none⟩) rows.length cap) rows) (hj : j < rows.length) :
    ∃ v, W.cell? ⟨g, j * 2, none⟩ = some (.int .i64 (rd_T24 rows (j : Int)).f0) ∧ W.cell? ⟨g, j * 2 + 1, none⟩ = some v := by
  obtain ⟨oki, c, hcl, hM, hcc, hfr, hoki, hH⟩ := Kd.S_elem hS (rd_T24 rows (j : Int)) (j : Int) (by omega) (by omega)
  rw [Int.toNat_natCast] at hM hcc hfr
  have he : rows.getD j (rd_T24 rows (j : Int)) = rd_T24 rows (j : Int) := by rw [rdT_nat rows hj, List.getD_eq_getElem?_getD, List.getElem?_eq_getElem hj]; rfl
  rw [he] at hM
  obtain ⟨v, rfl, hR⟩ := k24_openM hM
  exact ⟨v, hcc 0 _ rfl, hcc 1 _ rfl⟩
set_option maxHeartbeats 8000000 in
set_option maxRecDepth 100000 in
theorem Both_yes (k : Nat) (A0 : Option Addr) (c0 : Nat) (l0 rows : List S24) (w : World) (hr0 : Kd.C k24 w A0 l0.length l0) (hc0 : l0.length ≤ c0) (hG : Tz w) (hT : TabP (l0.length : Int) l0)
    (hM : bitset_MayTable.f k (l0.length : Int) l0 = some true) (hTu : bitset_Turn.f k (l0.length : Int) l0 = some ((l0.length : Int), rows, 0)) (hRk : Rok l0.length l0.length rows) :
    Calls Tryd.prog 45 #[.agg #[.int .i64 l0.length, .slice A0 l0.length c0]] w fun e w' => ∃ v : Value, e = .returned (.tuple #[.agg #[.int .i64 (l0.length : Int), v], .int .i64 0]) ∧ Kd.S k24 24 w' w.heap.size (fun _ => True) v (bothA 0 l0 rows) ∧ Below w.heap.size w w' := by
  have hu24 := Tryd.underlying24
  have hu56 := Tryd.underlying56
  have HC := Aside0.mk hr0
  have HG := Aside0.mk hG
  have HM := Aside0.mk hM
  have HTu := Aside0.mk hTu
  clear hr0 hG hM hTu
  obtain ⟨o1, ho1⟩ : ∃ o1 : Obj, o1 = .cells #[.int .i64 l0.length, .slice A0 l0.length c0] 56 (0, 0) := ⟨_, rfl⟩
  obtain ⟨o2, ho2⟩ : ∃ o2 : Obj, o2 = .cells #[.int .i64 0, .slice none 0 0] 56 (0, 0) := ⟨_, rfl⟩
  have K0 : ((w.alloc o1).alloc o2).heap[w.heap.size]? = some o1 := blk_alloc (blk_new w o1) _
  have K1 : ((w.alloc o1).alloc o2).heap[w.heap.size + 1]? = some o2 := by have := blk_new (w.alloc o1) o2; rwa [World.size_alloc] at this
  have HB0 : Below w.heap.size w ((w.alloc o1).alloc o2) := below_alloc (below_alloc (Below.refl _ _) _) _
  have hs3 : w.heap.size + 2 ≤ ((w.alloc o1).alloc o2).heap.size := by rw [World.size_alloc, World.size_alloc]; omega
  rw [ho1, ho2] at K0 K1 HB0 hs3
  clear ho1 ho2 o1 o2
  have KA := Aside0.mk K0
  have KD := Aside0.mk K1
  have HB := Aside0.mk HB0
  have HS3 := Aside0.mk hs3
  clear K0 K1 HB0 hs3
  refine (callsIn_wide (n := 6)).1 ?_
  refine callsIn_of_wp Tryd.func45 rfl trivial ?_ rfl
  simp only [Tryd.ntmps45, List.size_toArray, List.length_cons, List.length_nil, Nat.reduceAdd, Nat.reduceSub, Array.replicate_succ, Array.replicate_zero, List.push_toArray, List.append_toArray, List.nil_append, List.cons_append]
  gi_wp2_with fail
  refine ⟨trivial, ?_⟩; gi_at_call 85
  refine (callsIn_wide.2 (bitset_MayTable.calls k l0.length _ _ l0 true _ (Kd.C_alloc (Kd.C_alloc HC.out _) _) hc0 HM.out)).mono ?_
  rintro e w0 ⟨rfl, hb⟩
  have n0_ := Aside0.mk (blk_below KA.out hb); have n2_ := Aside0.mk (blk_below KD.out hb); have n3_ := Aside0.mk (below_step HB.out hb); have n4_ := Aside0.mk (Nat.le_trans HS3.out (below_size hb))
  clear KA KD HB hb HS3
  have KA := n0_; have KD := n2_; have HB := n3_; have HS3 := n4_
  clear n0_ n2_ n3_ n4_
  have q0 := (blk_cell KA.out 0).trans rfl; have q1 := (blk_cell KA.out 1).trans rfl
  gi_wp2_with fail
  refine ⟨trivial, ?_⟩; gi_at_call 87
  refine (callsIn_wide.2 (bitset_square.calls l0.length _ _ l0 true _ (Kd.C_below HC.out HB.out) hc0 (by unfold bitset_square.f; simp))).mono ?_
  rintro e w1 ⟨rfl, hb⟩
  have n0_ := Aside0.mk (blk_below KA.out hb); have n2_ := Aside0.mk (blk_below KD.out hb); have n3_ := Aside0.mk (below_step HB.out hb); have n4_ := Aside0.mk (Nat.le_trans HS3.out (below_size hb))
  clear KA KD HB hb HS3 q0 q1
  have KA := n0_; have KD := n2_; have HB := n3_; have HS3 := n4_
  clear n0_ n2_ n3_ n4_
  have q0 := (blk_cell KA.out 0).trans rfl; have q1 := (blk_cell KA.out 1).trans rfl
  gi_wp2_with fail
  refine ⟨trivial, ?_⟩; gi_at_call 42
  refine (callsIn_wide.2 (bitset_Turn.calls k l0.length _ _ l0 _ _ _ _ (Kd.C_below HC.out HB.out) hc0 (tz_at HG.out HB.out) HTu.out)).mono ?_
  rintro e w2 ⟨vt, rfl, ho, hb⟩
  obtain ⟨At, ct, et⟩ := Kd.S_slice ho
  subst et
  have n0_ := Aside0.mk (blk_below KA.out hb); have n2_ := Aside0.mk (blk_below KD.out hb); have n3_ := Aside0.mk (below_step HB.out hb)
  have HT := Aside0.mk (Kd.S_lower (Kd.S_mono (Kd.S_bound ho) (fun k_ hk_ => show w1.heap.size ≤ k_ ∧ k_ < w2.heap.size from ⟨hk_.2.1, hk_.2.2.1⟩)) (below_size HB.out))
  have HS2 := Aside0.mk (below_size hb)
  clear KA KD HB hb ho q0 q1
  have KA := n0_; have KD := n2_; have HB := n3_
  clear n0_ n2_ n3_
  have q0 := (blk_cell (blk_alloc KA.out (.cells #[.int .i64 l0.length, .slice At rows.length ct] 56 (0, 0))) 0).trans rfl; have q1 := (blk_cell (blk_alloc KA.out (.cells #[.int .i64 l0.length, .slice At rows.length ct] 56 (0, 0))) 1).trans rfl
  gi_wp2_with fail
  refine wpIn_loop (fun a W => ∃ (j : Nat) (rk : List S24) (u6 u7 u25 u26 u27 u28 u29 u30 u31 u32 u33 u34 u35 u36 u37 : Value), a = { tmps := #[.agg #[.int .i64 l0.length, .slice A0 l0.length c0], .pointer (some ⟨w.heap.size, 0, none⟩), .pointer (some ⟨w.heap.size + 1, 0, none⟩), .int .i64 0, .pointer (some ⟨w2.heap.size, 0, none⟩), .int .i64 0, u6, u7, .agg #[.int .i64 l0.length, .slice A0 l0.length c0], .bool true, .bool false, undef, .agg #[.int .i64 l0.length, .slice A0 l0.length c0], .bool true, .bool false, undef, .tuple #[.agg #[.int .i64 l0.length, .slice At rows.length ct], .int .i64 0], .agg #[.int .i64 l0.length, .slice A0 l0.length c0], .tuple #[.agg #[.int .i64 l0.length, .slice At rows.length ct], .int .i64 0], .agg #[.int .i64 l0.length, .slice At rows.length ct], .int .i64 0, .pointer (some ⟨w.heap.size, 1, none⟩), .slice A0 l0.length c0, .int .i64 l0.length, .int .i64 j, u25, u26, u27, u28, u29, u30, u31, u32, u33, u34, u35, u36, u37, undef], defers := [] } ∧ Aside0 (j ≤ l0.length) ∧ Aside0 (bothA j (l0.drop j) rk = bothA 0 l0 rows) ∧ Aside0 (Rok l0.length l0.length rk) ∧
      Aside0 (W.heap[w.heap.size]? = some (.cells #[.int .i64 l0.length, .slice A0 l0.length c0] 56 (0, 0))) ∧ Aside0 (W.heap[w.heap.size + 1]? = some (.cells #[.int .i64 0, .slice none 0 0] 56 (0, 0))) ∧ Aside0 (W.heap[w2.heap.size]? = some (.cells #[.int .i64 l0.length, .slice At rows.length ct] 56 (0, 0))) ∧
      Aside0 (Kd.S k24 24 W w.heap.size (fun k_ => w1.heap.size ≤ k_ ∧ k_ < w2.heap.size) (.slice At rows.length ct) rk) ∧ Aside0 (Below w.heap.size w W))
    (fun a _ => l0.length - (intOf (a.tmps.getD 24 undef)).toNat) ?start ?round
  case start =>
    exact ⟨0, rows, undef, undef, undef, undef, undef, undef, undef, undef, undef, undef, undef, undef, undef, undef, undef, rfl, ⟨Nat.zero_le _⟩, ⟨rfl⟩, ⟨hRk⟩, ⟨blk_alloc KA.out _⟩, ⟨blk_alloc KD.out _⟩, ⟨blk_new _ _⟩, ⟨Kd.S_alloc HT.out _⟩, ⟨below_alloc HB.out _⟩⟩
  case round =>
    clear KA KD HB HT q0 q1
    rintro a wr ⟨j, rk, u6, u7, u25, u26, u27, u28, u29, u30, u31, u32, u33, u34, u35, u36, u37, rfl, hj, hA, hRj, KA, KD, KU, HT, HB⟩
    by_cases hlt : j < l0.length
    · obtain ⟨ad, A1, c1, eA, q0w, q1w, hlc, hC1⟩ := at_T24 HC.out (j : Int) (by omega) (by omega)
      subst eA
      simp only [Int.toNat_natCast] at q0w q1w
      obtain ⟨s, hs⟩ : ∃ s, rd_T24 l0 (j : Int) = s := ⟨_, rfl⟩
      have hsl : s = l0[j] := by rw [← hs, rdT_nat l0 hlt]
      rw [hs] at q0w q1w hlc hC1
      have hsm : MayP (l0.length : Int) s.f1 ∧ s.f0 = (l0.length : Int) := by
        have := hT.2.2.2 _ (List.getElem_mem hlt)
        rw [← hsl] at this
        refine ⟨?_, this.2⟩
        have h2 := this.1; unfold MayS at h2; rwa [this.2] at h2
      obtain ⟨s0, ws⟩ := s
      obtain rfl : s0 = (l0.length : Int) := hsm.2
      simp only at q0w q1w hlc hC1 hsm
      have q0 := (HB.out.cell (World.block_lt_of_cell? w _ q0w)).trans q0w
      have q1 := (HB.out.cell (World.block_lt_of_cell? w _ q1w)).trans q1w
      have hd : decide (j < l0.length) = true := decide_eq_true hlt
      have HF := Aside0.mk (Kd.C_F (Kd.heap_int .u64) hC1)
      clear hC1 q0w q1w
      gi_wp2_with fail
      have hUr := blk_lt KU.out
      have hw12 : w.heap.size + 2 ≤ w1.heap.size := HS3.out
      have hl4 : l0.length ≤ 4096 := hT.2.2.1
      have hwl : ws.length = (l0.length + 63) / 64 := by simpa using hsm.1.2.2.1
      have KA4 := Aside0.mk (blk_drew (blk_alloc KA.out (.cells #[.int .i64 l0.length, .slice A1 ws.length c1] 24 (0, 0))))
      have KD4 := Aside0.mk (blk_drew (blk_alloc KD.out (.cells #[.int .i64 l0.length, .slice A1 ws.length c1] 24 (0, 0))))
      have KU4 := Aside0.mk (blk_drew (blk_alloc KU.out (.cells #[.int .i64 l0.length, .slice A1 ws.length c1] 24 (0, 0))))
      have KS4 := Aside0.mk (blk_drew (blk_new wr (.cells #[.int .i64 l0.length, .slice A1 ws.length c1] 24 (0, 0))))
      have HT4 := Aside0.mk (Kd.S_drew (Kd.S_alloc HT.out (.cells #[.int .i64 l0.length, .slice A1 ws.length c1] 24 (0, 0))))
      have HB4 := Aside0.mk (below_drew1 (below_alloc HB.out (.cells #[.int .i64 l0.length, .slice A1 ws.length c1] 24 (0, 0))))
      have HL4 := Aside0.mk (show wr.heap.size + 1 ≤ (World.drew (wr.alloc (.cells #[.int .i64 l0.length, .slice A1 ws.length c1] 24 (0, 0)))).heap.size from (by show wr.heap.size + 1 ≤ (wr.alloc (.cells #[.int .i64 l0.length, .slice A1 ws.length c1] 24 (0, 0))).heap.size; rw [World.size_alloc]; exact Nat.le_refl _))
      have hjl : j < rk.length := by rw [hRj.out.1]; exact hlt
      obtain ⟨g, cap, ev, hgb, hgl, cells, hcells⟩ := Kd.S_form HT.out (by omega)
      injection ev with e1 e2 e3
      subst e1 e3
      have hT4 := HT4.out
      rw [e2] at hT4
      obtain ⟨v, z0, z1⟩ := row_cells rk j _ _ _ g ct hT4 hjl
      have u1 := (blk_cell KU4.out 1).trans rfl
      rw [e2] at u1
      simp only [List.getElem?_toArray, List.getElem?_cons_zero, List.getElem?_cons_succ] at u1
      have hmx : Tryd.prog.follows .mixedOrders = true := by kernel_rfl
      have HE2 := Aside0.mk e2
      have HWL := Aside0.mk hwl
      clear e2 hwl
      refine wpIn_wide.2 ?_
      refine start_ (n := 8) (S := fun w' => w'.cell? ⟨w2.heap.size, 1, none⟩ = some (.slice (some ⟨g, 0, none⟩) rk.length ct) ∧ w'.cell? ⟨wr.heap.size, 0, none⟩ = some (.int .i64 l0.length) ∧ w'.cell? ⟨wr.heap.size, 1, none⟩ = some (.slice A1 ws.length c1) ∧ w'.cell? ⟨g, j * 2, none⟩ = some (.int .i64 (rd_T24 rk (j : Int)).f0) ∧ w'.cell? ⟨g, j * 2 + 1, none⟩ = some v) (ds := [7]) #[false, false, false, false, false, false, false, false] hmx (by kernel_rfl) rfl ⟨u1, (blk_cell KS4.out 0).trans rfl, (blk_cell KS4.out 1).trans rfl, z0, z1⟩ (fun hHeld => ?_)
      clear u1 z0 z1
      generalize World.drew (wr.alloc (.cells #[.int .i64 l0.length, .slice A1 ws.length c1] 24 (0, 0))) = W4 at KA4 KD4 KU4 KS4 HT4 HB4 HL4 hT4 hHeld ⊢
      refine pure_ (i := 0) (N := some 29) (v := ?_) (a' := ?_) #[true, false, false, false, false, false, false, false] rfl rfl (by kernel_rfl) (fun _ _ _ h => h) (Or.inl ⟨by rfl, ?_⟩) ?_ ?_
      rotate_left
      · intro w'
        go_simp
        with_reducible rfl
      rotate_left
      · simp only [Act.put, List.setIfInBounds_toArray, List.set_cons_zero, List.set_cons_succ, i64_w, i32_w]
        rfl
      refine pure_ (i := 2) (N := some 31) (v := ?_) (a' := ?_) #[true, false, true, false, false, false, false, false] rfl rfl (by kernel_rfl) (fun _ _ _ h => h) (Or.inl ⟨by rfl, ?_⟩) ?_ ?_
      rotate_left
      · intro w'
        go_simp
        with_reducible rfl
      rotate_left
      · simp only [Act.put, List.setIfInBounds_toArray, List.set_cons_zero, List.set_cons_succ, i64_w, i32_w]
        rfl
      refine take_ (i := 1) (N := some 30) (v := ?_) (a' := ?_) #[true, true, true, false, false, false, false, false] rfl rfl (by kernel_rfl) (fun _ _ _ h => h) (Or.inl ⟨by rfl, ?_⟩) hHeld ?_ ?_
      rotate_left
      · rintro w' ⟨s0, s1, s2, s3, s4⟩
        go_simp
        with_reducible rfl
      rotate_left
      · simp only [Act.put, List.setIfInBounds_toArray, List.set_cons_zero, List.set_cons_succ, i64_w, i32_w]
        rfl
      refine take_ (i := 5) (N := some 34) (v := ?_) (a' := ?_) #[true, true, true, false, false, true, false, false] rfl rfl (by kernel_rfl) (fun _ _ _ h => h) (Or.inl ⟨by rfl, ?_⟩) hHeld ?_ ?_
      rotate_left
      · rintro w' ⟨s0, s1, s2, s3, s4⟩
        go_simp
        with_reducible rfl
      rotate_left
      · simp only [Act.put, List.setIfInBounds_toArray, List.set_cons_zero, List.set_cons_succ, i64_w, i32_w]
        rfl
      refine pure_ (i := 3) (N := some 32) (v := ?_) (a' := ?_) #[true, true, true, true, false, true, false, false] rfl rfl (by kernel_rfl) (fun _ _ _ h => h) (Or.inl ⟨by rfl, ?_⟩) ?_ ?_
      rotate_left
      · intro w'
        go_simp
        with_reducible rfl
      rotate_left
      · simp only [Act.put, List.setIfInBounds_toArray, List.set_cons_zero, List.set_cons_succ, i64_w, i32_w]
        rfl
      refine take_ (i := 4) (N := some 33) (v := ?_) (a' := ?_) #[true, true, true, true, true, true, false, false] rfl rfl (by kernel_rfl) (fun _ _ _ h => h) (Or.inl ⟨by rfl, ?_⟩) hHeld ?_ ?_
      rotate_left
      · rintro w' ⟨s0, s1, s2, s3, s4⟩
        go_simp
        with_reducible rfl
      rotate_left
      · simp only [Act.put, List.setIfInBounds_toArray, List.set_cons_zero, List.set_cons_succ, i64_w, i32_w]
        rfl
      refine one_ (i := 6) (N := some 35) #[true, true, true, true, true, true, true, false] rfl rfl (by kernel_rfl) (by decide) (fun K hK => ?_)
      refine Kd.N_lit_step k24 (w0 := W4) W4.heap.size 24 ?hg (N' := 35) ?hd (xs := [(⟨(l0.length : Int), ws⟩ : S24)]) (inner := [.int .i64 l0.length, .slice A1 ws.length c1]) (ok := fun k_ => ¬ (w1.heap.size ≤ k_ ∧ k_ < w2.heap.size)) (okp := fun k_ => ¬ (w1.heap.size ≤ k_ ∧ k_ < w2.heap.size)) ?hr ?hp (fun _ hk => hk) ?hf (Below.refl _ _) (Nat.le_refl _) (by simp) ?_
      case hd => rfl
      case hg => rfl
      case hr => first | (go_simp; done) | (go_simp; rfl)
      case hf => have := HL4.out; intro h; omega
      case hp => exact Reps.c2 (k24_mkF _ _ (⟨(l0.length : Int), ws⟩ : S24) hlc (Kd.F_mono (Kd.F_below HF.out HB4.out) (fun k_ hk_ h => by omega))) (Reps.none _ _)
      intro vl w5 hN hb _ _
      obtain ⟨Al, cl, rfl⟩ := Kd.N_slice hN
      have hc1l := (Kd.N_reads' hN).2.1
      obtain ⟨s0, s1, s2, s3, s4⟩ := hHeld
      have t3 := (hb.cell (World.block_lt_of_cell? W4 _ s3)).trans s3
      have t4 := (hb.cell (World.block_lt_of_cell? W4 _ s4)).trans s4
      refine hK.out _ _ ⟨(hb.cell (World.block_lt_of_cell? W4 _ s0)).trans s0, (hb.cell (World.block_lt_of_cell? W4 _ s1)).trans s1, (hb.cell (World.block_lt_of_cell? W4 _ s2)).trans s2, t3, t4⟩ (fun _ => ?_)
      clear hK K
      obtain ⟨v', z0, z1, hcall⟩ := fold_rowK rk j w w5 _ g ct (below_step HB4.out hb) (Kd.S_below hT4 hb) hjl ⟨(l0.length : Int), ws⟩ Al cl hc1l (fun P hP => Kd.C_kept_ownV (base := 0) (Kd.N_V hN) (fun k_ hk_ hs_ => hk_ (hP k_ hs_))) (by
        rw [rdT_nat rk hjl, hRj.out.2 _ (List.getElem_mem hjl), HWL.out]
        exact Nat.le_refl _)
      obtain rfl : v' = v := by rw [t4] at z1; injection z1 with h; exact h.symm
      have HCALL := Aside0.mk hcall
      clear hcall s0 s1 s2 s3 s4 t3 t4 z0 z1
      refine last_ (i := 7) (N := some 36) #[true, true, true, true, true, true, true, true] rfl rfl (by kernel_rfl) (by decide) (fun K hK => ?_)
      refine goes_ Tryd.func88 (by kernel_rfl) rfl #[.agg #[.int .i64 (rd_T24 rk (j : Int)).f0, v'], .slice Al 1 cl, .func (.func 89) #[] #[]] (by rfl) rfl rfl (by (try simp only [List.map_toArray, List.map_cons, List.map_nil]); first | done | rfl) ?_
      refine HCALL.out.mono ?_
      rintro e w6 ⟨rfl, hS6, hB6, hK6, hO6⟩
      refine ⟨_, rfl, ?_⟩
      refine hK.out _ _ ?_
      clear hK K
      refine done_ (by kernel_rfl) ?_
      have KA6 := Aside0.mk ((hK6.2 _ (blk_lt (blk_below KA4.out hb)) (fun h => by omega)).trans (blk_below KA4.out hb))
      have KD6 := Aside0.mk ((hK6.2 _ (blk_lt (blk_below KD4.out hb)) (fun h => by omega)).trans (blk_below KD4.out hb))
      have KU6 := Aside0.mk ((hK6.2 _ (blk_lt (blk_below KU4.out hb)) (fun h => by omega)).trans (blk_below KU4.out hb))
      gi_wp2_with fail
      rw [show ((j : Int) + 1) = ((j + 1 : Nat) : Int) from by omega]
      refine ⟨⟨j + 1, bothS j rk ⟨(l0.length : Int), ws⟩, _, _, _, _, _, _, _, _, _, _, _, _, _, _, _, rfl, ⟨hlt⟩, ⟨?_⟩, ⟨hRj.out.both hlt HWL.out⟩, KA6, KD6, KU6, ⟨?_⟩, ⟨hB6⟩⟩, ?_⟩
      · have := hA.out
        rw [List.drop_eq_getElem_cons hlt, ← hsl] at this
        exact this
      · rw [HE2.out]
        exact hS6
      · show l0.length - (intOf (.int .i64 ((j + 1 : Nat) : Int))).toNat < l0.length - (intOf (.int .i64 (j : Int))).toNat
        simp only [intOf, Int.toNat_natCast]
        omega
    · have hje : j = l0.length := by have := hj.out; omega
      subst hje
      have hd : decide (l0.length < l0.length) = false := by simp
      have q0 := (blk_cell KU.out 0).trans rfl
      have q1 := (blk_cell KU.out 1).trans rfl
      have q2 := (blk_cell KD.out 0).trans rfl
      have q3 := (blk_cell KD.out 1).trans rfl
      have z0 := blk_frozen KD.out 0
      have z1 := blk_frozen KD.out 1
      gi_wp2_with fail
      have hw12 : w.heap.size + 2 ≤ w1.heap.size := HS3.out
      obtain ⟨X, hX⟩ : ∃ X, (wr.setCell ⟨w.heap.size + 1, 0, none⟩ (Value.int IntKind.i64 l0.length)).setCell ⟨w.heap.size + 1, 1, none⟩ (Value.slice At rows.length ct) = X := ⟨_, rfl⟩
      have hKX : Kept wr X (fun k_ => k_ = w.heap.size + 1) := by
        refine ⟨by rw [← hX, World.size_setCell, World.size_setCell]; exact Nat.le_refl _, fun k_ hk_ hn_ => ?_⟩
        rw [← hX, Below.heap_setCell _ _ _ _ hn_, Below.heap_setCell _ _ _ _ hn_]
      have hXg : X.heap[w.heap.size + 1]? = some (.cells #[.int .i64 l0.length, .slice At rows.length ct] 56 (0, 0)) := hX ▸ blk_put (blk_put KD.out 0 (Value.int IntKind.i64 l0.length) rfl) 1 (Value.slice At rows.length ct) rfl
      have hXB := wb (g := w.heap.size + 1) hX.symm HB.out (by omega)
      have hXS := Kd.S_kept HT.out hKX (fun k_ hk_ e => by omega)
      try rw [hX]
      have c0 := (blk_cell hXg 0).trans rfl
      have c1 := (blk_cell hXg 1).trans rfl
      refine bodyPost_ret (v := .tuple #[.agg #[.int .i64 l0.length, .slice At rows.length ct], .int .i64 0]) ?_ rfl ⟨_, rfl, ?_, hXB⟩
      · simp [results, Tryd.f45, go_sem, c0, c1]
      · have hA2 : rk = bothA 0 l0 rows := by
          have := hA.out
          rw [List.drop_length] at this
          exact this
        rw [← hA2]
        exact Kd.S_mono hXS (fun _ _ => trivial)
end Go.Proofs.YtjmkhdhffmlhiaaDoor.PAll
end
section
namespace Go.Proofs.YtjmkhdhffmlhiaaDoor.PAll
set_option linter.unusedVariables false
set_option linter.unusedSimpArgs false
open Go.RowKit Go.Proofs.YtjmkhdhffmlhiaaDoorW.PrintWords Go.Proofs.YtjmkhdhffmlhiaaDoorW.PrintLast Go.Proofs.YtjmkhdhffmlhiaaDoorW.PrintMore
theorem row_tag {W : World} {base : Nat} {ok : Nat → Prop} {g n cap : Nat} {rows : List S24} (hS : Kd.S k24 24 W base ok (.slice (some ⟨g, 0, none⟩) n cap) rows) :
    ∃ f : Nat → Nat, ∀ j, ∀ hj : j < rows.length, ∃ v, W.cell? ⟨g, j * 2, none⟩ = some (.int .i64 rows[j].f0) ∧ W.cell? ⟨g, j * 2 + 1, none⟩ = some v ∧ Kd.R (Kd.int .u64) 87 W base (fun k => k ≠ g ∧ f k = j) v rows[j].f1 := by
  obtain ⟨f, hok0, inner, ho, hr⟩ := hS
  have hgo : (Value.slice (some ⟨g, 0, none⟩) n cap).ownBlock = some g := by simp [Value.ownBlock]
  refine ⟨f, fun j hj => ?_⟩
  have hM := hr.2 j _ (Kd.zip_at (List.getElem?_eq_getElem hj))
  have hM2 : k24.M W base (fun k => k ≠ g ∧ f k = j) rows[j] ((inner.drop (j * k24.sz)).take k24.sz) := k24.M_mono (fun k hk => ⟨fun e => hk.1.2 (by rw [e, hgo]), hk.2⟩) hM
  obtain ⟨v, hv, hRv⟩ := k24_openM hM2
  have hsz : k24.sz = 2 := rfl
  rw [hsz] at hv
  have hget : ∀ (i : Nat) (u : Value), [Value.int .i64 rows[j].f0, v][i]? = some u → W.cell? ⟨g, j * 2 + i, none⟩ = some u := by
    intro i u hu
    rw [← hv, List.getElem?_take] at hu
    split at hu
    · rw [List.getElem?_drop] at hu
      have := ho.cells (g := g) hgo _ u hu
      rwa [add_plain] at this
    · cases hu
  exact ⟨v, hget 0 _ rfl, hget 1 _ rfl, hRv⟩
theorem fold_rowV (rows : List S24) (j : Nat) (w0 W : World) (ok : Nat → Prop) (g cap : Nat) (hB : Below w0.heap.size w0 W) (hS : Kd.S k24 24 W w0.heap.size ok (.slice (some ⟨g, 0, none⟩) rows.length cap) rows) (hj : j < rows.length) (x : S24) (A1 : Option Addr) (c1 : Nat) (hc1 : 1 ≤ c1)
    (hx : ∀ v, W.cell? ⟨g, j * 2 + 1, none⟩ = some v → ∀ W_, Kept W W_ (fun k => some k = v.ownBlock) → Kd.C k24 W_ A1 1 [x]) (hl : x.f1.length ≤ (rd_T24 rows (j : Int)).f1.length) :
    ∃ v, W.cell? ⟨g, j * 2, none⟩ = some (.int .i64 (rd_T24 rows (j : Int)).f0) ∧ W.cell? ⟨g, j * 2 + 1, none⟩ = some v ∧
      Calls Tryd.prog 88 #[.agg #[.int .i64 (rd_T24 rows (j : Int)).f0, v], .slice A1 1 c1, .func (.func 89) #[] #[]] W fun e w' => e = .returned (.agg #[.int .i64 (rd_T24 rows (j : Int)).f0, v]) ∧
        Kd.S k24 24 w' w0.heap.size ok (.slice (some ⟨g, 0, none⟩) rows.length cap) (bothS j rows x) ∧ Below w0.heap.size w0 w' ∧ Kept W w' ok := by
  obtain ⟨oki, c, hcl, hM, hcc, hfr, hoki, hH⟩ := Kd.S_elem hS (rd_T24 rows (j : Int)) (j : Int) (by omega) (by omega)
  rw [Int.toNat_natCast] at hM hcc hfr
  have he : rows.getD j (rd_T24 rows (j : Int)) = rd_T24 rows (j : Int) := by rw [rdT_nat rows hj, List.getD_eq_getElem?_getD, List.getElem?_eq_getElem hj]; rfl
  rw [he] at hM
  obtain ⟨v, rfl, hR⟩ := k24_openM hM
  refine ⟨v, hcc 0 _ rfl, hcc 1 _ rfl, (bitset_fold_or.puts _ (fun k => some k = v.ownBlock) v _ A1 c1 [x] () (rd_T24 rows (j : Int)).f0 (orw (rd_T24 rows (j : Int)).f1 x.f1) w0 W hB (Kd.R_tight rfl hR) (hx v (hcc 1 _ rfl)) hc1 (by unfold bitset_fold_or.f; simp [folds, orw_eq hl])).mono ?_⟩
  rintro e w' ⟨rfl, hR', hB', hK'⟩
  have hR2 : Kd.R (Kd.int .u64) 87 w' w0.heap.size oki v (orw (rd_T24 rows (j : Int)).f1 x.f1) := Kd.R_mono (Kd.R_tight rfl hR') (fun k hk => hR.1 k hk.symm)
  refine ⟨rfl, ?_, hB', ⟨hK'.1, fun k hk hn => hK'.2 k hk (fun h => hn (hoki k (hR.1 k h.symm)).1)⟩⟩
  have h2 := Kd.H_back (Kd.H_kept hH hK' (fun k _ h he => h (hR.1 k he.symm))) (k24_mkM w' w0.heap.size oki ⟨(rd_T24 rows (j : Int)).f0, orw (rd_T24 rows (j : Int)).f1 x.f1⟩ hR2) (fun _ h => h)
  rwa [Int.toNat_natCast] at h2
theorem fold_own (rows : List S24) (j k : Nat) (w0 W : World) (ok : Nat → Prop) (g cap : Nat) (hB : Below w0.heap.size w0 W) (hS : Kd.S k24 24 W w0.heap.size ok (.slice (some ⟨g, 0, none⟩) rows.length cap) rows) (hj : j < rows.length) (hk : k < rows.length) (hjk : j ≠ k) (hl : rows[k].f1.length ≤ (rd_T24 rows (j : Int)).f1.length) :
    ∃ v, W.cell? ⟨g, j * 2, none⟩ = some (.int .i64 (rd_T24 rows (j : Int)).f0) ∧ W.cell? ⟨g, j * 2 + 1, none⟩ = some v ∧
      Calls Tryd.prog 88 #[.agg #[.int .i64 (rd_T24 rows (j : Int)).f0, v], .slice (some ⟨g, k * 2, none⟩) 1 1, .func (.func 89) #[] #[]] W fun e w' => e = .returned (.agg #[.int .i64 (rd_T24 rows (j : Int)).f0, v]) ∧
        Kd.S k24 24 w' w0.heap.size ok (.slice (some ⟨g, 0, none⟩) rows.length cap) (bothS j rows rows[k]) ∧ Below w0.heap.size w0 w' ∧ Kept W w' ok := by
  obtain ⟨f, hf⟩ := row_tag hS
  obtain ⟨vk, c0, c1, hRk⟩ := hf k hk
  obtain ⟨vj, _, d1, hRj⟩ := hf j hj
  refine fold_rowV rows j w0 W ok g cap hB hS hj rows[k] _ 1 (Nat.le_refl _) (fun v hv W_ hK => ?_) hl
  obtain rfl : v = vj := by rw [hv] at d1; injection d1
  have hne : ∀ b, some b = v.ownBlock → b ≠ g ∧ f b = j := fun b hb => hRj.1 b hb.symm
  have hRk' := Kd.R_kept hRk hK (fun b hb hP => hjk (by rw [← (hne b hP).2]; exact hb.2))
  obtain ⟨A, c, rfl⟩ := Kd.R_slice hRk
  obtain ⟨_, hle, hC⟩ := Kd.R_reads' hRk'
  refine ⟨rfl, by decide, fun _ => ⟨_, rfl, fun i p hp => ?_⟩⟩
  cases i with
  | succ i => simp at hp
  | zero =>
    simp only [List.getElem?_cons_zero, Option.some.injEq] at hp
    subst hp
    refine ⟨_, rfl, k24_mk W_ rows[k] hle hC, fun i u hu => ?_⟩
    have hg : ∀ o, (⟨g, o, none⟩ : Addr).block = g := fun _ => rfl
    have hng : ¬ (fun b => some b = v.ownBlock) g := fun h => (hne g h).1 rfl
    have ha : (⟨g, k * 2, none⟩ : Addr).add (0 * k24.sz + i) = ⟨g, k * 2 + i, none⟩ := by rw [Nat.zero_mul, Nat.zero_add]; unfold Addr.add; split <;> simp_all
    rw [ha]
    cases i with
    | zero =>
      simp only [List.getElem?_cons_zero, Option.some.injEq] at hu
      subst hu
      exact Go.Proofs.YtjmkhdhffmlhiaaDoorW.PrintWords.cell_kept (by simpa using c0) hK hng
    | succ i =>
      cases i with
      | zero =>
        simp only [List.getElem?_cons_succ, List.getElem?_cons_zero, Option.some.injEq] at hu
        subst hu
        exact Go.Proofs.YtjmkhdhffmlhiaaDoorW.PrintWords.cell_kept (by simpa using c1) hK hng
      | succ i => simp at hu
theorem fold_same (rows : List S24) (j : Nat) (w0 W : World) (ok : Nat → Prop) (g cap : Nat) (hB : Below w0.heap.size w0 W) (hS : Kd.S k24 24 W w0.heap.size ok (.slice (some ⟨g, 0, none⟩) rows.length cap) rows) (hj : j < rows.length) (hw : Wds (rd_T24 rows (j : Int)).f1) :
    ∃ v, W.cell? ⟨g, j * 2, none⟩ = some (.int .i64 (rd_T24 rows (j : Int)).f0) ∧ W.cell? ⟨g, j * 2 + 1, none⟩ = some v ∧
      Calls Tryd.prog 88 #[.agg #[.int .i64 (rd_T24 rows (j : Int)).f0, v], .slice (some ⟨g, j * 2, none⟩) 1 1, .func (.func 89) #[] #[]] W fun e w' => e = .returned (.agg #[.int .i64 (rd_T24 rows (j : Int)).f0, v]) ∧
        Kd.S k24 24 w' w0.heap.size ok (.slice (some ⟨g, 0, none⟩) rows.length cap) rows ∧ Below w0.heap.size w0 w' ∧ Kept W w' ok := by
  obtain ⟨oki, c, hcl, hM, hcc, hfr, hoki, hH⟩ := Kd.S_elem hS (rd_T24 rows (j : Int)) (j : Int) (by omega) (by omega)
  rw [Int.toNat_natCast] at hM hcc hfr
  have he : rows.getD j (rd_T24 rows (j : Int)) = rd_T24 rows (j : Int) := by rw [rdT_nat rows hj, List.getD_eq_getElem?_getD, List.getElem?_eq_getElem hj]; rfl
  rw [he] at hM
  obtain ⟨v, rfl, hR⟩ := k24_openM hM
  have hng : ¬ (fun b => some b = v.ownBlock) g := fun h => (hoki g (hR.1 g h.symm)).2 rfl
  refine ⟨v, hcc 0 _ rfl, hcc 1 _ rfl, (fold_or_self _ (fun k => some k = v.ownBlock) v _ g (j * 2) w0 W hB (Kd.R_tight rfl hR) hw (fun W_ hK => ⟨Go.Proofs.YtjmkhdhffmlhiaaDoorW.PrintWords.cell_kept (hcc 0 _ rfl) hK hng, Go.Proofs.YtjmkhdhffmlhiaaDoorW.PrintWords.cell_kept (hcc 1 _ rfl) hK hng⟩)).mono ?_⟩
  rintro e w' ⟨rfl, hR', hB', hK'⟩
  have hR2 : Kd.R (Kd.int .u64) 87 w' w0.heap.size oki v (rd_T24 rows (j : Int)).f1 := Kd.R_mono (Kd.R_tight rfl hR') (fun k hk => hR.1 k hk.symm)
  refine ⟨rfl, ?_, hB', ⟨hK'.1, fun k hk hn => hK'.2 k hk (fun h => hn (hoki k (hR.1 k h.symm)).1)⟩⟩
  have h2 := Kd.H_back (Kd.H_kept hH hK' (fun k _ h he => h (hR.1 k he.symm))) (k24_mkM w' w0.heap.size oki (rd_T24 rows (j : Int)) hR2) (fun _ h => h)
  rw [Int.toNat_natCast, rdT_nat rows hj, List.set_getElem_self hj] at h2
  exact h2
end Go.Proofs.YtjmkhdhffmlhiaaDoor.PAll
end
section
namespace Go.Proofs.YtjmkhdhffmlhiaaDoor.PAll
set_option linter.unusedVariables false
set_option linter.unusedSimpArgs false
open Go.RowKit Go.Shelf Go.Proofs.YtjmkhdhffmlhiaaDoorW.PrintWords Go.Proofs.YtjmkhdhffmlhiaaDoorW.PrintLast Go.Proofs.YtjmkhdhffmlhiaaDoorW.PrintMore
attribute [local go_sem] Oper.semAt_some
set_option maxHeartbeats 8000000 in
set_option maxRecDepth 100000 in
theorem MakeTable_no (k : Nat) (n r : Int) (A0 : Option Addr) (c0 : Nat) (l0 : List S24) (w : World) (hr0 : Kd.C k24 w A0 l0.length l0) (hc0 : l0.length ≤ c0) (hr : r ≠ 0) (hM : bitset_fit.f k n l0 = some r) :
    Calls Tryd.prog 48 #[.int .i64 n, .slice A0 l0.length c0] w fun e w' => ∃ v : Value, e = .returned (.tuple #[.agg #[.int .i64 0, v], .int .i64 r]) ∧ Kd.S k24 24 w' w.heap.size (fun _ => True) v [] ∧ Below w.heap.size w w' := by
  have hu24 := Tryd.underlying24
  have hu56 := Tryd.underlying56
  have HC := Aside0.mk hr0
  have HM := Aside0.mk hM
  clear hr0 hM
  obtain ⟨o2, ho2⟩ : ∃ o2 : Obj, o2 = .cells #[.int .i64 0, .slice none 0 0] 56 (0, 0) := ⟨_, rfl⟩
  have K1 : (w.alloc o2).heap[w.heap.size]? = some o2 := blk_new w o2
  have HB0 : Below w.heap.size w (w.alloc o2) := below_alloc (Below.refl _ _) _
  rw [ho2] at K1 HB0
  clear ho2 o2
  have KD := Aside0.mk K1
  have HB := Aside0.mk HB0
  clear K1 HB0
  refine (callsIn_wide (n := 6)).1 ?_
  refine callsIn_of_wp Tryd.func48 rfl trivial ?_ rfl
  simp only [Tryd.ntmps48, List.size_toArray, List.length_cons, List.length_nil, Nat.reduceAdd, Nat.reduceSub, Array.replicate_succ, Array.replicate_zero, List.push_toArray, List.append_toArray, List.nil_append, List.cons_append]
  gi_wp2_with fail
  refine ⟨trivial, ?_⟩; gi_at_call 90
  refine (callsIn_wide.2 (bitset_fit.calls k n _ _ l0 r _ (Kd.C_alloc HC.out _) hc0 HM.out)).mono ?_
  rintro e w1 ⟨rfl, hb⟩
  have n2_ := Aside0.mk (blk_below KD.out hb); have n3_ := Aside0.mk (below_step HB.out hb)
  clear KD HB hb
  have KD := n2_; have HB := n3_
  clear n2_ n3_
  have q0 := (blk_cell KD.out 0).trans rfl; have q1 := (blk_cell KD.out 1).trans rfl; have z0 := blk_frozen KD.out 0; have z1 := blk_frozen KD.out 1
  gi_wp2_with fail
  obtain ⟨X, hX⟩ : ∃ X, (World.setCell w1 ⟨w.heap.size, 0, none⟩ (Value.int IntKind.i64 0)).setCell ⟨w.heap.size, 1, none⟩ (Value.slice none 0 0) = X := ⟨_, rfl⟩
  have hXg : X.heap[w.heap.size]? = some (.cells #[.int .i64 0, Value.slice none 0 0] 56 (0, 0)) := hX ▸ blk_put (blk_put KD.out 0 (Value.int IntKind.i64 0) rfl) 1 (Value.slice none 0 0) rfl
  have hXB := wb (g := w.heap.size) hX.symm HB.out (Nat.le_refl _)
  try rw [hX]
  have c0 := (blk_cell hXg 0).trans rfl
  have c1 := (blk_cell hXg 1).trans rfl
  refine bodyPost_ret (v := .tuple #[.agg #[.int .i64 0, .slice none 0 0], .int .i64 r]) ?_ rfl ⟨_, rfl, Kd.S_nil _ _ _ _ _, hXB⟩
  simp [results, Tryd.f48, go_sem, c0, c1]
set_option maxHeartbeats 8000000 in
set_option maxRecDepth 100000 in
theorem MakeTable_many (k : Nat) (n : Int) (A0 : Option Addr) (c0 : Nat) (l0 : List S24) (w : World) (hr0 : Kd.C k24 w A0 l0.length l0) (hc0 : l0.length ≤ c0) (hgt : (4096 : Int) < (l0.length : Int)) (hM : bitset_fit.f k n l0 = some 0) :
    Calls Tryd.prog 48 #[.int .i64 n, .slice A0 l0.length c0] w fun e w' => ∃ v : Value, e = .returned (.tuple #[.agg #[.int .i64 0, v], .int .i64 1]) ∧ Kd.S k24 24 w' w.heap.size (fun _ => True) v [] ∧ Below w.heap.size w w' := by
  have hu24 := Tryd.underlying24
  have hu56 := Tryd.underlying56
  have HC := Aside0.mk hr0
  have HM := Aside0.mk hM
  clear hr0 hM
  obtain ⟨o2, ho2⟩ : ∃ o2 : Obj, o2 = .cells #[.int .i64 0, .slice none 0 0] 56 (0, 0) := ⟨_, rfl⟩
  have K1 : (w.alloc o2).heap[w.heap.size]? = some o2 := blk_new w o2
  have HB0 : Below w.heap.size w (w.alloc o2) := below_alloc (Below.refl _ _) _
  rw [ho2] at K1 HB0
  clear ho2 o2
  have KD := Aside0.mk K1
  have HB := Aside0.mk HB0
  clear K1 HB0
  refine (callsIn_wide (n := 6)).1 ?_
  refine callsIn_of_wp Tryd.func48 rfl trivial ?_ rfl
  simp only [Tryd.ntmps48, List.size_toArray, List.length_cons, List.length_nil, Nat.reduceAdd, Nat.reduceSub, Array.replicate_succ, Array.replicate_zero, List.push_toArray, List.append_toArray, List.nil_append, List.cons_append]
  gi_wp2_with fail
  refine ⟨trivial, ?_⟩; gi_at_call 90
  refine (callsIn_wide.2 (bitset_fit.calls k n _ _ l0 0 _ (Kd.C_alloc HC.out _) hc0 HM.out)).mono ?_
  rintro e w1 ⟨rfl, hb⟩
  have n2_ := Aside0.mk (blk_below KD.out hb); have n3_ := Aside0.mk (below_step HB.out hb)
  clear KD HB hb
  have KD := n2_; have HB := n3_
  clear n2_ n3_
  have q0 := (blk_cell KD.out 0).trans rfl; have q1 := (blk_cell KD.out 1).trans rfl; have z0 := blk_frozen KD.out 0; have z1 := blk_frozen KD.out 1
  gi_wp2_with fail
  obtain ⟨X, hX⟩ : ∃ X, (World.setCell w1 ⟨w.heap.size, 0, none⟩ (Value.int IntKind.i64 0)).setCell ⟨w.heap.size, 1, none⟩ (Value.slice none 0 0) = X := ⟨_, rfl⟩
  have hXg : X.heap[w.heap.size]? = some (.cells #[.int .i64 0, Value.slice none 0 0] 56 (0, 0)) := hX ▸ blk_put (blk_put KD.out 0 (Value.int IntKind.i64 0) rfl) 1 (Value.slice none 0 0) rfl
  have hXB := wb (g := w.heap.size) hX.symm HB.out (Nat.le_refl _)
  try rw [hX]
  have c0 := (blk_cell hXg 0).trans rfl
  have c1 := (blk_cell hXg 1).trans rfl
  refine bodyPost_ret (v := .tuple #[.agg #[.int .i64 0, .slice none 0 0], .int .i64 1]) ?_ rfl ⟨_, rfl, Kd.S_nil _ _ _ _ _, hXB⟩
  simp [results, Tryd.f48, go_sem, c0, c1]
def bitset_MakeTable.f (k : Nat) (a0 : Int) (l1 : List S24) : Option (Int × List S24 × Int) :=
  if Goods l1 ∧ l1.length ≤ 9223372036854775807 then (bitset_fit.f k a0 l1).bind fun r => if r = 0 then (if (4096 : Int) < (l1.length : Int) then some (0, [], 1) else (bitset_blanks.f k a0 (l1.length : Int)).bind fun t => some (t.1, makeA 0 l1 t.2, 0)) else some (0, [], r) else none
theorem bitset_MakeTable.mono : ∀ a0 l1 k, LeO (bitset_MakeTable.f k a0 l1) (bitset_MakeTable.f (k + 1) a0 l1) := by
  intro a l k
  unfold bitset_MakeTable.f
  split
  · exact LeO.bind (bitset_fit.mono _ _ _) fun b => LeO.ite (LeO.ite (LeO.refl _) (LeO.bind (bitset_blanks.mono _ _ _) fun t => LeO.refl _)) (LeO.refl _)
  · exact LeO.none _
theorem fit_is {k : Nat} {n r : Int} {l : List S24} (hg : Goods l) (hl : l.length ≤ 9223372036854775807) (h : bitset_fit.f k n l = some r) : FitSays n l r := by
  obtain ⟨q, h1, h2⟩ := fit_eq n l hl hg
  rw [Ev.eq (Ev.of (bitset_fit.mono _ _) h) h2]
  exact h1
theorem FitSays.zero {n : Int} {l : List S24} (h : FitSays n l 0) : (∀ x ∈ l, MayS x ∧ x.f0 = n) ∧ 0 ≤ n ∧ n ≤ 4096 := by
  rcases h with ⟨h1, _⟩ | ⟨h1, _⟩ | ⟨_, h1, h2, h3⟩
  · omega
  · omega
  · exact ⟨fun x hx => ⟨h1 x hx, h2 x hx⟩, h3⟩
theorem bitset_MakeTable.calls (k : Nat) (a0 : Int) (A1 : Option Addr) (c1 : Nat) (l1 : List (S24)) (r1 : Int) (r2 : List (S24)) (r3 : Int) (w : World) (hr1 : Kd.C k24 w A1 l1.length l1) (hc1 : l1.length ≤ c1) (h : bitset_MakeTable.f k a0 l1 = some (r1, r2, r3)) :
    Calls Tryd.prog 48 #[.int .i64 a0, .slice A1 l1.length c1] w fun e w' => ∃ v1_ : Value, e = .returned (.tuple #[.agg #[.int .i64 r1, v1_], .int .i64 r3]) ∧ Kd.S k24 24 w' w.heap.size (fun _ => True) v1_ r2 ∧ Below w.heap.size w w' := by
  unfold bitset_MakeTable.f at h
  by_cases hg : Goods l1 ∧ l1.length ≤ 9223372036854775807
  · rw [if_pos hg] at h
    obtain ⟨r, hM, h⟩ := Option.bind_eq_some_iff.1 h
    by_cases hr : r = 0
    · subst hr
      rw [if_pos rfl] at h
      by_cases hgt : (4096 : Int) < (l1.length : Int)
      · rw [if_pos hgt] at h
        cases h
        exact MakeTable_many k a0 A1 c1 l1 w hr1 hc1 hgt hM
      · rw [if_neg hgt] at h
        obtain ⟨t, hBl, h⟩ := Option.bind_eq_some_iff.1 h
        obtain ⟨hx, hn0, hn1⟩ := (fit_is hg.1 hg.2 hM).zero
        obtain ⟨n, rfl⟩ := Int.eq_ofNat_of_zero_le hn0
        have hT : TabP (n : Int) l1 := ⟨hn0, hn1, by omega, hx⟩
        obtain ⟨rows, hR, hE⟩ := blanks_ev (m := n) (n := l1.length) (by omega) (by omega)
        have ht := Ev.eq (Ev.of (bitset_blanks.mono _ _) hBl) hE
        subst ht
        simp only [Option.some.injEq, Prod.mk.injEq] at h
        obtain ⟨rfl, rfl, rfl⟩ := h
        exact MakeTable_yes k n A1 c1 l1 rows w hr1 hc1 hT hM hBl hR.rok
    · rw [if_neg hr] at h
      cases h
      exact MakeTable_no k a0 _ A1 c1 l1 w hr1 hc1 hr hM
  · rw [if_neg hg] at h; cases h
end Go.Proofs.YtjmkhdhffmlhiaaDoor.PAll
end
section
namespace Go.Proofs.YtjmkhdhffmlhiaaDoor.PAll
set_option linter.unusedVariables false
set_option linter.unusedSimpArgs false
open Go.RowKit Go.Shelf Go.Proofs.YtjmkhdhffmlhiaaDoorW.PrintWords Go.Proofs.YtjmkhdhffmlhiaaDoorW.PrintLast Go.Proofs.YtjmkhdhffmlhiaaDoorW.PrintMore
attribute [local go_sem] Oper.semAt_some
def clS (k : Nat) (rows : List S24) (i : Nat) : List S24 := if hb (rd_T24 rows (i : Int)).f1 k = true then (if i = k then rows else bothS i rows (rd_T24 rows (k : Int))) else rows
def clI (k : Nat) : Nat → Nat → List S24 → List S24
  | 0, _, rows => rows
  | d + 1, i, rows => clI k d (i + 1) (clS k rows i)
def clO (n : Nat) : Nat → Nat → List S24 → List S24
  | 0, _, rows => rows
  | d + 1, k, rows => clO n d (k + 1) (clI k n 0 rows)
def Rw (n : Nat) (rows : List S24) : Prop := rows.length = n ∧ ∀ r ∈ rows, r.f1.length = (n + 63) / 64 ∧ Wds r.f1
theorem orw_Wds {b ws : List Int} (h : Wds b) (k : Wds ws) : Wds (orw b ws) := by
  intro x hx
  unfold orw at hx
  rcases List.mem_append.1 hx with hx | hx
  · exact zip_Wds bitly_or h k x hx
  · exact h x (List.mem_of_mem_drop hx)
theorem Rw.step {n k i : Nat} {rows : List S24} (h : Rw n rows) (hk : k < n) (hi : i < n) : Rw n (clS k rows i) := by
  unfold clS
  split
  · split
    · exact h
    · have hil : i < rows.length := by rw [h.1]; exact hi
      have hkl : k < rows.length := by rw [h.1]; exact hk
      have h1 := h.2 _ (List.getElem_mem hil)
      have h2 := h.2 _ (List.getElem_mem hkl)
      refine ⟨by unfold bothS; rw [List.length_set, h.1], fun r hr => ?_⟩
      unfold bothS at hr
      rcases List.mem_or_eq_of_mem_set hr with hr | rfl
      · exact h.2 r hr
      · rw [rdT_nat rows hil, rdT_nat rows hkl]
        exact ⟨by simp only; rw [orw_length (by omega)]; exact h1.1, orw_Wds h1.2 h2.2⟩
  · exact h
theorem fold_cl (n : Nat) (rows : List S24) (i k : Nat) (w0 W : World) (ok : Nat → Prop) (g cap : Nat) (hB : Below w0.heap.size w0 W) (hS : Kd.S k24 24 W w0.heap.size ok (.slice (some ⟨g, 0, none⟩) rows.length cap) rows) (hi : i < rows.length) (hk : k < rows.length) (hR : Rw n rows) (hbk : hb (rd_T24 rows (i : Int)).f1 k = true) :
    ∃ v, W.cell? ⟨g, i * 2, none⟩ = some (.int .i64 (rd_T24 rows (i : Int)).f0) ∧ W.cell? ⟨g, i * 2 + 1, none⟩ = some v ∧
      Calls Tryd.prog 88 #[.agg #[.int .i64 (rd_T24 rows (i : Int)).f0, v], .slice (some ⟨g, k * 2, none⟩) 1 1, .func (.func 89) #[] #[]] W fun e w' => e = .returned (.agg #[.int .i64 (rd_T24 rows (i : Int)).f0, v]) ∧
        Kd.S k24 24 w' w0.heap.size ok (.slice (some ⟨g, 0, none⟩) rows.length cap) (clS k rows i) ∧ Below w0.heap.size w0 w' ∧ Kept W w' ok := by
  unfold clS
  rw [if_pos hbk]
  by_cases hik : i = k
  · subst hik
    rw [if_pos rfl]
    exact fold_same rows i w0 W ok g cap hB hS hi (by rw [rdT_nat rows hi]; exact (hR.2 _ (List.getElem_mem hi)).2)
  · rw [if_neg hik]
    have := fold_own rows i k w0 W ok g cap hB hS hi hk hik (by rw [rdT_nat rows hi, (hR.2 _ (List.getElem_mem hi)).1, (hR.2 _ (List.getElem_mem hk)).1]; exact Nat.le_refl _)
    rw [rdT_nat rows hk]
    exact this
set_option maxHeartbeats 8000000 in
set_option maxRecDepth 100000 in
theorem Closure_yes (kf : Nat) (A0 : Option Addr) (c0 : Nat) (l0 rows : List S24) (w : World) (hr0 : Kd.C k24 w A0 l0.length l0) (hc0 : l0.length ≤ c0) (hl4 : l0.length ≤ 4096)
    (hM : bitset_MayTable.f kf (l0.length : Int) l0 = some true) (hMk : bitset_MakeTable.f kf (l0.length : Int) l0 = some ((l0.length : Int), rows, 0)) (hRk : Rw l0.length rows) :
    Calls Tryd.prog 56 #[.agg #[.int .i64 l0.length, .slice A0 l0.length c0]] w fun e w' => ∃ v : Value, e = .returned (.tuple #[.agg #[.int .i64 (l0.length : Int), v], .int .i64 0]) ∧ Kd.S k24 24 w' w.heap.size (fun _ => True) v (clO l0.length l0.length 0 rows) ∧ Below w.heap.size w w' := by
  have hu24 := Tryd.underlying24
  have hu56 := Tryd.underlying56
  have HC := Aside0.mk hr0
  have HM := Aside0.mk hM
  have HMk := Aside0.mk hMk
  clear hr0 hM hMk
  obtain ⟨o1, ho1⟩ : ∃ o1 : Obj, o1 = .cells #[.int .i64 l0.length, .slice A0 l0.length c0] 56 (0, 0) := ⟨_, rfl⟩
  obtain ⟨o2, ho2⟩ : ∃ o2 : Obj, o2 = .cells #[.int .i64 0, .slice none 0 0] 56 (0, 0) := ⟨_, rfl⟩
  have K0 : ((w.alloc o1).alloc o2).heap[w.heap.size]? = some o1 := blk_alloc (blk_new w o1) _
  have K1 : ((w.alloc o1).alloc o2).heap[w.heap.size + 1]? = some o2 := by have := blk_new (w.alloc o1) o2; rwa [World.size_alloc] at this
  have HB0 : Below w.heap.size w ((w.alloc o1).alloc o2) := below_alloc (below_alloc (Below.refl _ _) _) _
  have hs3 : w.heap.size + 2 ≤ ((w.alloc o1).alloc o2).heap.size := by rw [World.size_alloc, World.size_alloc]; omega
  rw [ho1, ho2] at K0 K1 HB0 hs3
  clear ho1 ho2 o1 o2
  have KA := Aside0.mk K0
  have KD := Aside0.mk K1
  have HB := Aside0.mk HB0
  have HS3 := Aside0.mk hs3
  clear K0 K1 HB0 hs3
  refine (callsIn_wide (n := 6)).1 ?_
  refine callsIn_of_wp Tryd.func56 rfl trivial ?_ rfl
  simp only [Tryd.ntmps56, List.size_toArray, List.length_cons, List.length_nil, Nat.reduceAdd, Nat.reduceSub, Array.replicate_succ, Array.replicate_zero, List.push_toArray, List.append_toArray, List.nil_append, List.cons_append]
  gi_wp2_with fail
  refine ⟨trivial, ?_⟩; gi_at_call 85
  refine (callsIn_wide.2 (bitset_MayTable.calls kf l0.length _ _ l0 true _ (Kd.C_alloc (Kd.C_alloc HC.out _) _) hc0 HM.out)).mono ?_
  rintro e w0 ⟨rfl, hb⟩
  have n0_ := Aside0.mk (blk_below KA.out hb); have n2_ := Aside0.mk (blk_below KD.out hb); have n3_ := Aside0.mk (below_step HB.out hb); have n4_ := Aside0.mk (Nat.le_trans HS3.out (below_size hb))
  clear KA KD HB hb HS3
  have KA := n0_; have KD := n2_; have HB := n3_; have HS3 := n4_
  clear n0_ n2_ n3_ n4_
  have q0 := (blk_cell KA.out 0).trans rfl; have q1 := (blk_cell KA.out 1).trans rfl
  gi_wp2_with fail
  refine ⟨trivial, ?_⟩; gi_at_call 87
  refine (callsIn_wide.2 (bitset_square.calls l0.length _ _ l0 true _ (Kd.C_below HC.out HB.out) hc0 (by unfold bitset_square.f; simp))).mono ?_
  rintro e w1 ⟨rfl, hb⟩
  have n0_ := Aside0.mk (blk_below KA.out hb); have n2_ := Aside0.mk (blk_below KD.out hb); have n3_ := Aside0.mk (below_step HB.out hb); have n4_ := Aside0.mk (Nat.le_trans HS3.out (below_size hb))
  clear KA KD HB hb HS3 q0 q1
  have KA := n0_; have KD := n2_; have HB := n3_; have HS3 := n4_
  clear n0_ n2_ n3_ n4_
  have q0 := (blk_cell KA.out 0).trans rfl; have q1 := (blk_cell KA.out 1).trans rfl
  gi_wp2_with fail
  refine ⟨trivial, ?_⟩; gi_at_call 48
  refine (callsIn_wide.2 (bitset_MakeTable.calls kf l0.length _ _ l0 _ _ _ _ (Kd.C_below HC.out HB.out) hc0 HMk.out)).mono ?_
  rintro e w2 ⟨vt, rfl, ho, hb⟩
  obtain ⟨At, ct, et⟩ := Kd.S_slice ho
  subst et
  have hct := (Kd.S_reads' ho).2.1
  have n2_ := Aside0.mk (blk_below KD.out hb); have n3_ := Aside0.mk (below_step HB.out hb)
  have HT := Aside0.mk (Kd.S_lower (Kd.S_mono (Kd.S_bound ho) (fun k_ hk_ => show w1.heap.size ≤ k_ ∧ k_ < w2.heap.size from ⟨hk_.2.1, hk_.2.2.1⟩)) (below_size HB.out))
  have HS2 := Aside0.mk (below_size hb)
  clear KA KD HB hb ho q0 q1
  have KD := n2_; have HB := n3_
  clear n2_ n3_
  have q1 := (blk_cell (blk_new w2 (.cells #[.int .i64 l0.length, .slice At rows.length ct] 56 (0, 0))) 1).trans rfl
  have HLR := Aside0.mk hRk.1
  have HCT := Aside0.mk hct
  clear hct
  gi_wp2_with fail
  refine wpIn_loop (fun a W => ∃ (k : Nat) (rk : List S24) (u6 u7 u28 u29 u30 u31 u32 u33 u34 u35 u36 u37 u38 u39 u40 u41 u42 u43 u44 u45 u46 u47 u48 u49 u50 u51 u52 u53 u54 u55 u56 u57 u58 : Value), a = { tmps := #[.agg #[.int .i64 l0.length, .slice A0 l0.length c0], .pointer (some ⟨w.heap.size, 0, none⟩), .pointer (some ⟨w.heap.size + 1, 0, none⟩), .int .i64 0, .pointer (some ⟨w2.heap.size, 0, none⟩), .int .i64 0, u6, u7, .agg #[.int .i64 l0.length, .slice A0 l0.length c0], .bool true, .bool false, undef, .agg #[.int .i64 l0.length, .slice A0 l0.length c0], .bool true, .bool false, undef, .tuple #[.agg #[.int .i64 l0.length, .slice At rows.length ct], .int .i64 0], .pointer (some ⟨w.heap.size, 0, none⟩), .int .i64 l0.length, .pointer (some ⟨w.heap.size, 1, none⟩), .slice A0 l0.length c0, .tuple #[.agg #[.int .i64 l0.length, .slice At rows.length ct], .int .i64 0], .agg #[.int .i64 l0.length, .slice At rows.length ct], .int .i64 0, .pointer (some ⟨w2.heap.size, 1, none⟩), .slice At rows.length ct, .int .i64 rows.length, .int .i64 k, u28, u29, u30, u31, u32, u33, u34, u35, u36, u37, u38, u39, u40, u41, u42, u43, u44, u45, u46, u47, u48, u49, u50, u51, u52, u53, u54, u55, u56, u57, u58, undef], defers := [] } ∧ Aside0 (k ≤ l0.length) ∧ Aside0 (clO l0.length (l0.length - k) k rk = clO l0.length l0.length 0 rows) ∧ Aside0 (Rw l0.length rk) ∧ Aside0 (W.heap[w.heap.size + 1]? = some (.cells #[.int .i64 0, .slice none 0 0] 56 (0, 0))) ∧ Aside0 (W.heap[w2.heap.size]? = some (.cells #[.int .i64 l0.length, .slice At rows.length ct] 56 (0, 0))) ∧ Aside0 (Kd.S k24 24 W w.heap.size (fun k_ => w1.heap.size ≤ k_ ∧ k_ < w2.heap.size) (.slice At rows.length ct) rk) ∧ Aside0 (Below w.heap.size w W))
    (fun a _ => l0.length - (intOf (a.tmps.getD 27 undef)).toNat) ?start ?round
  case start =>
    exact ⟨0, rows, undef, undef, undef, undef, undef, undef, undef, undef, undef, undef, undef, undef, undef, undef, undef, undef, undef, undef, undef, undef, undef, undef, undef, undef, undef, undef, undef, undef, undef, undef, undef, undef, undef, rfl, ⟨Nat.zero_le _⟩, ⟨rfl⟩, ⟨hRk⟩, ⟨blk_alloc KD.out _⟩, ⟨blk_new _ _⟩, ⟨Kd.S_alloc HT.out _⟩, ⟨below_alloc HB.out _⟩⟩
  case round =>
    clear KD HB HT q1
    rintro a wr ⟨k, rk0, u6, u7, u28, u29, u30, u31, u32, u33, u34, u35, u36, u37, u38, u39, u40, u41, u42, u43, u44, u45, u46, u47, u48, u49, u50, u51, u52, u53, u54, u55, u56, u57, u58, rfl, hj, hA, hRj, KD, KU, HT, HB⟩
    by_cases hlt : k < l0.length
    · have hd : decide (k < rows.length) = true := decide_eq_true (by rw [HLR.out]; exact hlt)
      have q1 := (blk_cell KU.out 1).trans rfl
      gi_wp2_with fail
      refine wpIn_loop (fun a W => ∃ (i : Nat) (rk : List S24) (x7 x34 x35 x36 x37 x38 x39 x40 x41 x42 x43 x44 x45 x46 x47 x48 x49 x50 x51 x52 x53 x54 x55 x56 x57 : Value), a = { tmps := #[.agg #[.int .i64 l0.length, .slice A0 l0.length c0], .pointer (some ⟨w.heap.size, 0, none⟩), .pointer (some ⟨w.heap.size + 1, 0, none⟩), .int .i64 0, .pointer (some ⟨w2.heap.size, 0, none⟩), .int .i64 0, .int .i64 k, x7, .agg #[.int .i64 l0.length, .slice A0 l0.length c0], .bool true, .bool false, undef, .agg #[.int .i64 l0.length, .slice A0 l0.length c0], .bool true, .bool false, undef, .tuple #[.agg #[.int .i64 l0.length, .slice At rows.length ct], .int .i64 0], .pointer (some ⟨w.heap.size, 0, none⟩), .int .i64 l0.length, .pointer (some ⟨w.heap.size, 1, none⟩), .slice A0 l0.length c0, .tuple #[.agg #[.int .i64 l0.length, .slice At rows.length ct], .int .i64 0], .agg #[.int .i64 l0.length, .slice At rows.length ct], .int .i64 0, .pointer (some ⟨w2.heap.size, 1, none⟩), .slice At rows.length ct, .int .i64 rows.length, .int .i64 k, .bool true, .int .i64 k, .pointer (some ⟨w2.heap.size, 1, none⟩), .slice At rows.length ct, .int .i64 rows.length, .int .i64 i, x34, x35, x36, x37, x38, x39, x40, x41, x42, x43, x44, x45, x46, x47, x48, x49, x50, x51, x52, x53, x54, x55, x56, x57, u58, undef], defers := [] } ∧ Aside0 (i ≤ l0.length) ∧ Aside0 (clI k (l0.length - i) i rk = clI k l0.length 0 rk0) ∧ Aside0 (Rw l0.length rk) ∧ Aside0 (W.heap[w.heap.size + 1]? = some (.cells #[.int .i64 0, .slice none 0 0] 56 (0, 0))) ∧ Aside0 (W.heap[w2.heap.size]? = some (.cells #[.int .i64 l0.length, .slice At rows.length ct] 56 (0, 0))) ∧ Aside0 (Kd.S k24 24 W w.heap.size (fun k_ => w1.heap.size ≤ k_ ∧ k_ < w2.heap.size) (.slice At rows.length ct) rk) ∧ Aside0 (Below w.heap.size w W))
        (fun a _ => l0.length - (intOf (a.tmps.getD 33 undef)).toNat) ?start2 ?round2
      case start2 =>
        exact ⟨0, rk0, _, _, _, _, _, _, _, _, _, _, _, _, _, _, _, _, _, _, _, _, _, _, _, _, _, rfl, ⟨Nat.zero_le _⟩, ⟨rfl⟩, hRj, KD, KU, HT, HB⟩
      case round2 =>
        clear KD KU HT HB q1
        rintro a wi ⟨i, rk, x7, x34, x35, x36, x37, x38, x39, x40, x41, x42, x43, x44, x45, x46, x47, x48, x49, x50, x51, x52, x53, x54, x55, x56, x57, rfl, hi, hA2, hRi, KD, KU, HT, HB⟩
        by_cases hil : i < l0.length
        · have hdi : decide (i < rows.length) = true := decide_eq_true (by rw [HLR.out]; exact hil)
          have hir : i < rk.length := by rw [hRi.out.1]; exact hil
          have hirr : i < rows.length := by rw [HLR.out]; exact hil
          have hkr : k < rk.length := by rw [hRi.out.1]; exact hlt
          obtain ⟨g, cap, ev, _, _, _⟩ := Kd.S_form HT.out (by omega)
          injection ev with e1 e2 e3
          subst e1 e3
          have q1 := (blk_cell KU.out 1).trans rfl
          have hT := HT.out
          rw [e2] at hT
          obtain ⟨f, hf⟩ := row_tag hT
          obtain ⟨v, z0, z1, hRv⟩ := hf i hir
          obtain ⟨Av, cv, rfl⟩ := Kd.R_slice hRv
          obtain ⟨_, hlev, hCv⟩ := Kd.R_reads' hRv
          have hri := rdT_nat rk hir
          obtain ⟨r, hr⟩ : ∃ r, rk[i] = r := ⟨_, rfl⟩
          have hrp := hRi.out.2 _ (List.getElem_mem hir)
          rw [hr] at z0 z1 hlev hCv hri hrp
          obtain ⟨f0, ws⟩ := r
          simp only at z0 z1 hlev hCv hrp
          have HHAS := Aside0.mk (has_eq (n := f0) (ws := ws) (e := k) hrp.2 (by rw [hrp.1]; omega) (by omega))
          have HCv := Aside0.mk hCv
          have HE2 := Aside0.mk e2
          have HRI := Aside0.mk hri
          have HT0 := Aside0.mk hT
          have HRP := Aside0.mk hrp
          have hct2 : k < ct := by have := HCT.out; have := HLR.out; omega
          have HY1 : Aside0 ((0 : Int) ≤ (k : Int) + 1) := ⟨by omega⟩
          have HY2 : Aside0 ((k : Int) + 1 ≤ (ct : Int)) := ⟨by omega⟩
          have hyc : ¬ (ct = k) := by omega
          have hyk : k + 1 ≤ ct := by omega
          clear e2 hri hCv hr hf hRv hT hrp
          gi_wp2_with fail
          refine ⟨trivial, ?_⟩; gi_at_call 77
          refine (callsIn_wide.2 (bitset_has.calls f0 _ _ ws k (hb ws k) _ HCv.out hlev HHAS.out)).mono ?_
          rintro e w5 ⟨rfl, hbw⟩
          have KD5 := Aside0.mk (blk_below KD.out hbw)
          have KU5 := Aside0.mk (blk_below KU.out hbw)
          have HT5 := Aside0.mk (Kd.S_below HT0.out hbw)
          have HB5 := Aside0.mk (below_step HB.out hbw)
          clear q1 z0 z1 hbw
          have hUi := blk_lt KU5.out
          have hw12 : w.heap.size + 2 ≤ w1.heap.size := HS3.out
          cases hbk : hb ws k with
          | false =>
            gi_wp2_with fail
            rw [show ((i : Int) + 1) = ((i + 1 : Nat) : Int) from by omega]
            have hcl : clS k rk i = rk := by unfold clS; rw [HRI.out, if_neg (by rw [hbk]; decide)]
            refine ⟨⟨i + 1, rk, _, _, _, _, _, _, _, _, _, _, _, _, _, _, _, _, _, _, _, _, _, _, _, _, _, rfl, ⟨hil⟩, ⟨?_⟩, hRi, KD5, KU5, ⟨?_⟩, HB5⟩, ?_⟩
            · have := hA2.out
              rw [show l0.length - i = (l0.length - (i + 1)) + 1 from by omega, clI, hcl] at this
              exact this
            · have := HT5.out; rw [← HE2.out] at this; exact this
            · show l0.length - (intOf (.int .i64 ((i + 1 : Nat) : Int))).toNat < l0.length - (intOf (.int .i64 (i : Int))).toNat
              simp only [intOf, Int.toNat_natCast]
              omega
          | true =>
            gi_wp2_with fail
            have KD4 := Aside0.mk (blk_drew KD5.out)
            have KU4 := Aside0.mk (blk_drew KU5.out)
            have HT4 := Aside0.mk (Kd.S_drew HT5.out)
            have HB4 := Aside0.mk (below_drew1 HB5.out)
            obtain ⟨v, z0, z1, hcall⟩ := fold_cl l0.length rk i k w _ _ g ct HB4.out HT4.out hir hkr hRi.out (by rw [HRI.out]; exact hbk)
            have u1 := (blk_cell KU4.out 1).trans rfl
            rw [HE2.out] at u1
            simp only [List.getElem?_toArray, List.getElem?_cons_zero, List.getElem?_cons_succ] at u1
            have HCALL := Aside0.mk hcall
            clear hcall
            have hmx : Tryd.prog.follows .mixedOrders = true := by kernel_rfl
            have HW1 := Aside0.mk (show wrap64 ((k : Int) + 1) = ((k + 1 : Nat) : Int) from by rw [w64_nat (by omega) (by omega)]; omega)
            refine wpIn_wide.2 ?_
            refine start_ (n := 14) (S := fun w' => w'.cell? ⟨w2.heap.size, 1, none⟩ = some (.slice (some ⟨g, 0, none⟩) rk.length ct) ∧ w'.cell? ⟨g, i * 2, none⟩ = some (.int .i64 (rd_T24 rk (i : Int)).f0) ∧ w'.cell? ⟨g, i * 2 + 1, none⟩ = some v) (ds := [13]) #[false, false, false, false, false, false, false, false, false, false, false, false, false, false] hmx (by kernel_rfl) rfl ⟨u1, z0, z1⟩ (fun hHeld => ?_)
            clear u1 z0 z1
            generalize w5.drew = W4 at KD4 KU4 HT4 HB4 hHeld HCALL ⊢
            refine pure_ (i := 0) (N := some 43) (v := ?_) (a' := ?_) #[true, false, false, false, false, false, false, false, false, false, false, false, false, false] rfl rfl (by kernel_rfl) (fun _ _ _ h => h) (Or.inl ⟨by rfl, ?_⟩) ?_ ?_
            rotate_left
            · intro w'
              go_simp
              with_reducible rfl
            rotate_left
            · simp only [Act.put, List.setIfInBounds_toArray, List.set_cons_zero, List.set_cons_succ, i64_w, i32_w]
              rfl
            refine pure_ (i := 2) (N := some 45) (v := ?_) (a' := ?_) #[true, false, true, false, false, false, false, false, false, false, false, false, false, false] rfl rfl (by kernel_rfl) (fun _ _ _ h => h) (Or.inl ⟨by rfl, ?_⟩) ?_ ?_
            rotate_left
            · intro w'
              go_simp
              with_reducible rfl
            rotate_left
            · simp only [Act.put, List.setIfInBounds_toArray, List.set_cons_zero, List.set_cons_succ, i64_w, i32_w]
              rfl
            refine pure_ (i := 5) (N := some 48) (v := ?_) (a' := ?_) #[true, false, true, false, false, true, false, false, false, false, false, false, false, false] rfl rfl (by kernel_rfl) (fun _ _ _ h => h) (Or.inl ⟨by rfl, ?_⟩) ?_ ?_
            rotate_left
            · intro w'
              go_simp
              with_reducible rfl
            rotate_left
            · simp only [Act.put, List.setIfInBounds_toArray, List.set_cons_zero, List.set_cons_succ, i64_w, i32_w]
              rfl
            refine pure_ (i := 7) (N := some 50) (v := ?_) (a' := ?_) #[true, false, true, false, false, true, false, true, false, false, false, false, false, false] rfl rfl (by kernel_rfl) (fun _ _ _ h => h) (Or.inl ⟨by rfl, ?_⟩) ?_ ?_
            rotate_left
            · intro w'
              go_simp
              with_reducible rfl
            rotate_left
            · simp only [Act.put, List.setIfInBounds_toArray, List.set_cons_zero, List.set_cons_succ, i64_w, i32_w]
              rfl
            refine pure_ (i := 8) (N := some 51) (v := ?_) (a' := ?_) #[true, false, true, false, false, true, false, true, true, false, false, false, false, false] rfl rfl (by kernel_rfl) (fun _ _ _ h => h) (Or.inl ⟨by rfl, ?_⟩) ?_ ?_
            rotate_left
            · intro w'
              go_simp
              with_reducible rfl
            rotate_left
            · simp only [Act.put, List.setIfInBounds_toArray, List.set_cons_zero, List.set_cons_succ, i64_w, i32_w]
              rfl
            refine pure_ (i := 10) (N := some 53) (v := ?_) (a' := ?_) #[true, false, true, false, false, true, false, true, true, false, true, false, false, false] rfl rfl (by kernel_rfl) (fun _ _ _ h => h) (Or.inl ⟨by rfl, ?_⟩) ?_ ?_
            rotate_left
            · intro w'
              go_simp
              with_reducible rfl
            rotate_left
            · simp only [Act.put, List.setIfInBounds_toArray, List.set_cons_zero, List.set_cons_succ, i64_w, i32_w]
              rfl
            refine pure_ (i := 9) (N := some 52) (v := ?_) (a' := ?_) #[true, false, true, false, false, true, false, true, true, true, true, false, false, false] rfl rfl (by kernel_rfl) (fun _ _ _ h => h) (Or.inl ⟨by rfl, ?_⟩) ?_ ?_
            rotate_left
            · intro w'
              go_simp
              rw [i64_w, HW1.out]
            rotate_left
            · simp only [Act.put, List.setIfInBounds_toArray, List.set_cons_zero, List.set_cons_succ, i64_w, i32_w]
              rfl
            refine pure_ (i := 11) (N := some 54) (v := ?_) (a' := ?_) #[true, false, true, false, false, true, false, true, true, true, true, true, false, false] rfl rfl (by kernel_rfl) (fun _ _ _ h => h) (Or.inl ⟨by rfl, ?_⟩) ?_ ?_
            rotate_left
            · intro w'
              go_simp
              rw [i64_w, HW1.out]
            rotate_left
            · simp only [Act.put, List.setIfInBounds_toArray, List.set_cons_zero, List.set_cons_succ, i64_w, i32_w]
              rfl
            refine take_ (i := 1) (N := some 44) (v := ?_) (a' := ?_) #[true, true, true, false, false, true, false, true, true, true, true, true, false, false] rfl rfl (by kernel_rfl) (fun _ _ _ h => h) (Or.inl ⟨by rfl, ?_⟩) hHeld ?_ ?_
            rotate_left
            · rintro w' ⟨s0, s1, s2⟩
              go_simp
              with_reducible rfl
            rotate_left
            · simp only [Act.put, List.setIfInBounds_toArray, List.set_cons_zero, List.set_cons_succ, i64_w, i32_w]
              rfl
            refine take_ (i := 6) (N := some 49) (v := ?_) (a' := ?_) #[true, true, true, false, false, true, true, true, true, true, true, true, false, false] rfl rfl (by kernel_rfl) (fun _ _ _ h => h) (Or.inl ⟨by rfl, ?_⟩) hHeld ?_ ?_
            rotate_left
            · rintro w' ⟨s0, s1, s2⟩
              go_simp
              with_reducible rfl
            rotate_left
            · simp only [Act.put, List.setIfInBounds_toArray, List.set_cons_zero, List.set_cons_succ, i64_w, i32_w]
              rfl
            refine pure_ (i := 3) (N := some 46) (v := ?_) (a' := ?_) #[true, true, true, true, false, true, true, true, true, true, true, true, false, false] rfl rfl (by kernel_rfl) (fun _ _ _ h => h) (Or.inl ⟨by rfl, ?_⟩) ?_ ?_
            rotate_left
            · intro w'
              go_simp
              with_reducible rfl
            rotate_left
            · simp only [Act.put, List.setIfInBounds_toArray, List.set_cons_zero, List.set_cons_succ, i64_w, i32_w]
              rfl
            refine take_ (i := 4) (N := some 47) (v := ?_) (a' := ?_) #[true, true, true, true, true, true, true, true, true, true, true, true, false, false] rfl rfl (by kernel_rfl) (fun _ _ _ h => h) (Or.inl ⟨by rfl, ?_⟩) hHeld ?_ ?_
            rotate_left
            · rintro w' ⟨s0, s1, s2⟩
              go_simp
              with_reducible rfl
            rotate_left
            · simp only [Act.put, List.setIfInBounds_toArray, List.set_cons_zero, List.set_cons_succ, i64_w, i32_w]
              rfl
            refine pure_ (i := 12) (N := some 55) (v := ?_) (a' := ?_) #[true, true, true, true, true, true, true, true, true, true, true, true, true, false] rfl rfl (by kernel_rfl) (fun _ _ _ h => h) (Or.inl ⟨by rfl, ?_⟩) ?_ ?_
            rotate_left
            · intro w'
              go_simp
              try simp only [eq_true HY1.out, eq_true HY2.out, and_self, if_true]
              with_reducible rfl
            rotate_left
            · simp only [Act.put, List.setIfInBounds_toArray, List.set_cons_zero, List.set_cons_succ, i64_w, i32_w]
              rfl
            refine last_ (i := 13) (N := some 56) #[true, true, true, true, true, true, true, true, true, true, true, true, true, true] rfl rfl (by kernel_rfl) (by decide) (fun K hK => ?_)
            refine goes_ Tryd.func88 (by kernel_rfl) rfl #[.agg #[.int .i64 (rd_T24 rk (i : Int)).f0, v], .slice (some ⟨g, k * 2, none⟩) 1 1, .func (.func 89) #[] #[]] (by rfl) rfl rfl (by (try simp only [List.map_toArray, List.map_cons, List.map_nil]); first | done | rfl) ?_
            refine HCALL.out.mono ?_
            rintro e w6 ⟨rfl, hS6, hB6, hK6⟩
            refine ⟨_, rfl, ?_⟩
            refine hK.out _ _ ?_
            clear hK K
            refine done_ (by kernel_rfl) ?_
            have KD6 := Aside0.mk ((hK6.2 _ (blk_lt KD4.out) (fun h => by omega)).trans KD4.out)
            have KU6 := Aside0.mk ((hK6.2 _ (blk_lt KU4.out) (fun h => by omega)).trans KU4.out)
            gi_wp2_with fail
            rw [show ((i : Int) + 1) = ((i + 1 : Nat) : Int) from by omega]
            refine ⟨⟨i + 1, clS k rk i, _, _, _, _, _, _, _, _, _, _, _, _, _, _, _, _, _, _, _, _, _, _, _, _, _, rfl, ⟨hil⟩, ⟨?_⟩, ⟨hRi.out.step hlt hil⟩, KD6, KU6, ⟨?_⟩, ⟨hB6⟩⟩, ?_⟩
            · have := hA2.out
              rw [show l0.length - i = (l0.length - (i + 1)) + 1 from by omega, clI] at this
              exact this
            · rw [HE2.out]; exact hS6
            · show l0.length - (intOf (.int .i64 ((i + 1 : Nat) : Int))).toNat < l0.length - (intOf (.int .i64 (i : Int))).toNat
              simp only [intOf, Int.toNat_natCast]
              omega
        · have hie : i = l0.length := by have := hi.out; omega
          subst hie
          have hd2 : decide (l0.length < rows.length) = false := decide_eq_false (by rw [HLR.out]; exact hil)
          gi_wp2_with fail
          rw [show ((k : Int) + 1) = ((k + 1 : Nat) : Int) from by omega]
          refine ⟨⟨k + 1, rk, _, _, _, _, _, _, _, _, _, _, _, _, _, _, _, _, _, _, _, _, _, _, _, _, _, _, _, _, _, _, _, _, _, rfl, ⟨hlt⟩, ⟨?_⟩, hRi, KD, KU, HT, HB⟩, ?_⟩
          · have h1 := hA.out
            have h2 := hA2.out
            rw [Nat.sub_self, clI] at h2
            rw [show l0.length - k = (l0.length - (k + 1)) + 1 from by omega, clO, ← h2] at h1
            exact h1
          · show l0.length - (intOf (.int .i64 ((k + 1 : Nat) : Int))).toNat < l0.length - (intOf (.int .i64 (k : Int))).toNat
            simp only [intOf, Int.toNat_natCast]
            omega
    · have hke : k = l0.length := by have := hj.out; omega
      subst hke
      have hd : decide (l0.length < rows.length) = false := decide_eq_false (by rw [HLR.out]; exact hlt)
      have q0 := (blk_cell KU.out 0).trans rfl
      have q1 := (blk_cell KU.out 1).trans rfl
      have q2 := (blk_cell KD.out 0).trans rfl
      have q3 := (blk_cell KD.out 1).trans rfl
      have z0 := blk_frozen KD.out 0
      have z1 := blk_frozen KD.out 1
      gi_wp2_with fail
      have hw12 : w.heap.size + 2 ≤ w1.heap.size := HS3.out
      obtain ⟨X, hX⟩ : ∃ X, (wr.setCell ⟨w.heap.size + 1, 0, none⟩ (Value.int IntKind.i64 l0.length)).setCell ⟨w.heap.size + 1, 1, none⟩ (Value.slice At rows.length ct) = X := ⟨_, rfl⟩
      have hKX : Kept wr X (fun k_ => k_ = w.heap.size + 1) := by
        refine ⟨by rw [← hX, World.size_setCell, World.size_setCell]; exact Nat.le_refl _, fun k_ hk_ hn_ => ?_⟩
        rw [← hX, Below.heap_setCell _ _ _ _ hn_, Below.heap_setCell _ _ _ _ hn_]
      have hXg : X.heap[w.heap.size + 1]? = some (.cells #[.int .i64 l0.length, .slice At rows.length ct] 56 (0, 0)) := hX ▸ blk_put (blk_put KD.out 0 (Value.int IntKind.i64 l0.length) rfl) 1 (Value.slice At rows.length ct) rfl
      have hXB := wb (g := w.heap.size + 1) hX.symm HB.out (by omega)
      have hXS := Kd.S_kept HT.out hKX (fun k_ hk_ e => by omega)
      try rw [hX]
      have c0 := (blk_cell hXg 0).trans rfl
      have c1 := (blk_cell hXg 1).trans rfl
      refine bodyPost_ret (v := .tuple #[.agg #[.int .i64 l0.length, .slice At rows.length ct], .int .i64 0]) ?_ rfl ⟨_, rfl, ?_, hXB⟩
      · simp [results, Tryd.f56, go_sem, c0, c1]
      · have hA3 : rk0 = clO l0.length l0.length 0 rows := by
          have := hA.out
          rw [Nat.sub_self] at this
          exact this
        rw [← hA3]
        exact Kd.S_mono hXS (fun _ _ => trivial)
end Go.Proofs.YtjmkhdhffmlhiaaDoor.PAll
end
section
namespace Go.Proofs.YtjmkhdhffmlhiaaDoor.PAll
set_option linter.unusedVariables false
set_option linter.unusedSimpArgs false
open Go.RowKit Go.Shelf Go.Proofs.YtjmkhdhffmlhiaaDoorW.PrintWords Go.Proofs.YtjmkhdhffmlhiaaDoorW.PrintLast Go.Proofs.YtjmkhdhffmlhiaaDoorW.PrintMore
attribute [local go_sem] Oper.semAt_some
set_option maxHeartbeats 8000000 in
set_option maxRecDepth 100000 in
theorem Closure_no (k : Nat) (n : Int) (A0 : Option Addr) (c0 : Nat) (l0 : List S24) (w : World) (hr0 : Kd.C k24 w A0 l0.length l0) (hc0 : l0.length ≤ c0) (b : Bool) (hb2 : b = true → n ≠ (l0.length : Int)) (hM : bitset_MayTable.f k n l0 = some b) :
    Calls Tryd.prog 56 #[.agg #[.int .i64 n, .slice A0 l0.length c0]] w fun e w' => ∃ v : Value, e = .returned (.tuple #[.agg #[.int .i64 0, v], .int .i64 (if b = true then 60 else 61)]) ∧ Kd.S k24 24 w' w.heap.size (fun _ => True) v [] ∧ Below w.heap.size w w' := by
  have hu24 := Tryd.underlying24
  have hu56 := Tryd.underlying56
  have HC := Aside0.mk hr0
  have HM := Aside0.mk hM
  have HN := Aside0.mk hb2
  clear hr0 hM hb2
  obtain ⟨o1, ho1⟩ : ∃ o1 : Obj, o1 = .cells #[.int .i64 n, .slice A0 l0.length c0] 56 (0, 0) := ⟨_, rfl⟩
  obtain ⟨o2, ho2⟩ : ∃ o2 : Obj, o2 = .cells #[.int .i64 0, .slice none 0 0] 56 (0, 0) := ⟨_, rfl⟩
  have K0 : ((w.alloc o1).alloc o2).heap[w.heap.size]? = some o1 := blk_alloc (blk_new w o1) _
  have K1 : ((w.alloc o1).alloc o2).heap[w.heap.size + 1]? = some o2 := by have := blk_new (w.alloc o1) o2; rwa [World.size_alloc] at this
  have HB0 : Below w.heap.size w ((w.alloc o1).alloc o2) := below_alloc (below_alloc (Below.refl _ _) _) _
  rw [ho1, ho2] at K0 K1 HB0
  clear ho1 ho2 o1 o2
  have KA := Aside0.mk K0
  have KD := Aside0.mk K1
  have HB := Aside0.mk HB0
  clear K0 K1 HB0
  refine (callsIn_wide (n := 6)).1 ?_
  refine callsIn_of_wp Tryd.func56 rfl trivial ?_ rfl
  simp only [Tryd.ntmps56, List.size_toArray, List.length_cons, List.length_nil, Nat.reduceAdd, Nat.reduceSub, Array.replicate_succ, Array.replicate_zero, List.push_toArray, List.append_toArray, List.nil_append, List.cons_append]
  gi_wp2_with fail
  refine ⟨trivial, ?_⟩; gi_at_call 85
  refine (callsIn_wide.2 (bitset_MayTable.calls k n _ _ l0 b _ (Kd.C_alloc (Kd.C_alloc HC.out _) _) hc0 HM.out)).mono ?_
  rintro e w1 ⟨rfl, hb⟩
  have n0_ := Aside0.mk (blk_below KA.out hb); have n2_ := Aside0.mk (blk_below KD.out hb); have n3_ := Aside0.mk (below_step HB.out hb)
  clear KA KD HB hb
  have KA := n0_; have KD := n2_; have HB := n3_
  clear n0_ n2_ n3_
  have q0 := (blk_cell KA.out 0).trans rfl; have q1 := (blk_cell KA.out 1).trans rfl
  have k0 := (blk_cell KD.out 0).trans rfl; have k1 := (blk_cell KD.out 1).trans rfl; have z0 := blk_frozen KD.out 0; have z1 := blk_frozen KD.out 1
  cases b with
  | false =>
    gi_wp2_with fail
    obtain ⟨X, hX⟩ : ∃ X, (World.setCell w1 ⟨w.heap.size + 1, 0, none⟩ (Value.int IntKind.i64 0)).setCell ⟨w.heap.size + 1, 1, none⟩ (Value.slice none 0 0) = X := ⟨_, rfl⟩
    have hXg : X.heap[w.heap.size + 1]? = some (.cells #[.int .i64 0, Value.slice none 0 0] 56 (0, 0)) := hX ▸ blk_put (blk_put KD.out 0 (Value.int IntKind.i64 0) rfl) 1 (Value.slice none 0 0) rfl
    have hXB := wb (g := w.heap.size + 1) hX.symm HB.out (by omega)
    try rw [hX]
    have c0' := (blk_cell hXg 0).trans rfl
    have c1' := (blk_cell hXg 1).trans rfl
    refine bodyPost_ret (v := .tuple #[.agg #[.int .i64 0, .slice none 0 0], .int .i64 61]) ?_ rfl ⟨_, rfl, Kd.S_nil _ _ _ _ _, hXB⟩
    simp [results, Tryd.f56, go_sem, c0', c1']
  | true =>
    gi_wp2_with fail
    refine ⟨trivial, ?_⟩; gi_at_call 87
    refine (callsIn_wide.2 (bitset_square.calls n _ _ l0 false _ (Kd.C_below HC.out HB.out) hc0 (by unfold bitset_square.f; have hne := HN.out (by trivial); simpa using hne))).mono ?_
    rintro e w2 ⟨rfl, hb⟩
    have n2_ := Aside0.mk (blk_below KD.out hb); have n3_ := Aside0.mk (below_step HB.out hb)
    clear KA KD HB hb q0 q1 k0 k1 z0 z1
    have KD := n2_; have HB := n3_
    clear n2_ n3_
    have k0 := (blk_cell KD.out 0).trans rfl; have k1 := (blk_cell KD.out 1).trans rfl; have z0 := blk_frozen KD.out 0; have z1 := blk_frozen KD.out 1
    gi_wp2_with fail
    obtain ⟨X, hX⟩ : ∃ X, (World.setCell w2 ⟨w.heap.size + 1, 0, none⟩ (Value.int IntKind.i64 0)).setCell ⟨w.heap.size + 1, 1, none⟩ (Value.slice none 0 0) = X := ⟨_, rfl⟩
    have hXg : X.heap[w.heap.size + 1]? = some (.cells #[.int .i64 0, Value.slice none 0 0] 56 (0, 0)) := hX ▸ blk_put (blk_put KD.out 0 (Value.int IntKind.i64 0) rfl) 1 (Value.slice none 0 0) rfl
    have hXB := wb (g := w.heap.size + 1) hX.symm HB.out (by omega)
    try rw [hX]
    have c0' := (blk_cell hXg 0).trans rfl
    have c1' := (blk_cell hXg 1).trans rfl
    refine bodyPost_ret (v := .tuple #[.agg #[.int .i64 0, .slice none 0 0], .int .i64 60]) ?_ rfl ⟨_, rfl, Kd.S_nil _ _ _ _ _, hXB⟩
    simp [results, Tryd.f56, go_sem, c0', c1']
def bitset_Closure.f (k : Nat) (a0_0 : Int) (l0_1 : List S24) : Option (Int × List S24 × Int) :=
  if Goods l0_1 ∧ l0_1.length ≤ 9223372036854775807 then (bitset_MayTable.f k a0_0 l0_1).bind fun b => if b = true then
    if a0_0 = (l0_1.length : Int) then (bitset_MakeTable.f k a0_0 l0_1).bind fun t => some (t.1, clO l0_1.length l0_1.length 0 t.2.1, 0) else some (0, [], 60) else some (0, [], 61) else none
theorem makeA_is {n : Nat} : ∀ (l : List S24) (j : Nat) (rows : List S24), j + l.length = rows.length → (∀ s ∈ l, s.f0 = (n : Int)) → (∀ r ∈ rows, r.f0 = (n : Int)) → makeA j l rows = rows.take j ++ l
  | [], j, rows, h, _, _ => by
    rw [List.length_nil, Nat.add_zero] at h
    rw [makeA, h, List.take_length, List.append_nil]
  | s :: l, j, rows, h, hs, hr => by
    simp only [List.length_cons] at h
    have hj : j < rows.length := by omega
    have e : (⟨(rd_T24 rows (j : Int)).f0, s.f1⟩ : S24) = s := S_ext (by rw [rdT_nat rows hj, hr _ (List.getElem_mem hj), hs s List.mem_cons_self]) rfl
    have e2 : makeS j rows s = rows.set j s := by unfold makeS; rw [e]
    rw [makeA, e2, makeA_is l (j + 1) (rows.set j s) (by rw [List.length_set]; omega) (fun x hx => hs x (List.mem_cons_of_mem _ hx)) (fun x hx => by
      rcases List.mem_or_eq_of_mem_set hx with hx | rfl
      · exact hr x hx
      · exact hs _ List.mem_cons_self)]
    rw [List.take_add_one, List.take_set_of_le (by omega)]
    simp [hj]
theorem MakeTable_rows {n m : Nat} (hn : n ≤ 4096) (hm : m ≤ 4096) {p : Nat → Nat → Bool} {l : List S24} (hR : RowsAre n m p l) : Ev (fun k => bitset_MakeTable.f k (m : Int) l) ((m : Int), l, 0) := by
  obtain ⟨hT, hg⟩ := hR.tab hn hm
  have hl : l.length ≤ 9223372036854775807 := by rw [hR.1]; omega
  obtain ⟨r, h1, K, hM⟩ := fit_eq (m : Int) l hl hg
  have hr : r = 0 := h1.eq (.inr (.inr ⟨rfl, fun x hx => (hT.2.2.2 x hx).1, fun x hx => (hT.2.2.2 x hx).2, by omega, by omega⟩))
  subst hr
  obtain ⟨rows, hB, L, hE⟩ := blanks_ev (m := m) (n := l.length) hm (by rw [hR.1]; exact hn)
  refine ⟨K + L, fun k hk => ?_⟩
  have x1 := hM k (by omega)
  have x2 := hE k (by omega)
  dsimp only at x1 x2
  have e : makeA 0 l rows = l := by
    rw [makeA_is (n := m) l 0 rows (by rw [Nat.zero_add, hB.1]) (fun s hs => (hT.2.2.2 s hs).2) (fun r hr => by obtain ⟨i, hi, rfl⟩ := List.getElem_of_mem hr; exact (hB.2 i hi).1)]
    rfl
  show bitset_MakeTable.f k (m : Int) l = _
  unfold bitset_MakeTable.f
  rw [if_pos ⟨hg, hl⟩, x1, Option.bind_some, if_pos rfl, if_neg (by rw [hR.1]; omega), x2, Option.bind_some]
  dsimp only
  rw [e]
theorem RowsAre.rw {n : Nat} {p : Nat → Nat → Bool} {rows : List S24} (h : RowsAre n n p rows) : Rw n rows :=
  ⟨h.1, fun r hr => by obtain ⟨i, hi, rfl⟩ := List.getElem_of_mem hr; exact ⟨(h.2 i hi).2.len, (h.2 i hi).2.wds⟩⟩
theorem bitset_Closure.calls (k : Nat) (a0_0 : Int) (A0_1 : Option Addr) (c0_1 : Nat) (l0_1 : List (S24)) (r1 : Int) (r2 : List (S24)) (r3 : Int) (w : World) (hr0_1 : Kd.C k24 w A0_1 l0_1.length l0_1) (hc0_1 : l0_1.length ≤ c0_1) (h : bitset_Closure.f k a0_0 l0_1 = some (r1, r2, r3)) :
    Calls Tryd.prog 56 #[.agg #[.int .i64 a0_0, .slice A0_1 l0_1.length c0_1]] w fun e w' => ∃ v1_ : Value, e = .returned (.tuple #[.agg #[.int .i64 r1, v1_], .int .i64 r3]) ∧ Kd.S k24 24 w' w.heap.size (fun _ => True) v1_ r2 ∧ Below w.heap.size w w' := by
  unfold bitset_Closure.f at h
  by_cases hg : Goods l0_1 ∧ l0_1.length ≤ 9223372036854775807
  · rw [if_pos hg] at h
    obtain ⟨b, hM, h⟩ := Option.bind_eq_some_iff.1 h
    cases b with
    | true =>
      have hT : TabP a0_0 l0_1 := tabp_true.1 (MayTable_is hg.1 hg.2 hM).symm
      rw [if_pos rfl] at h
      by_cases hn : a0_0 = (l0_1.length : Int)
      · rw [if_pos hn] at h
        obtain ⟨t, hMk, h⟩ := Option.bind_eq_some_iff.1 h
        subst hn
        have hR : RowsAre l0_1.length l0_1.length (fun x j => hb (l0_1.getD x ⟨0, []⟩).f1 j) l0_1 := by have := RowsAre.of hT hg.1; rwa [Int.toNat_natCast] at this
        have ht := Ev.eq (Ev.of (bitset_MakeTable.mono _ _) hMk) (MakeTable_rows hT.2.2.1 hT.2.2.1 hR)
        subst ht
        simp only [Option.some.injEq, Prod.mk.injEq] at h
        obtain ⟨rfl, rfl, rfl⟩ := h
        exact Closure_yes k A0_1 c0_1 l0_1 l0_1 w hr0_1 hc0_1 hT.2.2.1 hM hMk hR.rw
      · rw [if_neg hn] at h
        cases h
        exact Closure_no k a0_0 A0_1 c0_1 l0_1 w hr0_1 hc0_1 true (fun _ => hn) hM
    | false =>
      rw [if_neg (by decide)] at h
      cases h
      exact Closure_no k a0_0 A0_1 c0_1 l0_1 w hr0_1 hc0_1 false (fun h => by cases h) hM
  · rw [if_neg hg] at h; cases h
end Go.Proofs.YtjmkhdhffmlhiaaDoor.PAll
end
section
namespace Go.Proofs.YtjmkhdhffmlhiaaDoor.PAll
set_option linter.unusedVariables false
set_option linter.unusedSimpArgs false
open Go.RowKit Go.Shelf Go.Proofs.YtjmkhdhffmlhiaaDoorW.PrintWords Go.Proofs.YtjmkhdhffmlhiaaDoorW.PrintLast Go.Proofs.YtjmkhdhffmlhiaaDoorW.PrintMore
def way (p : Nat → Nat → Bool) : Nat → Nat → Nat → Bool
  | 0, x, y => p x y
  | k + 1, x, y => way p k x y || (way p k x k && way p k k y)
theorem way_step {p : Nat → Nat → Bool} {k x y : Nat} (h : way p k x y = true) : way p (k + 1) x y = true := by
  rw [way, h]; rfl
theorem way_up {p : Nat → Nat → Bool} {x y : Nat} : ∀ {k m : Nat}, k ≤ m → way p k x y = true → way p m x y = true := by
  intro k m hkm h
  induction hkm with
  | refl => exact h
  | step _ ih => exact way_step ih
theorem way_trans {p : Nat → Nat → Bool} : ∀ {k z x y : Nat}, z < k → way p k x z = true → way p k z y = true → way p k x y = true := by
  intro k
  induction k with
  | zero => intro z x y h; omega
  | succ k ih =>
    intro z x y hz h1 h2
    rw [way, Bool.or_eq_true, Bool.and_eq_true] at h1 h2 ⊢
    by_cases hzk : z = k
    · subst hzk
      have a1 : way p z x z = true := by rcases h1 with h | h; exact h; exact h.1
      have a2 : way p z z y = true := by rcases h2 with h | h; exact h; exact h.2
      exact .inr ⟨a1, a2⟩
    · have hz' : z < k := by omega
      rcases h1 with h1 | ⟨h1, h3⟩ <;> rcases h2 with h2 | ⟨h2, h4⟩
      · exact .inl (ih hz' h1 h2)
      · exact .inr ⟨ih hz' h1 h2, h4⟩
      · exact .inr ⟨h1, ih hz' h3 h2⟩
      · exact .inr ⟨h1, h4⟩
theorem RowsAre.cl {n : Nat} {p : Nat → Nat → Bool} {rows : List S24} (h : RowsAre n n p rows) {k i : Nat} (hk : k < n) (hi : i < n) : RowsAre n n (fun x d => p x d || (decide (x = i) && (p i k && p k d))) (clS k rows i) := by
  have hil : i < rows.length := by rw [h.1]; exact hi
  have hkl : k < rows.length := by rw [h.1]; exact hk
  have hik := (h.2 i hil).2.has k
  unfold clS
  rw [rdT_nat rows hil, rdT_nat rows hkl, hik]
  simp only [hk, decide_true, Bool.true_and]
  by_cases hp : p i k = true
  · rw [if_pos hp]
    by_cases he : i = k
    · rw [if_pos he]
      subst he
      refine h.congr fun x _ d _ => ?_
      by_cases hx : x = i
      · subst hx; rw [hp]; simp
      · simp [hx]
    · rw [if_neg he]
      refine (h.both hi (h.2 k hkl).2).congr fun x _ d _ => ?_
      rw [hp, Bool.true_and]
  · rw [if_neg hp]
    have hp' : p i k = false := by simpa using hp
    exact h.congr fun x _ d _ => by rw [hp']; simp
theorem RowsAre.clI {n : Nat} {k : Nat} (hk : k < n) : ∀ (d i : Nat) {p : Nat → Nat → Bool} {rows : List S24}, RowsAre n n p rows → i + d = n → RowsAre n n (fun x y => p x y || (decide (i ≤ x) && (p x k && p k y))) (clI k d i rows)
  | 0, i, p, rows, h, hi => by
    refine h.congr fun x hx y _ => ?_
    have : ¬ i ≤ x := by omega
    simp [this]
  | d + 1, i, p, rows, h, hi => by
    have hin : i < n := by omega
    refine (RowsAre.clI hk d (i + 1) (h.cl hk hin) (by omega)).congr fun x hx y _ => ?_
    by_cases hxi : x = i
    · subst hxi
      have h1 : ¬ x + 1 ≤ x := by omega
      simp [h1]
    · by_cases hle : i ≤ x
      · have h1 : i + 1 ≤ x := by omega
        by_cases hki : k = i
        · subst hki
          simp only [hxi, hle, h1, decide_true, decide_false, Bool.true_and, Bool.false_and, Bool.or_false]
          generalize p x y = a1
          generalize p x k = a2
          generalize p k y = a3
          generalize p k k = a4
          revert a1 a2 a3 a4
          decide
        · simp [hxi, hle, h1, hki]
      · have h1 : ¬ i + 1 ≤ x := by omega
        simp [hxi, hle, h1]
theorem RowsAre.clO {n : Nat} {p : Nat → Nat → Bool} : ∀ (d k : Nat) {rows : List S24}, RowsAre n n (way p k) rows → k + d = n → RowsAre n n (way p n) (clO n d k rows)
  | 0, k, rows, h, hk => by
    rw [Nat.add_zero] at hk
    subst hk
    exact h
  | d + 1, k, rows, h, hk => RowsAre.clO d (k + 1) ((RowsAre.clI (by omega) n 0 h (by omega)).congr fun x _ y _ => by rw [way]; simp) (by omega)
theorem Closure_rows {n : Nat} (hn : n ≤ 4096) {p : Nat → Nat → Bool} {l : List S24} (hR : RowsAre n n p l) : ∃ rows, RowsAre n n (way p n) rows ∧ Ev (fun k => bitset_Closure.f k (n : Int) l) ((n : Int), rows, 0) := by
  obtain ⟨hT, hg⟩ := hR.tab hn hn
  have hl : l.length ≤ 9223372036854775807 := by rw [hR.1]; omega
  obtain ⟨K, hM⟩ := MayTable_eq (n : Int) l hl hg
  obtain ⟨L, hE⟩ := MakeTable_rows hn hn hR
  refine ⟨clO n n 0 l, RowsAre.clO n 0 hR (by omega), K + L, fun k hk => ?_⟩
  have h1 := hM k (by omega)
  have h2 := hE k (by omega)
  dsimp only at h1 h2
  show bitset_Closure.f k (n : Int) l = _
  unfold bitset_Closure.f
  rw [if_pos ⟨hg, hl⟩, h1, tabp_true.2 hT, Option.bind_some, if_pos rfl, if_pos (by rw [hR.1]), h2, Option.bind_some, hR.1]
theorem Closure_far {n : Int} {l : List S24} (hT : TabP n l) (hg : Goods l) (hl : l.length ≤ 9223372036854775807) (hn : n ≠ (l.length : Int)) : Ev (fun k => bitset_Closure.f k n l) (0, [], 60) := by
  obtain ⟨K, hM⟩ := MayTable_eq n l hl hg
  refine ⟨K, fun k hk => ?_⟩
  have := hM k hk
  dsimp only at this
  show bitset_Closure.f k n l = _
  unfold bitset_Closure.f
  rw [if_pos ⟨hg, hl⟩, this, tabp_true.2 hT, Option.bind_some, if_pos rfl, if_neg hn]
theorem Closure_none {n : Int} {l : List S24} (hg : Goods l) (hl : l.length ≤ 9223372036854775807) (h : ¬ TabP n l) : Ev (fun k => bitset_Closure.f k n l) (0, [], 61) := by
  obtain ⟨K, hM⟩ := MayTable_eq n l hl hg
  refine ⟨K, fun k hk => ?_⟩
  have := hM k hk
  dsimp only at this
  show bitset_Closure.f k n l = _
  unfold bitset_Closure.f
  rw [if_pos ⟨hg, hl⟩, this, tabp_false.2 h]
  rfl
end Go.Proofs.YtjmkhdhffmlhiaaDoor.PAll
end
section
namespace Go.Proofs.YtjmkhdhffmlhiaaDoor.PAll
open Go.RowKit Go.Proofs.YtjmkhdhffmlhiaaDoorW.PrintWords Go.Proofs.YtjmkhdhffmlhiaaDoorW.PrintLast Go.Proofs.YtjmkhdhffmlhiaaDoorW.PrintMore
attribute [local go_sem] max2_int min2_int max_two min_two max_three min_three max_four min_four w64_u8 w64_mod256   -- for this text's walks alone
set_option linter.unusedVariables false
set_option linter.unusedSimpArgs false
end Go.Proofs.YtjmkhdhffmlhiaaDoor.PAll
end
section
namespace Go.Proofs.YtjmkhdhffmlhiaaDoor.PAll
open Go.RowKit Go.Proofs.YtjmkhdhffmlhiaaDoorW.PrintWords Go.Proofs.YtjmkhdhffmlhiaaDoorW.PrintLast Go.Proofs.YtjmkhdhffmlhiaaDoorW.PrintMore
attribute [local go_sem] max2_int min2_int max_two min_two max_three min_three max_four min_four w64_u8 w64_mod256   -- for this text's walks alone
set_option linter.unusedVariables false
set_option linter.unusedSimpArgs false
end Go.Proofs.YtjmkhdhffmlhiaaDoor.PAll
end
section
namespace Go.Proofs.YtjmkhdhffmlhiaaDoor.PAll
open Go.RowKit Go.Proofs.YtjmkhdhffmlhiaaDoorW.PrintWords Go.Proofs.YtjmkhdhffmlhiaaDoorW.PrintLast Go.Proofs.YtjmkhdhffmlhiaaDoorW.PrintMore
attribute [local go_sem] max2_int min2_int max_two min_two max_three min_three max_four min_four w64_u8 w64_mod256   -- for this text's walks alone
set_option linter.unusedVariables false
set_option linter.unusedSimpArgs false
def bitset_Range.l0 : Nat → Int → Int → Int → Int → Int → List Int → Option (Int × List Int × Int)
  | 0, _, _, _, _, _, _ => none
  | k + 1, x1, x2, x26, x27, x108000, x108001 => if x27 < x26 then (if (mx (wrap64 (x1 - (wrap64 (x27 * 64)))) 0) < (mn (wrap64 (x2 - (wrap64 (x27 * 64)))) 64) then (if 0 ≤ (wrap64 (64 - (wrap64 ((mn (wrap64 (x2 - (wrap64 (x27 * 64)))) 64) - (mx (wrap64 (x1 - (wrap64 (x27 * 64)))) 0))))) then (if 0 ≤ x27 then (if x27 < (x108001.length : Int) then (bitset_Range.l0 k x1 x2 x26 (wrap64 (x27 + 1)) x108000 (x108001.set (x27 : Int).toNat (shl .u64 (shr .u64 18446744073709551615 (wrap64 (64 - (wrap64 ((mn (wrap64 (x2 - (wrap64 (x27 * 64)))) 64) - (mx (wrap64 (x1 - (wrap64 (x27 * 64)))) 0)))))) (mx (wrap64 (x1 - (wrap64 (x27 * 64)))) 0)))) else (none)) else (none)) else (none)) else (bitset_Range.l0 k x1 x2 x26 (wrap64 (x27 + 1)) x108000 x108001)) else (some (x108000, x108001, 0))
def bitset_Range.f (k : Nat) (a0 : Int) (a1 : Int) (a2 : Int) : Option (Int × List Int × Int) := (bitset_sized.f a0).bind fun t102 => (if t102 = true then ((bitset_blank.f a0).bind fun bt103 => (bitset_Range.l0 k (mx a1 0) (mx (mn a2 a0) 0) (bt103.2.length : Int) 0 bt103.1 bt103.2)) else (some (0, ([] : List Int), 60)))
end Go.Proofs.YtjmkhdhffmlhiaaDoor.PAll
end
section
namespace Go.Proofs.YtjmkhdhffmlhiaaDoor.PAll
open Go.RowKit Go.Proofs.YtjmkhdhffmlhiaaDoorW.PrintWords Go.Proofs.YtjmkhdhffmlhiaaDoorW.PrintLast Go.Proofs.YtjmkhdhffmlhiaaDoorW.PrintMore
attribute [local go_sem] max2_int min2_int max_two min_two max_three min_three max_four min_four w64_u8 w64_mod256   -- for this text's walks alone
set_option linter.unusedVariables false
set_option linter.unusedSimpArgs false
end Go.Proofs.YtjmkhdhffmlhiaaDoor.PAll
end
section
namespace Go.Proofs.YtjmkhdhffmlhiaaDoor.PAll
open Go.RowKit Go.Proofs.YtjmkhdhffmlhiaaDoorW.PrintWords Go.Proofs.YtjmkhdhffmlhiaaDoorW.PrintLast Go.Proofs.YtjmkhdhffmlhiaaDoorW.PrintMore
attribute [local go_sem] max2_int min2_int max_two min_two max_three min_three max_four min_four w64_u8 w64_mod256   -- for this text's walks alone
set_option linter.unusedVariables false
set_option linter.unusedSimpArgs false
def bitset_two_andNot.j0 : Nat → Unit → Bool → Int → List Int → Int → List Int → Option (Int × List Int × Int)
  | 0, _, _, _, _, _, _ => none
  | k + 1, x2, x15, x102000, x102001, x103000, x103001 => if x15 = true then (some (0, ([] : List Int), 61)) else (if x102000 = x103000 then ((bitset_own.f x102000 x102001).bind fun t106 => ((bitset_fold_andNot.f x102000 t106 (([(⟨x103000, x103001⟩ : S24)] : List (S24))) x2).bind fun bt112 => (some (bt112.1, bt112.2, 0)))) else (some (0, ([] : List Int), 60)))
def bitset_two_andNot.f (k : Nat) (a0_0 : Int) (l0_1 : List Int) (a1_0 : Int) (l1_1 : List Int) (a2 : Unit) : Option (Int × List Int × Int) := (bitset_May.f a0_0 l0_1).bind fun t104 => (if t104 = true then ((bitset_May.f a1_0 l1_1).bind fun t105 => (bitset_two_andNot.j0 k a2 (!t105) a0_0 l0_1 a1_0 l1_1)) else (bitset_two_andNot.j0 k a2 true a0_0 l0_1 a1_0 l1_1))
end Go.Proofs.YtjmkhdhffmlhiaaDoor.PAll
end
section
namespace Go.Proofs.YtjmkhdhffmlhiaaDoor.PAll
open Go.RowKit Go.Proofs.YtjmkhdhffmlhiaaDoorW.PrintWords Go.Proofs.YtjmkhdhffmlhiaaDoorW.PrintLast Go.Proofs.YtjmkhdhffmlhiaaDoorW.PrintMore
attribute [local go_sem] max2_int min2_int max_two min_two max_three min_three max_four min_four w64_u8 w64_mod256   -- for this text's walks alone
set_option linter.unusedVariables false
set_option linter.unusedSimpArgs false
end Go.Proofs.YtjmkhdhffmlhiaaDoor.PAll
end
section
namespace Go.Proofs.YtjmkhdhffmlhiaaDoor.PAll
open Go.RowKit Go.Proofs.YtjmkhdhffmlhiaaDoorW.PrintWords Go.Proofs.YtjmkhdhffmlhiaaDoorW.PrintLast Go.Proofs.YtjmkhdhffmlhiaaDoorW.PrintMore
attribute [local go_sem] max2_int min2_int max_two min_two max_three min_three max_four min_four w64_u8 w64_mod256   -- for this text's walks alone
set_option linter.unusedVariables false
set_option linter.unusedSimpArgs false
def bitset_none_andNot.f (k : Nat) (a0_0 : Int) (l0_1 : List Int) (a1_0 : Int) (l1_1 : List Int) (a2 : Unit) : Option (Bool) := (bitset_two_andNot.f k a0_0 l0_1 a1_0 l1_1 a2).bind fun bt103 => (if bt103.2.2 = 0 then ((bitset_Count.f k bt103.1 bt103.2.1).bind fun t109 => (some (t109 == 0))) else (some false))
end Go.Proofs.YtjmkhdhffmlhiaaDoor.PAll
end
section
namespace Go.Proofs.YtjmkhdhffmlhiaaDoor.PAll
open Go.RowKit Go.Proofs.YtjmkhdhffmlhiaaDoorW.PrintWords Go.Proofs.YtjmkhdhffmlhiaaDoorW.PrintLast Go.Proofs.YtjmkhdhffmlhiaaDoorW.PrintMore
attribute [local go_sem] max2_int min2_int max_two min_two max_three min_three max_four min_four w64_u8 w64_mod256   -- for this text's walks alone
set_option linter.unusedVariables false
set_option linter.unusedSimpArgs false
def bitset_Subset.f (k : Nat) (a0_0 : Int) (l0_1 : List Int) (a1_0 : Int) (l1_1 : List Int) : Option (Bool) := (bitset_none_andNot.f k a0_0 l0_1 a1_0 l1_1 ()).bind fun t103 => (some t103)
end Go.Proofs.YtjmkhdhffmlhiaaDoor.PAll
end
section
namespace Go.Proofs.YtjmkhdhffmlhiaaDoor.PAll
open Go.RowKit Go.Proofs.YtjmkhdhffmlhiaaDoorW.PrintWords Go.Proofs.YtjmkhdhffmlhiaaDoorW.PrintLast Go.Proofs.YtjmkhdhffmlhiaaDoorW.PrintMore
attribute [local go_sem] max2_int min2_int max_two min_two max_three min_three max_four min_four w64_u8 w64_mod256   -- for this text's walks alone
set_option linter.unusedVariables false
set_option linter.unusedSimpArgs false
def bitset_Union.f (k : Nat) (a0 : Int) (l1 : List (S24)) : Option (Int × List Int × Int) := (bitset_fit.f k a0 l1).bind fun t102 => (if t102 = 0 then ((bitset_blank.f a0).bind fun bt103 => ((bitset_fold_or.f bt103.1 bt103.2 l1 ()).bind fun bt107 => (some (bt107.1, bt107.2, 0)))) else (some (0, ([] : List Int), t102)))
end Go.Proofs.YtjmkhdhffmlhiaaDoor.PAll
end
section
namespace Go.Proofs.YtjmkhdhffmlhiaaDoor.PAll
open Go.RowKit Go.Proofs.YtjmkhdhffmlhiaaDoorW.PrintWords Go.Proofs.YtjmkhdhffmlhiaaDoorW.PrintLast Go.Proofs.YtjmkhdhffmlhiaaDoorW.PrintMore
attribute [local go_sem] max2_int min2_int max_two min_two max_three min_three max_four min_four w64_u8 w64_mod256   -- for this text's walks alone
set_option linter.unusedVariables false
set_option linter.unusedSimpArgs false
end Go.Proofs.YtjmkhdhffmlhiaaDoor.PAll
end
section
namespace Go.Proofs.YtjmkhdhffmlhiaaDoor.PAll
open Go.RowKit Go.Proofs.YtjmkhdhffmlhiaaDoorW.PrintWords Go.Proofs.YtjmkhdhffmlhiaaDoorW.PrintLast Go.Proofs.YtjmkhdhffmlhiaaDoorW.PrintMore
attribute [local go_sem] max2_int min2_int max_two min_two max_three min_three max_four min_four w64_u8 w64_mod256   -- for this text's walks alone
set_option linter.unusedVariables false
set_option linter.unusedSimpArgs false
end Go.Proofs.YtjmkhdhffmlhiaaDoor.PAll
end
section
namespace Go.Proofs.YtjmkhdhffmlhiaaDoor.PAll
open Go.RowKit Go.Proofs.YtjmkhdhffmlhiaaDoorW.PrintWords Go.Proofs.YtjmkhdhffmlhiaaDoorW.PrintLast Go.Proofs.YtjmkhdhffmlhiaaDoorW.PrintMore
attribute [local go_sem] max2_int min2_int max_two min_two max_three min_three max_four min_four w64_u8 w64_mod256   -- for this text's walks alone
set_option linter.unusedVariables false
set_option linter.unusedSimpArgs false
end Go.Proofs.YtjmkhdhffmlhiaaDoor.PAll
end
section
namespace Go.Proofs.YtjmkhdhffmlhiaaDoor.PAll
set_option linter.unusedVariables false
open Go.RowKit Go.Proofs.YtjmkhdhffmlhiaaDoorW.PrintWords Go.Proofs.YtjmkhdhffmlhiaaDoorW.PrintMore
def RangeSays (size lo hi : Int) (r : Int × List Int × Int) : Prop :=
  ((size < 0 ∨ 4096 < size) ∧ r = (0, [], 60)) ∨ (0 ≤ size ∧ size ≤ 4096 ∧ ∃ ws, Is size.toNat (fun e => decide (lo ≤ (e : Int)) && decide ((e : Int) < hi)) ws ∧ r = (size, ws, 0))
theorem RangeSays.eq {size lo hi : Int} {r q : Int × List Int × Int} (h : RangeSays size lo hi r) (k : RangeSays size lo hi q) : r = q := by
  rcases h with ⟨h1, rfl⟩ | ⟨h1, h2, ws, h4, rfl⟩ <;> rcases k with ⟨k1, rfl⟩ | ⟨k1, k2, vs, k4, rfl⟩
  · rfl
  · omega
  · omega
  · rw [h4.eq k4 (fun _ _ => rfl)]
def manyb (all : Bool) (l : List S24) (d : Nat) : Bool := if all then l.all (fun x => hb x.f1 d) else l.any (fun x => hb x.f1 d)
def ManySays (n : Int) (l : List S24) (all : Bool) (r : Int × List Int × Int) : Prop :=
  (∃ e, e ≠ 0 ∧ FitSays n l e ∧ r = (0, [], e)) ∨ (FitSays n l 0 ∧ ∃ ws, Is n.toNat (manyb all l) ws ∧ r = (n, ws, 0))
theorem ManySays.eq {n : Int} {l : List S24} {all : Bool} {r q : Int × List Int × Int} (h : ManySays n l all r) (k : ManySays n l all q) : r = q := by
  rcases h with ⟨e, h1, h2, rfl⟩ | ⟨h1, ws, h2, rfl⟩ <;> rcases k with ⟨e2, k1, k2, rfl⟩ | ⟨k1, vs, k2, rfl⟩
  · rw [h2.eq k2]
  · exact absurd (h2.eq k1) h1
  · exact absurd (k2.eq h1) k1
  · rw [h2.eq k2 (fun _ _ => rfl)]
theorem ManySays.bound {n : Int} {l : List S24} {all : Bool} {s : Int} {vs : List Int} {c : Int} (h : ManySays n l all (s, vs, c)) : vs.length ≤ 9223372036854775807 := by
  rcases h with ⟨e, h1, h2, h3⟩ | ⟨h1, ws, h2, h3⟩
  · cases h3; simp
  · cases h3
    rcases h1 with ⟨h1, _⟩ | ⟨h1, _⟩ | ⟨_, _, _, h3, h4⟩
    · omega
    · omega
    · rw [h2.len]; omega
end Go.Proofs.YtjmkhdhffmlhiaaDoor.PAll
end
section
namespace Go.Proofs.YtjmkhdhffmlhiaaDoor.PAll
open Go.RowKit Go.Proofs.YtjmkhdhffmlhiaaDoorW.PrintWords Go.Proofs.YtjmkhdhffmlhiaaDoorW.PrintLast Go.Proofs.YtjmkhdhffmlhiaaDoorW.PrintMore
attribute [local go_sem] max2_int min2_int max_two min_two max_three min_three max_four min_four w64_u8 w64_mod256   -- for this text's walks alone
set_option linter.unusedVariables false
set_option linter.unusedSimpArgs false
mutual
def slopelaw3_chain.j0 : Nat → Int → Int → Bool → Option (Bool)
  | 0, _, _, _ => none
  | k + 1, x0, x1, x27 => if x27 = true then (some true) else (slopelaw3_chain.l0 k x0 x1 ([] : List (S24)) 0)
def slopelaw3_chain.l0 : Nat → Int → Int → List (S24) → Int → Option (Bool)
  | 0, _, _, _, _ => none
  | k + 1, x0, x1, x5, x6 => if x6 < x0 then ((bitset_Range.f k x0 (wrap64 (x6 + 1)) (wrap64 (x6 + 2))).bind fun bt101 => ((slopelaw3_num.f bt101.2.2).bind fun t107 => (if t107 = 0 then (if x5.length < 4398046511104 then (slopelaw3_chain.l0 k x0 x1 (x5 ++ [(⟨bt101.1, bt101.2.1⟩ : S24)]) (wrap64 (x6 + 1))) else (none)) else (some false)))) else ((bitset_Closure.f k x0 x5).bind fun bt111 => ((slopelaw3_num.f bt111.2.2).bind fun t117 => (if t117 = 0 then (slopelaw3_chain.j2 k x0 x1 ((bt111.2.1.length : Int) != x0) bt111.1 bt111.2.1) else (slopelaw3_chain.j2 k x0 x1 true bt111.1 bt111.2.1))))
def slopelaw3_chain.j2 : Nat → Int → Int → Bool → Int → List (S24) → Option (Bool)
  | 0, _, _, _, _, _ => none
  | k + 1, x0, x1, x65, x117000, x117001 => if x65 = true then (some false) else ((bitset_Range.f k x0 (wrap64 (x1 + 1)) x0).bind fun bt118 => ((slopelaw3_num.f bt118.2.2).bind fun t124 => (if t124 = 0 then (if 0 ≤ x1 then (if x1 < (x117001.length : Int) then ((slopelaw3_same.f k ((rd_T24 x117001 x1).f0) ((rd_T24 x117001 x1).f1) bt118.1 bt118.2.1).bind fun t126 => (some t126)) else (none)) else (none)) else (some false))))
end
def slopelaw3_chain.f (k : Nat) (a0 : Int) (a1 : Int) : Option (Bool) := if a0 < 1 then (slopelaw3_chain.j0 k a0 a1 true) else (if a0 > 4096 then (slopelaw3_chain.j0 k a0 a1 true) else (if a1 < 0 then (slopelaw3_chain.j0 k a0 a1 true) else (slopelaw3_chain.j0 k a0 a1 (decide (a1 ≥ a0)))))
end Go.Proofs.YtjmkhdhffmlhiaaDoor.PAll
end
section
namespace Go.Proofs.YtjmkhdhffmlhiaaDoor.PAll
open Go.RowKit Go.Proofs.YtjmkhdhffmlhiaaDoorW.PrintWords Go.Proofs.YtjmkhdhffmlhiaaDoorW.PrintLast Go.Proofs.YtjmkhdhffmlhiaaDoorW.PrintMore
attribute [local go_sem] max2_int min2_int max_two min_two max_three min_three max_four min_four w64_u8 w64_mod256   -- for this text's walks alone
set_option linter.unusedVariables false
set_option linter.unusedSimpArgs false
mutual
def slopelaw3_sameTable.j0 : Nat → Bool → Int → List (S24) → Int → List (S24) → Option (Bool)
  | 0, _, _, _, _, _ => none
  | k + 1, x19, x102000, x102001, x103000, x103001 => if x19 = true then (some false) else (slopelaw3_sameTable.l0 k 0 x102000 x102001 x103000 x103001)
def slopelaw3_sameTable.l0 : Nat → Int → Int → List (S24) → Int → List (S24) → Option (Bool)
  | 0, _, _, _, _, _ => none
  | k + 1, x5, x102000, x102001, x103000, x103001 => if x5 < (x102001.length : Int) then (if 0 ≤ x5 then (if x5 < (x103001.length : Int) then ((slopelaw3_same.f k ((rd_T24 x102001 x5).f0) ((rd_T24 x102001 x5).f1) ((rd_T24 x103001 x5).f0) ((rd_T24 x103001 x5).f1)).bind fun t105 => (if t105 = true then (slopelaw3_sameTable.l0 k (wrap64 (x5 + 1)) x102000 x102001 x103000 x103001) else (some false))) else (none)) else (none)) else (some true)
end
def slopelaw3_sameTable.f (k : Nat) (a0_0 : Int) (l0_1 : List (S24)) (a1_0 : Int) (l1_1 : List (S24)) : Option (Bool) := if a0_0 = a1_0 then (slopelaw3_sameTable.j0 k ((l0_1.length : Int) != (l1_1.length : Int)) a0_0 l0_1 a1_0 l1_1) else (slopelaw3_sameTable.j0 k true a0_0 l0_1 a1_0 l1_1)
def slopelaw3_sameTable.T6 : Bool × List (List Nat × List Nat) := (true, [([], []), ([0], [0]), ([], []), ([1, 2], [1, 2]), ([3], [3]), ([], []), ([5], [5]), ([], []), ([6, 7], [6, 7]), ([8], [8]), ([4, 9], [4, 9]), ([10], [10])])
def slopelaw3_sameTable.B6 : List Nat := [0, 1, 0, 7, 15, 0, 32, 0, 224, 480, 1023, 2047]
theorem slopelaw3_sameTable.tab6 : rtab .any (opsOf Tryd.f44 6) = slopelaw3_sameTable.T6 := by kernel_rfl
theorem slopelaw3_sameTable.bits6 : waitsOk slopelaw3_sameTable.T6.2 slopelaw3_sameTable.B6 = true := by kernel_rfl
set_option maxHeartbeats 8000000 in
set_option maxRecDepth 100000 in
theorem slopelaw3_sameTable.calls (k : Nat) (a0_0 : Int) (A0_1 : Option Addr) (c0_1 : Nat) (l0_1 : List (S24)) (a1_0 : Int) (A1_1 : Option Addr) (c1_1 : Nat) (l1_1 : List (S24)) (r : Bool) (w : World) (hr0_1 : Kd.C k24 w A0_1 l0_1.length l0_1) (hc0_1 : l0_1.length ≤ c0_1) (hr1_1 : Kd.C k24 w A1_1 l1_1.length l1_1) (hc1_1 : l1_1.length ≤ c1_1) (h : slopelaw3_sameTable.f k a0_0 l0_1 a1_0 l1_1 = some r) :
    Calls Tryd.prog 44 #[.agg #[.int .i64 a0_0, .slice A0_1 l0_1.length c0_1], .agg #[.int .i64 a1_0, .slice A1_1 l1_1.length c1_1]] w fun e w' => e = .returned (.bool r) ∧ Below w.heap.size w w' := by
  have hu56 := Tryd.underlying56
  have hu24 := Tryd.underlying24
  have HR0_1 := Aside0.mk hr0_1
  have HC0_1 := Aside0.mk hc0_1
  clear hr0_1 hc0_1
  have HR1_1 := Aside0.mk hr1_1
  have HC1_1 := Aside0.mk hc1_1
  clear hr1_1 hc1_1
  have HB := Aside0.mk (Below.refl w.heap.size w)
  have H : (if a0_0 = a1_0 then (slopelaw3_sameTable.j0 k ((l0_1.length : Int) != (l1_1.length : Int)) a0_0 l0_1 a1_0 l1_1) else (slopelaw3_sameTable.j0 k true a0_0 l0_1 a1_0 l1_1)) = some r := h
  clear h
  have HC3 := Aside0.mk H
  clear H
  go_enter Tryd.func44, Tryd.ntmps44
  go_upto_region 1 with (first | ((with_reducible refine gate_dst (N := 2) rfl ?_); (try (refine gate_guard (by rfl) ?_; dsimp only)); refine box_event ?hg (N := 2) ?hd (cs := #[.int .i64 a0_0, .slice A0_1 l0_1.length c0_1]) (t := 56) ?hr ?_; (case hd => rfl); (case hg => rfl); (case hr => first | (go_simp; done) | (go_simp; rfl)); intro gb101 hg w4 hbox hb; have n0_ := Aside0.mk (below_step (by repeat (first | (with_reducible first | exact HB.out | apply below_alloc | apply pw_below_drewN | apply below_drew1) | exact HB.out)) hb); have n1_ := Aside0.mk (hbox); have n2_ := Aside0.mk ((by rw [hg]; exact (below_size (by repeat (first | (with_reducible first | exact HB.out | apply below_alloc | apply pw_below_drewN | apply below_drew1) | exact HB.out))) : w.heap.size ≤ gb101)); have n3_ := Aside0.mk ((by rw [hg]; exact (below_size (by repeat (first | (with_reducible first | exact HB.out | apply below_alloc | apply pw_below_drewN | apply below_drew1) | exact HB.out))) : w.heap.size ≤ gb101)); clear HB; have HB := n0_; have BK101 := n1_; have GW101 := n2_; have GE101 := n3_; clear n0_ n1_ n2_ n3_; clear hb hbox hg) | ((with_reducible refine gate_dst (N := 3) rfl ?_); (try (refine gate_guard (by rfl) ?_; dsimp only)); refine box_event ?hg (N := 3) ?hd (cs := #[.int .i64 a1_0, .slice A1_1 l1_1.length c1_1]) (t := 56) ?hr ?_; (case hd => rfl); (case hg => rfl); (case hr => first | (go_simp; done) | (go_simp; rfl)); intro gb102 hg w5 hbox hb; have n0_ := Aside0.mk (blk_below (g := gb101) (o := .cells #[.int .i64 a0_0, .slice A0_1 l0_1.length c0_1] 56 (0, 0)) (by (with_reducible repeat (first | refine blk_drewN ?_ _ | refine blk_drew ?_ | refine blk_alloc ?_ _)); exact BK101.out) hb); have n1_ := Aside0.mk (below_step (by repeat (first | (with_reducible first | exact HB.out | apply below_alloc | apply pw_below_drewN | apply below_drew1 | refine below_set ?_ GE101.out) | exact HB.out)) hb); have n2_ := Aside0.mk (hbox); have n3_ := Aside0.mk ((by rw [hg]; exact (below_size (by repeat (first | (with_reducible first | exact HB.out | apply below_alloc | apply pw_below_drewN | apply below_drew1 | refine below_set ?_ GE101.out) | exact HB.out))) : w.heap.size ≤ gb102)); have n4_ := Aside0.mk ((by rw [hg]; exact (below_size (by repeat (first | (with_reducible first | exact HB.out | apply below_alloc | apply pw_below_drewN | apply below_drew1 | refine below_set ?_ GE101.out) | exact HB.out))) : w.heap.size ≤ gb102)); have n5_ := Aside0.mk ((by rw [hg]; exact Nat.ne_of_lt (blk_lt (g := gb101) (o := .cells #[.int .i64 a0_0, .slice A0_1 l0_1.length c0_1] 56 (0, 0)) (by (with_reducible repeat (first | refine blk_drewN ?_ _ | refine blk_drew ?_ | refine blk_alloc ?_ _)); exact BK101.out)) : gb101 ≠ gb102)); have n6_ := Aside0.mk ((by rw [hg]; exact Nat.ne_of_gt (blk_lt (g := gb101) (o := .cells #[.int .i64 a0_0, .slice A0_1 l0_1.length c0_1] 56 (0, 0)) (by (with_reducible repeat (first | refine blk_drewN ?_ _ | refine blk_drew ?_ | refine blk_alloc ?_ _)); exact BK101.out)) : gb102 ≠ gb101)); clear BK101; clear HB; have BK101 := n0_; have HB := n1_; have BK102 := n2_; have GW102 := n3_; have GE102 := n4_; have NB101_102 := n5_; have NB102_101 := n6_; clear n0_ n1_ n2_ n3_ n4_ n5_ n6_; clear hb hbox hg))
  (try simp only [Act.put, List.setIfInBounds_toArray, List.set_cons_zero, List.set_cons_succ])
  go_cut [19] (fun v19 wc => ∃ (kq : Nat) (x19_2 : Bool), v19 = .bool x19_2 ∧ Aside0 (slopelaw3_sameTable.j0 kq x19_2 a0_0 l0_1 a1_0 l1_1 = some r) ∧ Aside0 (kq ≤ k) ∧ Aside0 (wc.heap[gb101]? = some (.cells #[.int .i64 a0_0, (.slice A0_1 l0_1.length c0_1)] 56 (0, 0))) ∧ Aside0 (wc.heap[gb102]? = some (.cells #[.int .i64 a1_0, (.slice A1_1 l1_1.length c1_1)] 56 (0, 0))) ∧ Aside0 (Below w.heap.size w wc))
  case first =>
    have H := HC3.out
    clear HC3
    by_cases c6 : a0_0 = a1_0
    · rw [if_pos c6] at H
      have c6b0 : (a0_0 == a1_0) = true := beq_iff_eq.mpr c6
      have c6b1 : (a0_0 != a1_0) = false := bne_eq_false_iff_eq.mpr c6
      clear c6
      (first | rw [c6b0] | (simp only [i64_w, i32_w]; rw [c6b0]) | skip)
      have H' := Aside0.mk H
      clear H
      have hnb7 := NB101_102.out
      have hnc7 := NB102_101.out
      have hcz8_0 : w5.cell? ⟨gb101, 0, none⟩ = some (.int .i64 a0_0) := (blk_cell BK101.out 0).trans rfl
      have hcz8_1 : w5.cell? ⟨gb101, 1, none⟩ = some (.slice A0_1 l0_1.length c0_1) := (blk_cell BK101.out 1).trans rfl
      have hfz8_0 := blk_frozen BK101.out 0
      have hfz8_1 := blk_frozen BK101.out 1
      have hcz9_0 : w5.cell? ⟨gb102, 0, none⟩ = some (.int .i64 a1_0) := (blk_cell BK102.out 0).trans rfl
      have hcz9_1 : w5.cell? ⟨gb102, 1, none⟩ = some (.slice A1_1 l1_1.length c1_1) := (blk_cell BK102.out 1).trans rfl
      have hfz9_0 := blk_frozen BK102.out 0
      have hfz9_1 := blk_frozen BK102.out 1
      go_wp2
      go_meet
      case rel => exact ⟨_, (((l0_1.length : Int) != (l1_1.length : Int))), (by first | rfl | (simp; done) | (simp [*]; done)), H', ⟨by first | omega | exact Nat.le_refl _⟩, ⟨by (with_reducible repeat (first | refine blk_drewN ?_ _ | refine blk_drew ?_ | refine blk_alloc ?_ _)); exact BK101.out⟩, ⟨by (with_reducible repeat (first | refine blk_drewN ?_ _ | refine blk_drew ?_ | refine blk_alloc ?_ _)); exact BK102.out⟩, ⟨by repeat (first | (with_reducible first | exact HB.out | apply below_alloc | apply pw_below_drewN | apply below_drew1 | refine below_set ?_ GE101.out | refine below_set ?_ GE102.out) | exact HB.out)⟩⟩
    · rw [if_neg c6] at H
      have c6b0 : (a0_0 == a1_0) = false := beq_eq_false_iff_ne.mpr c6
      have c6b1 : (a0_0 != a1_0) = true := bne_iff_ne.mpr c6
      (first | rw [c6b0] | (simp only [i64_w, i32_w]; rw [c6b0]) | skip)
      have H' := Aside0.mk H
      clear H
      have hnb10 := NB101_102.out
      have hnc10 := NB102_101.out
      have hcz11_0 : w5.cell? ⟨gb101, 0, none⟩ = some (.int .i64 a0_0) := (blk_cell BK101.out 0).trans rfl
      have hcz11_1 : w5.cell? ⟨gb101, 1, none⟩ = some (.slice A0_1 l0_1.length c0_1) := (blk_cell BK101.out 1).trans rfl
      have hfz11_0 := blk_frozen BK101.out 0
      have hfz11_1 := blk_frozen BK101.out 1
      have hcz12_0 : w5.cell? ⟨gb102, 0, none⟩ = some (.int .i64 a1_0) := (blk_cell BK102.out 0).trans rfl
      have hcz12_1 : w5.cell? ⟨gb102, 1, none⟩ = some (.slice A1_1 l1_1.length c1_1) := (blk_cell BK102.out 1).trans rfl
      have hfz12_0 := blk_frozen BK102.out 0
      have hfz12_1 := blk_frozen BK102.out 1
      go_wp2
      go_meet
      case rel => exact ⟨_, (true), (by first | rfl | (simp; done) | (simp [*]; done)), H', ⟨by first | omega | exact Nat.le_refl _⟩, ⟨by (with_reducible repeat (first | refine blk_drewN ?_ _ | refine blk_drew ?_ | refine blk_alloc ?_ _)); exact BK101.out⟩, ⟨by (with_reducible repeat (first | refine blk_drewN ?_ _ | refine blk_drew ?_ | refine blk_alloc ?_ _)); exact BK102.out⟩, ⟨by repeat (first | (with_reducible first | exact HB.out | apply below_alloc | apply pw_below_drewN | apply below_drew1 | refine below_set ?_ GE101.out | refine below_set ?_ GE102.out) | exact HB.out)⟩⟩
  case rest =>
    clear HC3
    try clear c1
    try clear p2
    try clear c4
    try clear c6
    try clear c6b0
    try clear c6b1
    try clear c7
    try clear c10
    try clear hcz11_0
    try clear hcz11_1
    try clear hcz12_0
    try clear hcz12_1
    try clear hcz8_0
    try clear hcz8_1
    try clear hcz9_0
    try clear hcz9_1
    try clear hfz11_0
    try clear hfz11_1
    try clear hfz12_0
    try clear hfz12_1
    try clear hfz8_0
    try clear hfz8_1
    try clear hfz9_0
    try clear hfz9_1
    obtain ⟨kq, x19_2, rfl, HA, HJ2, BK101, BK102, HB⟩ := hcut
    cases kq with
    | zero => exact absurd HA.out (by simp [slopelaw3_sameTable.j0])
    | succ kj2 =>
      have H := HA.out
      clear HA
      simp only [slopelaw3_sameTable.j0] at H
      by_cases c13 : x19_2 = true
      · subst c13
        have H1 : (some false) = some r := by rw [if_pos rfl] at H; exact H
        clear H
        have H := H1
        clear H1
        obtain rfl := Option.some.inj H
        go_wp2
        go_ret
        exact ⟨by first | rfl | (simp [errW_none, errW_some] <;> rfl) | (simp [*, errW_none, errW_some] <;> rfl), by repeat (first | (with_reducible first | exact HB.out | apply below_alloc | apply pw_below_drewN | apply below_drew1 | refine below_set ?_ GE101.out | refine below_set ?_ GE102.out) | exact HB.out)⟩
      · replace c13 := Bool.eq_false_iff.mpr c13
        subst c13
        have H1 : (slopelaw3_sameTable.l0 kj2 0 a0_0 l0_1 a1_0 l1_1) = some r := by rw [if_neg (show ¬ (false = true) by decide)] at H; exact H
        clear H
        have H := H1
        clear H1
        have H' := Aside0.mk H
        clear H
        go_wp2
        go_loopg [5] kj2 (fun kq v5 w' => ∃ (x5_2 : Int), v5 = .int .i64 x5_2 ∧ Aside0 (slopelaw3_sameTable.l0 kq x5_2 a0_0 l0_1 a1_0 l1_1 = some r) ∧ Aside0 (kq ≤ kj2) ∧ Aside0 (w'.heap[gb101]? = some (.cells #[.int .i64 a0_0, (.slice A0_1 l0_1.length c0_1)] 56 (0, 0))) ∧ Aside0 (w'.heap[gb102]? = some (.cells #[.int .i64 a1_0, (.slice A1_1 l1_1.length c1_1)] 56 (0, 0))) ∧ Aside0 (Below w.heap.size w w'))
        case atStart => exact ⟨(0), (by first | rfl | (simp; done) | (simp [*]; done)), H', ⟨Nat.le_refl _⟩, ⟨by (with_reducible repeat (first | refine blk_drewN ?_ _ | refine blk_drew ?_ | refine blk_alloc ?_ _)); exact BK101.out⟩, ⟨by (with_reducible repeat (first | refine blk_drewN ?_ _ | refine blk_drew ?_ | refine blk_alloc ?_ _)); exact BK102.out⟩, ⟨by repeat (first | (with_reducible first | exact HB.out | apply below_alloc | apply pw_below_drewN | apply below_drew1 | refine below_set ?_ GE101.out | refine below_set ?_ GE102.out) | exact HB.out)⟩⟩
        case round =>
          clear H'
          try clear c1
          try clear p2
          try clear c4
          try clear c6
          try clear c6b0
          try clear c6b1
          try clear c7
          try clear c10
          try clear c13
          try clear hcz11_0
          try clear hcz11_1
          try clear hcz12_0
          try clear hcz12_1
          try clear hcz8_0
          try clear hcz8_1
          try clear hcz9_0
          try clear hcz9_1
          try clear hfz11_0
          try clear hfz11_1
          try clear hfz12_0
          try clear hfz12_1
          try clear hfz8_0
          try clear hfz8_1
          try clear hfz9_0
          try clear hfz9_1
          try clear p2
          obtain ⟨x5_2, rfl, HA, HK2, BK101, BK102, HB⟩ := hrel
          cases gk with
          | zero => exact absurd HA.out (by simp [slopelaw3_sameTable.l0])
          | succ k2 =>
            have H := HA.out
            clear HA
            simp only [slopelaw3_sameTable.l0] at H
            by_cases c14 : x5_2 < (l0_1.length : Int)
            · rw [if_pos c14] at H
              have c14b0 : decide (x5_2 < (l0_1.length : Int)) = true := decide_eq_true c14
              clear c14
              by_cases c15 : 0 ≤ x5_2
              · rw [if_pos c15] at H
                have c15b0 : decide (0 ≤ x5_2) = true := decide_eq_true c15
                clear c15
                by_cases c16 : x5_2 < (l1_1.length : Int)
                · rw [if_pos c16] at H
                  have c16b0 : decide (x5_2 < (l1_1.length : Int)) = true := decide_eq_true c16
                  clear c16
                  replace H := Option.bind_eq_some_iff.mp H
                  obtain ⟨t105, A170, H⟩ := H
                  replace H : (if t105 = true then (slopelaw3_sameTable.l0 k2 (wrap64 (x5_2 + 1)) a0_0 l0_1 a1_0 l1_1) else (some false)) = some r := H
                  have A17 := Aside0.mk A170
                  clear A170
                  by_cases c18 : t105 = true
                  · subst c18
                    have H1 : (slopelaw3_sameTable.l0 k2 (wrap64 (x5_2 + 1)) a0_0 l0_1 a1_0 l1_1) = some r := by rw [if_pos rfl] at H; exact H
                    clear H
                    have H := H1
                    clear H1
                    have H' := Aside0.mk H
                    clear H
                    have hnb19 := NB101_102.out
                    have hnc19 := NB102_101.out
                    have hcz20_0 : wr.cell? ⟨gb101, 0, none⟩ = some (.int .i64 a0_0) := (blk_cell BK101.out 0).trans rfl
                    have hcz20_1 : wr.cell? ⟨gb101, 1, none⟩ = some (.slice A0_1 l0_1.length c0_1) := (blk_cell BK101.out 1).trans rfl
                    have hfz20_0 := blk_frozen BK101.out 0
                    have hfz20_1 := blk_frozen BK101.out 1
                    try go_wp2
                    have n0_ := Aside0.mk (blk_drew BK101.out)
                    have n1_ := Aside0.mk (blk_drew BK102.out)
                    have n2_ := Aside0.mk (below_drew1 HB.out)
                    clear BK101
                    clear BK102
                    clear HB
                    have BK101 := n0_
                    have BK102 := n1_
                    have HB := n2_
                    clear n0_ n1_ n2_
                    have p103 : 0 ≤ (x5_2 : Int) := of_decide_eq_true (by first | (with_reducible assumption) | assumption)
                    have q103 : x5_2 < (l0_1.length : Int) := of_decide_eq_true (by first | (with_reducible assumption) | assumption)
                    obtain ⟨ad103, A103_1, c103_1, e103, hx103_0, hx103_1, hl103_1, hi103_1⟩ := at_T24 HR0_1.out x5_2 p103 q103
                    have hw103_1 := hx103_1
                    have hw103_0 := hx103_0
                    cases e103
                    replace hx103_0 := (HB.out.cell (World.block_lt_of_cell? w _ hx103_0)).trans hx103_0
                    replace hx103_1 := (HB.out.cell (World.block_lt_of_cell? w _ hx103_1)).trans hx103_1
                    have HR103_1 := Aside0.mk hi103_1
                    have HC103_1 := Aside0.mk hl103_1
                    clear hi103_1 hl103_1
                    replace p103 := eq_true p103
                    replace q103 := eq_true q103
                    have p104 : 0 ≤ (x5_2 : Int) := of_decide_eq_true (by first | (with_reducible assumption) | assumption)
                    have q104 : x5_2 < (l1_1.length : Int) := of_decide_eq_true (by first | (with_reducible assumption) | assumption)
                    obtain ⟨ad104, A104_1, c104_1, e104, hx104_0, hx104_1, hl104_1, hi104_1⟩ := at_T24 HR1_1.out x5_2 p104 q104
                    have hw104_1 := hx104_1
                    have hw104_0 := hx104_0
                    cases e104
                    replace hx104_0 := (HB.out.cell (World.block_lt_of_cell? w _ hx104_0)).trans hx104_0
                    replace hx104_1 := (HB.out.cell (World.block_lt_of_cell? w _ hx104_1)).trans hx104_1
                    have HR104_1 := Aside0.mk hi104_1
                    have HC104_1 := Aside0.mk hl104_1
                    clear hi104_1 hl104_1
                    replace p104 := eq_true p104
                    replace q104 := eq_true q104
                    refine start_ (n := 12) (S := fun w' => w'.cell? ⟨gb101, 0, none⟩ = some (.int .i64 a0_0) ∧ w'.cell? ⟨gb101, 1, none⟩ = some (.slice (some ad103) l0_1.length c0_1) ∧ w'.cell? ⟨gb102, 0, none⟩ = some (.int .i64 a1_0) ∧ w'.cell? ⟨gb102, 1, none⟩ = some (.slice (some ad104) l1_1.length c1_1) ∧ w'.cell? (ad103.add ((x5_2).toNat * 2)) = some (.int .i64 ((rd_T24 l0_1 x5_2).f0)) ∧ w'.cell? ⟨(ad103.add ((x5_2).toNat * 2)).block, (ad103.add ((x5_2).toNat * 2)).off + 1, none⟩ = some (.slice A103_1 ((rd_T24 l0_1 x5_2).f1).length c103_1) ∧ w'.cell? (ad104.add ((x5_2).toNat * 2)) = some (.int .i64 ((rd_T24 l1_1 x5_2).f0)) ∧ w'.cell? ⟨(ad104.add ((x5_2).toNat * 2)).block, (ad104.add ((x5_2).toNat * 2)).off + 1, none⟩ = some (.slice A104_1 ((rd_T24 l1_1 x5_2).f1).length c104_1)) (ds := []) #[false, false, false, false, false, false, false, false, false, false, false, false] (by kernel_rfl) rfl rfl ⟨(blk_cell BK101.out 0).trans rfl, (blk_cell BK101.out 1).trans rfl, (blk_cell BK102.out 0).trans rfl, (blk_cell BK102.out 1).trans rfl, ((HB.out.cell (World.block_lt_of_cell? w _ hw103_0)).trans hw103_0), ((HB.out.cell (World.block_lt_of_cell? w _ hw103_1)).trans hw103_1), ((HB.out.cell (World.block_lt_of_cell? w _ hw104_0)).trans hw104_0), ((HB.out.cell (World.block_lt_of_cell? w _ hw104_1)).trans hw104_1)⟩ (fun hHeld => ?_); refine with_tabW slopelaw3_sameTable.tab6 slopelaw3_sameTable.bits6 (fun HT_ HW_ => ?_)
                    generalize wr.drew = w21 at BK101 BK102 HB HR103_1 HR104_1 hx103_0 hx103_1 hx104_0 hx104_1 hHeld ⊢
                    refine pure_ (i := 0) (N := some 27) (v := ?_) (a' := ?_) #[true, false, false, false, false, false, false, false, false, false, false, false] rfl rfl (any_of HT_.out (by kernel_rfl)) (fun _ _ _ h => h) (Or.inl ⟨by rfl, ?_⟩) ?_ ?_
                    rotate_left
                    · intro w'
                      go_simp
                      with_reducible rfl
                    rotate_left
                    · simp only [Act.put, List.setIfInBounds_toArray, List.set_cons_zero, List.set_cons_succ, i64_w, i32_w]
                      rfl
                    refine pure_ (i := 2) (N := some 29) (v := ?_) (a' := ?_) #[true, false, true, false, false, false, false, false, false, false, false, false] rfl rfl (any_of HT_.out (by kernel_rfl)) (fun _ _ _ h => h) (Or.inl ⟨by rfl, ?_⟩) ?_ ?_
                    rotate_left
                    · intro w'
                      go_simp
                      with_reducible rfl
                    rotate_left
                    · simp only [Act.put, List.setIfInBounds_toArray, List.set_cons_zero, List.set_cons_succ, i64_w, i32_w]
                      rfl
                    refine pure_ (i := 5) (N := some 32) (v := ?_) (a' := ?_) #[true, false, true, false, false, true, false, false, false, false, false, false] rfl rfl (any_of HT_.out (by kernel_rfl)) (fun _ _ _ h => h) (Or.inl ⟨by rfl, ?_⟩) ?_ ?_
                    rotate_left
                    · intro w'
                      go_simp
                      with_reducible rfl
                    rotate_left
                    · simp only [Act.put, List.setIfInBounds_toArray, List.set_cons_zero, List.set_cons_succ, i64_w, i32_w]
                      rfl
                    refine pure_ (i := 7) (N := some 34) (v := ?_) (a' := ?_) #[true, false, true, false, false, true, false, true, false, false, false, false] rfl rfl (any_of HT_.out (by kernel_rfl)) (fun _ _ _ h => h) (Or.inl ⟨by rfl, ?_⟩) ?_ ?_
                    rotate_left
                    · intro w'
                      go_simp
                      with_reducible rfl
                    rotate_left
                    · simp only [Act.put, List.setIfInBounds_toArray, List.set_cons_zero, List.set_cons_succ, i64_w, i32_w]
                      rfl
                    refine take_ (i := 1) (N := some 28) (v := ?_) (a' := ?_) #[true, true, true, false, false, true, false, true, false, false, false, false] rfl rfl (take_ofW HT_.out HW_.out (by kernel_rfl)) (fun _ _ _ h => h) (Or.inl ⟨by rfl, ?_⟩) hHeld ?_ ?_
                    rotate_left
                    · rintro w' ⟨s0, s1, s2, s3, s4, s5, s6, s7⟩
                      go_simp
                      with_reducible rfl
                    rotate_left
                    · simp only [Act.put, List.setIfInBounds_toArray, List.set_cons_zero, List.set_cons_succ, i64_w, i32_w]
                      rfl
                    refine pure_ (i := 3) (N := some 30) (v := ?_) (a' := ?_) #[true, true, true, true, false, true, false, true, false, false, false, false] rfl rfl (any_of HT_.out (by kernel_rfl)) (fun _ _ _ h => h) (Or.inl ⟨by rfl, ?_⟩) ?_ ?_
                    rotate_left
                    · intro w'
                      go_simp
                      with_reducible rfl
                    rotate_left
                    · simp only [Act.put, List.setIfInBounds_toArray, List.set_cons_zero, List.set_cons_succ, i64_w, i32_w]
                      rfl
                    refine take_ (i := 4) (N := some 31) (v := ?_) (a' := ?_) #[true, true, true, true, true, true, false, true, false, false, false, false] rfl rfl (take_ofW HT_.out HW_.out (by kernel_rfl)) (fun _ _ _ h => h) (Or.inl ⟨by rfl, ?_⟩) hHeld ?_ ?_
                    rotate_left
                    · rintro w' ⟨s0, s1, s2, s3, s4, s5, s6, s7⟩
                      go_simp
                      with_reducible rfl
                    rotate_left
                    · simp only [Act.put, List.setIfInBounds_toArray, List.set_cons_zero, List.set_cons_succ, i64_w, i32_w]
                      rfl
                    refine take_ (i := 6) (N := some 33) (v := ?_) (a' := ?_) #[true, true, true, true, true, true, true, true, false, false, false, false] rfl rfl (take_ofW HT_.out HW_.out (by kernel_rfl)) (fun _ _ _ h => h) (Or.inl ⟨by rfl, ?_⟩) hHeld ?_ ?_
                    rotate_left
                    · rintro w' ⟨s0, s1, s2, s3, s4, s5, s6, s7⟩
                      go_simp
                      with_reducible rfl
                    rotate_left
                    · simp only [Act.put, List.setIfInBounds_toArray, List.set_cons_zero, List.set_cons_succ, i64_w, i32_w]
                      rfl
                    refine pure_ (i := 8) (N := some 35) (v := ?_) (a' := ?_) #[true, true, true, true, true, true, true, true, true, false, false, false] rfl rfl (any_of HT_.out (by kernel_rfl)) (fun _ _ _ h => h) (Or.inl ⟨by rfl, ?_⟩) ?_ ?_
                    rotate_left
                    · intro w'
                      go_simp
                      with_reducible rfl
                    rotate_left
                    · simp only [Act.put, List.setIfInBounds_toArray, List.set_cons_zero, List.set_cons_succ, i64_w, i32_w]
                      rfl
                    refine take_ (i := 9) (N := some 36) (v := ?_) (a' := ?_) #[true, true, true, true, true, true, true, true, true, true, false, false] rfl rfl (take_ofW HT_.out HW_.out (by kernel_rfl)) (fun _ _ _ h => h) (Or.inl ⟨by rfl, ?_⟩) hHeld ?_ ?_
                    rotate_left
                    · rintro w' ⟨s0, s1, s2, s3, s4, s5, s6, s7⟩
                      go_simp
                      with_reducible rfl
                    rotate_left
                    · simp only [Act.put, List.setIfInBounds_toArray, List.set_cons_zero, List.set_cons_succ, i64_w, i32_w]
                      rfl
                    refine one_ (i := 10) (N := some 37) #[true, true, true, true, true, true, true, true, true, true, true, false] rfl rfl (one_of HT_.out (by kernel_rfl)) (by decide) (fun K hK => ?_)
                    refine goes_ Tryd.func20 (by kernel_rfl) rfl #[.agg #[.int .i64 ((rd_T24 l0_1 x5_2).f0), .slice A103_1 ((rd_T24 l0_1 x5_2).f1).length c103_1], .agg #[.int .i64 ((rd_T24 l1_1 x5_2).f0), .slice A104_1 ((rd_T24 l1_1 x5_2).f1).length c104_1]] (by rfl) rfl rfl (by (try simp only [List.map_toArray, List.map_cons, List.map_nil]); first | done | rfl | (simp only [List.length_drop, List.length_take]; rfl)) ?_
                    with_reducible refine (slopelaw3_same.calls k2 ((rd_T24 l0_1 x5_2).f0) _ _ ((rd_T24 l0_1 x5_2).f1) ((rd_T24 l1_1 x5_2).f0) _ _ ((rd_T24 l1_1 x5_2).f1) true _ ?side1 ?side2 ?side3 ?side4 A17.out).mono ?_
                    (case side1 => repeat (first | exact (Kd.C_below HR103_1.out HB.out) | (with_reducible refine Kd.C_alloc ?_ _) | (with_reducible refine Kd.C_drewN ?_ _) | (with_reducible refine Kd.C_drew ?_)))
                    (case side2 => exact HC103_1.out)
                    (case side3 => repeat (first | exact (Kd.C_below HR104_1.out HB.out) | (with_reducible refine Kd.C_alloc ?_ _) | (with_reducible refine Kd.C_drewN ?_ _) | (with_reducible refine Kd.C_drew ?_)))
                    (case side4 => exact HC104_1.out)
                    rintro e w22 ⟨rfl, hb⟩
                    refine ⟨_, rfl, ?_⟩
                    have n0_ := Aside0.mk (blk_below (g := gb101) (o := .cells #[.int .i64 a0_0, .slice (some ad103) l0_1.length c0_1] 56 (0, 0)) (by (with_reducible repeat (first | refine blk_drewN ?_ _ | refine blk_drew ?_ | refine blk_alloc ?_ _)); exact BK101.out) hb)
                    have n1_ := Aside0.mk (blk_below (g := gb102) (o := .cells #[.int .i64 a1_0, .slice (some ad104) l1_1.length c1_1] 56 (0, 0)) (by (with_reducible repeat (first | refine blk_drewN ?_ _ | refine blk_drew ?_ | refine blk_alloc ?_ _)); exact BK102.out) hb)
                    have n2_ := Aside0.mk (below_step (by repeat (first | (with_reducible first | exact HB.out | apply below_alloc | apply pw_below_drewN | apply below_drew1 | refine below_set ?_ GE101.out | refine below_set ?_ GE102.out) | exact HB.out)) hb)
                    clear BK101
                    clear BK102
                    clear HB
                    have BK101 := n0_
                    have BK102 := n1_
                    have HB := n2_
                    clear n0_ n1_ n2_
                    (try clear hb)
                    (try clear hb2)
                    (try clear hk)
                    (try clear hi)
                    refine hK.out _ _ ⟨(blk_cell BK101.out 0).trans rfl, (blk_cell BK101.out 1).trans rfl, (blk_cell BK102.out 0).trans rfl, (blk_cell BK102.out 1).trans rfl, ((HB.out.cell (World.block_lt_of_cell? w _ hw103_0)).trans hw103_0), ((HB.out.cell (World.block_lt_of_cell? w _ hw103_1)).trans hw103_1), ((HB.out.cell (World.block_lt_of_cell? w _ hw104_0)).trans hw104_0), ((HB.out.cell (World.block_lt_of_cell? w _ hw104_1)).trans hw104_1)⟩ (fun hHeld => ?_)
                    clear hK K
                    refine norm_ (a' := ?_) ?_ ?_
                    rotate_left
                    · show Act.put _ (some 37) _ = _
                      simp only [Act.put, List.setIfInBounds_toArray, List.set_cons_zero, List.set_cons_succ, i64_w, i32_w]
                      rfl
                    refine pure_ (i := 11) (N := some 38) (v := ?_) (a' := ?_) #[true, true, true, true, true, true, true, true, true, true, true, true] rfl rfl (any_of HT_.out (by kernel_rfl)) (fun _ _ _ h => h) (Or.inl ⟨by rfl, ?_⟩) ?_ ?_
                    rotate_left
                    · intro w'
                      go_simp
                      with_reducible rfl
                    rotate_left
                    · simp only [Act.put, List.setIfInBounds_toArray, List.set_cons_zero, List.set_cons_succ, i64_w, i32_w]
                      rfl
                    refine done_ (done_of HT_.out (by kernel_rfl)) ?_
                    try go_wp2
                    go_roundg k2
                    case measure => have := HJ2.out; have := HK2.out; omega
                    case rel => exact ⟨(wrap64 (x5_2 + 1)), (by first | rfl | (simp; done) | (simp [*]; done)), H', ⟨by have := HJ2.out; have := HK2.out; omega⟩, ⟨by (with_reducible repeat (first | refine blk_drewN ?_ _ | refine blk_drew ?_ | refine blk_alloc ?_ _)); exact BK101.out⟩, ⟨by (with_reducible repeat (first | refine blk_drewN ?_ _ | refine blk_drew ?_ | refine blk_alloc ?_ _)); exact BK102.out⟩, ⟨by repeat (first | (with_reducible first | exact HB.out | apply below_alloc | apply pw_below_drewN | apply below_drew1 | refine below_set ?_ GE101.out | refine below_set ?_ GE102.out) | exact HB.out)⟩⟩
                  · replace c18 := Bool.eq_false_iff.mpr c18
                    subst c18
                    have H1 : (some false) = some r := by rw [if_neg (show ¬ (false = true) by decide)] at H; exact H
                    clear H
                    have H := H1
                    clear H1
                    obtain rfl := Option.some.inj H
                    have hnb23 := NB101_102.out
                    have hnc23 := NB102_101.out
                    have hcz24_0 : wr.cell? ⟨gb101, 0, none⟩ = some (.int .i64 a0_0) := (blk_cell BK101.out 0).trans rfl
                    have hcz24_1 : wr.cell? ⟨gb101, 1, none⟩ = some (.slice A0_1 l0_1.length c0_1) := (blk_cell BK101.out 1).trans rfl
                    have hfz24_0 := blk_frozen BK101.out 0
                    have hfz24_1 := blk_frozen BK101.out 1
                    try go_wp2
                    have n0_ := Aside0.mk (blk_drew BK101.out)
                    have n1_ := Aside0.mk (blk_drew BK102.out)
                    have n2_ := Aside0.mk (below_drew1 HB.out)
                    clear BK101
                    clear BK102
                    clear HB
                    have BK101 := n0_
                    have BK102 := n1_
                    have HB := n2_
                    clear n0_ n1_ n2_
                    have p103 : 0 ≤ (x5_2 : Int) := of_decide_eq_true (by first | (with_reducible assumption) | assumption)
                    have q103 : x5_2 < (l0_1.length : Int) := of_decide_eq_true (by first | (with_reducible assumption) | assumption)
                    obtain ⟨ad103, A103_1, c103_1, e103, hx103_0, hx103_1, hl103_1, hi103_1⟩ := at_T24 HR0_1.out x5_2 p103 q103
                    have hw103_1 := hx103_1
                    have hw103_0 := hx103_0
                    cases e103
                    replace hx103_0 := (HB.out.cell (World.block_lt_of_cell? w _ hx103_0)).trans hx103_0
                    replace hx103_1 := (HB.out.cell (World.block_lt_of_cell? w _ hx103_1)).trans hx103_1
                    have HR103_1 := Aside0.mk hi103_1
                    have HC103_1 := Aside0.mk hl103_1
                    clear hi103_1 hl103_1
                    replace p103 := eq_true p103
                    replace q103 := eq_true q103
                    have p104 : 0 ≤ (x5_2 : Int) := of_decide_eq_true (by first | (with_reducible assumption) | assumption)
                    have q104 : x5_2 < (l1_1.length : Int) := of_decide_eq_true (by first | (with_reducible assumption) | assumption)
                    obtain ⟨ad104, A104_1, c104_1, e104, hx104_0, hx104_1, hl104_1, hi104_1⟩ := at_T24 HR1_1.out x5_2 p104 q104
                    have hw104_1 := hx104_1
                    have hw104_0 := hx104_0
                    cases e104
                    replace hx104_0 := (HB.out.cell (World.block_lt_of_cell? w _ hx104_0)).trans hx104_0
                    replace hx104_1 := (HB.out.cell (World.block_lt_of_cell? w _ hx104_1)).trans hx104_1
                    have HR104_1 := Aside0.mk hi104_1
                    have HC104_1 := Aside0.mk hl104_1
                    clear hi104_1 hl104_1
                    replace p104 := eq_true p104
                    replace q104 := eq_true q104
                    refine start_ (n := 12) (S := fun w' => w'.cell? ⟨gb101, 0, none⟩ = some (.int .i64 a0_0) ∧ w'.cell? ⟨gb101, 1, none⟩ = some (.slice (some ad103) l0_1.length c0_1) ∧ w'.cell? ⟨gb102, 0, none⟩ = some (.int .i64 a1_0) ∧ w'.cell? ⟨gb102, 1, none⟩ = some (.slice (some ad104) l1_1.length c1_1) ∧ w'.cell? (ad103.add ((x5_2).toNat * 2)) = some (.int .i64 ((rd_T24 l0_1 x5_2).f0)) ∧ w'.cell? ⟨(ad103.add ((x5_2).toNat * 2)).block, (ad103.add ((x5_2).toNat * 2)).off + 1, none⟩ = some (.slice A103_1 ((rd_T24 l0_1 x5_2).f1).length c103_1) ∧ w'.cell? (ad104.add ((x5_2).toNat * 2)) = some (.int .i64 ((rd_T24 l1_1 x5_2).f0)) ∧ w'.cell? ⟨(ad104.add ((x5_2).toNat * 2)).block, (ad104.add ((x5_2).toNat * 2)).off + 1, none⟩ = some (.slice A104_1 ((rd_T24 l1_1 x5_2).f1).length c104_1)) (ds := []) #[false, false, false, false, false, false, false, false, false, false, false, false] (by kernel_rfl) rfl rfl ⟨(blk_cell BK101.out 0).trans rfl, (blk_cell BK101.out 1).trans rfl, (blk_cell BK102.out 0).trans rfl, (blk_cell BK102.out 1).trans rfl, ((HB.out.cell (World.block_lt_of_cell? w _ hw103_0)).trans hw103_0), ((HB.out.cell (World.block_lt_of_cell? w _ hw103_1)).trans hw103_1), ((HB.out.cell (World.block_lt_of_cell? w _ hw104_0)).trans hw104_0), ((HB.out.cell (World.block_lt_of_cell? w _ hw104_1)).trans hw104_1)⟩ (fun hHeld => ?_); refine with_tabW slopelaw3_sameTable.tab6 slopelaw3_sameTable.bits6 (fun HT_ HW_ => ?_)
                    generalize wr.drew = w25 at BK101 BK102 HB HR103_1 HR104_1 hx103_0 hx103_1 hx104_0 hx104_1 hHeld ⊢
                    refine pure_ (i := 0) (N := some 27) (v := ?_) (a' := ?_) #[true, false, false, false, false, false, false, false, false, false, false, false] rfl rfl (any_of HT_.out (by kernel_rfl)) (fun _ _ _ h => h) (Or.inl ⟨by rfl, ?_⟩) ?_ ?_
                    rotate_left
                    · intro w'
                      go_simp
                      with_reducible rfl
                    rotate_left
                    · simp only [Act.put, List.setIfInBounds_toArray, List.set_cons_zero, List.set_cons_succ, i64_w, i32_w]
                      rfl
                    refine pure_ (i := 2) (N := some 29) (v := ?_) (a' := ?_) #[true, false, true, false, false, false, false, false, false, false, false, false] rfl rfl (any_of HT_.out (by kernel_rfl)) (fun _ _ _ h => h) (Or.inl ⟨by rfl, ?_⟩) ?_ ?_
                    rotate_left
                    · intro w'
                      go_simp
                      with_reducible rfl
                    rotate_left
                    · simp only [Act.put, List.setIfInBounds_toArray, List.set_cons_zero, List.set_cons_succ, i64_w, i32_w]
                      rfl
                    refine pure_ (i := 5) (N := some 32) (v := ?_) (a' := ?_) #[true, false, true, false, false, true, false, false, false, false, false, false] rfl rfl (any_of HT_.out (by kernel_rfl)) (fun _ _ _ h => h) (Or.inl ⟨by rfl, ?_⟩) ?_ ?_
                    rotate_left
                    · intro w'
                      go_simp
                      with_reducible rfl
                    rotate_left
                    · simp only [Act.put, List.setIfInBounds_toArray, List.set_cons_zero, List.set_cons_succ, i64_w, i32_w]
                      rfl
                    refine pure_ (i := 7) (N := some 34) (v := ?_) (a' := ?_) #[true, false, true, false, false, true, false, true, false, false, false, false] rfl rfl (any_of HT_.out (by kernel_rfl)) (fun _ _ _ h => h) (Or.inl ⟨by rfl, ?_⟩) ?_ ?_
                    rotate_left
                    · intro w'
                      go_simp
                      with_reducible rfl
                    rotate_left
                    · simp only [Act.put, List.setIfInBounds_toArray, List.set_cons_zero, List.set_cons_succ, i64_w, i32_w]
                      rfl
                    refine take_ (i := 1) (N := some 28) (v := ?_) (a' := ?_) #[true, true, true, false, false, true, false, true, false, false, false, false] rfl rfl (take_ofW HT_.out HW_.out (by kernel_rfl)) (fun _ _ _ h => h) (Or.inl ⟨by rfl, ?_⟩) hHeld ?_ ?_
                    rotate_left
                    · rintro w' ⟨s0, s1, s2, s3, s4, s5, s6, s7⟩
                      go_simp
                      with_reducible rfl
                    rotate_left
                    · simp only [Act.put, List.setIfInBounds_toArray, List.set_cons_zero, List.set_cons_succ, i64_w, i32_w]
                      rfl
                    refine pure_ (i := 3) (N := some 30) (v := ?_) (a' := ?_) #[true, true, true, true, false, true, false, true, false, false, false, false] rfl rfl (any_of HT_.out (by kernel_rfl)) (fun _ _ _ h => h) (Or.inl ⟨by rfl, ?_⟩) ?_ ?_
                    rotate_left
                    · intro w'
                      go_simp
                      with_reducible rfl
                    rotate_left
                    · simp only [Act.put, List.setIfInBounds_toArray, List.set_cons_zero, List.set_cons_succ, i64_w, i32_w]
                      rfl
                    refine take_ (i := 4) (N := some 31) (v := ?_) (a' := ?_) #[true, true, true, true, true, true, false, true, false, false, false, false] rfl rfl (take_ofW HT_.out HW_.out (by kernel_rfl)) (fun _ _ _ h => h) (Or.inl ⟨by rfl, ?_⟩) hHeld ?_ ?_
                    rotate_left
                    · rintro w' ⟨s0, s1, s2, s3, s4, s5, s6, s7⟩
                      go_simp
                      with_reducible rfl
                    rotate_left
                    · simp only [Act.put, List.setIfInBounds_toArray, List.set_cons_zero, List.set_cons_succ, i64_w, i32_w]
                      rfl
                    refine take_ (i := 6) (N := some 33) (v := ?_) (a' := ?_) #[true, true, true, true, true, true, true, true, false, false, false, false] rfl rfl (take_ofW HT_.out HW_.out (by kernel_rfl)) (fun _ _ _ h => h) (Or.inl ⟨by rfl, ?_⟩) hHeld ?_ ?_
                    rotate_left
                    · rintro w' ⟨s0, s1, s2, s3, s4, s5, s6, s7⟩
                      go_simp
                      with_reducible rfl
                    rotate_left
                    · simp only [Act.put, List.setIfInBounds_toArray, List.set_cons_zero, List.set_cons_succ, i64_w, i32_w]
                      rfl
                    refine pure_ (i := 8) (N := some 35) (v := ?_) (a' := ?_) #[true, true, true, true, true, true, true, true, true, false, false, false] rfl rfl (any_of HT_.out (by kernel_rfl)) (fun _ _ _ h => h) (Or.inl ⟨by rfl, ?_⟩) ?_ ?_
                    rotate_left
                    · intro w'
                      go_simp
                      with_reducible rfl
                    rotate_left
                    · simp only [Act.put, List.setIfInBounds_toArray, List.set_cons_zero, List.set_cons_succ, i64_w, i32_w]
                      rfl
                    refine take_ (i := 9) (N := some 36) (v := ?_) (a' := ?_) #[true, true, true, true, true, true, true, true, true, true, false, false] rfl rfl (take_ofW HT_.out HW_.out (by kernel_rfl)) (fun _ _ _ h => h) (Or.inl ⟨by rfl, ?_⟩) hHeld ?_ ?_
                    rotate_left
                    · rintro w' ⟨s0, s1, s2, s3, s4, s5, s6, s7⟩
                      go_simp
                      with_reducible rfl
                    rotate_left
                    · simp only [Act.put, List.setIfInBounds_toArray, List.set_cons_zero, List.set_cons_succ, i64_w, i32_w]
                      rfl
                    refine one_ (i := 10) (N := some 37) #[true, true, true, true, true, true, true, true, true, true, true, false] rfl rfl (one_of HT_.out (by kernel_rfl)) (by decide) (fun K hK => ?_)
                    refine goes_ Tryd.func20 (by kernel_rfl) rfl #[.agg #[.int .i64 ((rd_T24 l0_1 x5_2).f0), .slice A103_1 ((rd_T24 l0_1 x5_2).f1).length c103_1], .agg #[.int .i64 ((rd_T24 l1_1 x5_2).f0), .slice A104_1 ((rd_T24 l1_1 x5_2).f1).length c104_1]] (by rfl) rfl rfl (by (try simp only [List.map_toArray, List.map_cons, List.map_nil]); first | done | rfl | (simp only [List.length_drop, List.length_take]; rfl)) ?_
                    with_reducible refine (slopelaw3_same.calls k2 ((rd_T24 l0_1 x5_2).f0) _ _ ((rd_T24 l0_1 x5_2).f1) ((rd_T24 l1_1 x5_2).f0) _ _ ((rd_T24 l1_1 x5_2).f1) false _ ?side1 ?side2 ?side3 ?side4 A17.out).mono ?_
                    (case side1 => repeat (first | exact (Kd.C_below HR103_1.out HB.out) | (with_reducible refine Kd.C_alloc ?_ _) | (with_reducible refine Kd.C_drewN ?_ _) | (with_reducible refine Kd.C_drew ?_)))
                    (case side2 => exact HC103_1.out)
                    (case side3 => repeat (first | exact (Kd.C_below HR104_1.out HB.out) | (with_reducible refine Kd.C_alloc ?_ _) | (with_reducible refine Kd.C_drewN ?_ _) | (with_reducible refine Kd.C_drew ?_)))
                    (case side4 => exact HC104_1.out)
                    rintro e w26 ⟨rfl, hb⟩
                    refine ⟨_, rfl, ?_⟩
                    have n0_ := Aside0.mk (blk_below (g := gb101) (o := .cells #[.int .i64 a0_0, .slice (some ad103) l0_1.length c0_1] 56 (0, 0)) (by (with_reducible repeat (first | refine blk_drewN ?_ _ | refine blk_drew ?_ | refine blk_alloc ?_ _)); exact BK101.out) hb)
                    have n1_ := Aside0.mk (blk_below (g := gb102) (o := .cells #[.int .i64 a1_0, .slice (some ad104) l1_1.length c1_1] 56 (0, 0)) (by (with_reducible repeat (first | refine blk_drewN ?_ _ | refine blk_drew ?_ | refine blk_alloc ?_ _)); exact BK102.out) hb)
                    have n2_ := Aside0.mk (below_step (by repeat (first | (with_reducible first | exact HB.out | apply below_alloc | apply pw_below_drewN | apply below_drew1 | refine below_set ?_ GE101.out | refine below_set ?_ GE102.out) | exact HB.out)) hb)
                    clear BK101
                    clear BK102
                    clear HB
                    have BK101 := n0_
                    have BK102 := n1_
                    have HB := n2_
                    clear n0_ n1_ n2_
                    (try clear hb)
                    (try clear hb2)
                    (try clear hk)
                    (try clear hi)
                    refine hK.out _ _ ⟨(blk_cell BK101.out 0).trans rfl, (blk_cell BK101.out 1).trans rfl, (blk_cell BK102.out 0).trans rfl, (blk_cell BK102.out 1).trans rfl, ((HB.out.cell (World.block_lt_of_cell? w _ hw103_0)).trans hw103_0), ((HB.out.cell (World.block_lt_of_cell? w _ hw103_1)).trans hw103_1), ((HB.out.cell (World.block_lt_of_cell? w _ hw104_0)).trans hw104_0), ((HB.out.cell (World.block_lt_of_cell? w _ hw104_1)).trans hw104_1)⟩ (fun hHeld => ?_)
                    clear hK K
                    refine norm_ (a' := ?_) ?_ ?_
                    rotate_left
                    · show Act.put _ (some 37) _ = _
                      simp only [Act.put, List.setIfInBounds_toArray, List.set_cons_zero, List.set_cons_succ, i64_w, i32_w]
                      rfl
                    refine pure_ (i := 11) (N := some 38) (v := ?_) (a' := ?_) #[true, true, true, true, true, true, true, true, true, true, true, true] rfl rfl (any_of HT_.out (by kernel_rfl)) (fun _ _ _ h => h) (Or.inl ⟨by rfl, ?_⟩) ?_ ?_
                    rotate_left
                    · intro w'
                      go_simp
                      with_reducible rfl
                    rotate_left
                    · simp only [Act.put, List.setIfInBounds_toArray, List.set_cons_zero, List.set_cons_succ, i64_w, i32_w]
                      rfl
                    refine done_ (done_of HT_.out (by kernel_rfl)) ?_
                    try go_wp2
                    go_ret
                    exact ⟨by first | rfl | (simp [errW_none, errW_some] <;> rfl) | (simp [*, errW_none, errW_some] <;> rfl), by repeat (first | (with_reducible first | exact HB.out | apply below_alloc | apply pw_below_drewN | apply below_drew1 | refine below_set ?_ GE101.out | refine below_set ?_ GE102.out) | exact HB.out)⟩
                · rw [if_neg c16] at H
                  exact absurd H (by simp)
              · rw [if_neg c15] at H
                exact absurd H (by simp)
            · rw [if_neg c14] at H
              have c14b0 : decide (x5_2 < (l0_1.length : Int)) = false := decide_eq_false c14
              clear c14
              obtain rfl := Option.some.inj H
              have hnb27 := NB101_102.out
              have hnc27 := NB102_101.out
              have hcz28_0 : wr.cell? ⟨gb101, 0, none⟩ = some (.int .i64 a0_0) := (blk_cell BK101.out 0).trans rfl
              have hcz28_1 : wr.cell? ⟨gb101, 1, none⟩ = some (.slice A0_1 l0_1.length c0_1) := (blk_cell BK101.out 1).trans rfl
              have hfz28_0 := blk_frozen BK101.out 0
              have hfz28_1 := blk_frozen BK101.out 1
              go_wp2
              go_ret
              exact ⟨by first | rfl | (simp [errW_none, errW_some] <;> rfl) | (simp [*, errW_none, errW_some] <;> rfl), by repeat (first | (with_reducible first | exact HB.out | apply below_alloc | apply pw_below_drewN | apply below_drew1 | refine below_set ?_ GE101.out | refine below_set ?_ GE102.out) | exact HB.out)⟩
end Go.Proofs.YtjmkhdhffmlhiaaDoor.PAll
end
section
namespace Go.Proofs.YtjmkhdhffmlhiaaDoor.PAll
open Go.RowKit Go.Proofs.YtjmkhdhffmlhiaaDoorW.PrintWords Go.Proofs.YtjmkhdhffmlhiaaDoorW.PrintLast Go.Proofs.YtjmkhdhffmlhiaaDoorW.PrintMore
set_option linter.unusedVariables false
mutual
def slopelaw3_BitClosed.j0 : Nat → Int → Int → Int → Bool → Int → List (S24) → Int → List (S24) → Int → List (S24) → Option (Bool)
  | 0, _, _, _, _, _, _, _, _, _, _ => none
  | k + 1, x2, x3, x10, x44, x102000, x102001, x103000, x103001, x110000, x110001 => if x44 = true then ((slopelaw3_num.f x10).bind fun t111 => (some (t111 != 0))) else ((bitset_Product.f k x102000 x102001 x110000 x110001).bind fun bt112 => ((bitset_Product.f k x110000 x110001 x110000 x110001).bind fun bt118 => ((bitset_Closure.f k x110000 x110001).bind fun bt124 => ((slopelaw3_num.f x10).bind fun t130 => ((slopelaw3_num.f bt112.2.2).bind fun t131 => ((slopelaw3_num.f bt118.2.2).bind fun t132 => ((slopelaw3_num.f bt124.2.2).bind fun t133 => (if (wrap64 ((wrap64 ((wrap64 (t130 + t131)) + t132)) + t133)) = 0 then ((slopelaw3_sameTable.f k x110000 x110001 bt124.1 bt124.2.1).bind fun t134 => (if t134 = true then (slopelaw3_BitClosed.j1 k x2 x3 ((x110001.length : Int) != x102000) x102000 x102001 x103000 x103001 x110000 x110001 bt112.1 bt112.2.1 bt118.1 bt118.2.1) else (slopelaw3_BitClosed.j1 k x2 x3 true x102000 x102001 x103000 x103001 x110000 x110001 bt112.1 bt112.2.1 bt118.1 bt118.2.1))) else (slopelaw3_BitClosed.j1 k x2 x3 true x102000 x102001 x103000 x103001 x110000 x110001 bt112.1 bt112.2.1 bt118.1 bt118.2.1)))))))))
def slopelaw3_BitClosed.j1 : Nat → Int → Int → Bool → Int → List (S24) → Int → List (S24) → Int → List (S24) → Int → List (S24) → Int → List (S24) → Option (Bool)
  | 0, _, _, _, _, _, _, _, _, _, _, _, _, _ => none
  | k + 1, x2, x3, x90, x102000, x102001, x103000, x103001, x110000, x110001, x118000, x118001, x124000, x124001 => if x90 = true then (some false) else (slopelaw3_BitClosed.l0 k x2 x3 0 x102000 x102001 x103000 x103001 x110000 x110001 x118000 x118001 x124000 x124001)
def slopelaw3_BitClosed.l0 : Nat → Int → Int → Int → Int → List (S24) → Int → List (S24) → Int → List (S24) → Int → List (S24) → Int → List (S24) → Option (Bool)
  | 0, _, _, _, _, _, _, _, _, _, _, _, _, _ => none
  | k + 1, x2, x3, x17, x102000, x102001, x103000, x103001, x110000, x110001, x118000, x118001, x124000, x124001 => if x17 < x102000 then (if 0 ≤ x17 then (if x17 < (x102001.length : Int) then (if x17 < (x118001.length : Int) then ((bitset_Union.f k x102000 (([(⟨(rd_T24 x102001 x17).f0, (rd_T24 x102001 x17).f1⟩ : S24), (⟨(rd_T24 x118001 x17).f0, (rd_T24 x118001 x17).f1⟩ : S24)] : List (S24)))).bind fun bt140 => ((slopelaw3_num.f bt140.2.2).bind fun t146 => (if t146 = 0 then (if x17 < (x110001.length : Int) then ((slopelaw3_same.f k bt140.1 bt140.2.1 ((rd_T24 x110001 x17).f0) ((rd_T24 x110001 x17).f1)).bind fun t148 => (if t148 = true then (if x17 < (x124001.length : Int) then ((bitset_Subset.f k ((rd_T24 x124001 x17).f0) ((rd_T24 x124001 x17).f1) ((rd_T24 x110001 x17).f0) ((rd_T24 x110001 x17).f1)).bind fun t151 => (if t151 = true then (slopelaw3_BitClosed.l0 k x2 x3 (wrap64 (x17 + 1)) x102000 x102001 x103000 x103001 x110000 x110001 x118000 x118001 x124000 x124001) else (some false))) else (none)) else (some false))) else (none)) else (some false)))) else (none)) else (none)) else (none)) else ((sloperef3_MayTable.f k x103000 x103001).bind fun t152 => (if t152 = true then (if x103000 = x102000 then (slopelaw3_BitClosed.j3 k x2 x3 ((x103001.length : Int) == x102000) x102000 x102001 x103000 x103001 x110000 x110001) else (slopelaw3_BitClosed.j3 k x2 x3 false x102000 x102001 x103000 x103001 x110000 x110001)) else (slopelaw3_BitClosed.j3 k x2 x3 false x102000 x102001 x103000 x103001 x110000 x110001)))
def slopelaw3_BitClosed.j3 : Nat → Int → Int → Bool → Int → List (S24) → Int → List (S24) → Int → List (S24) → Option (Bool)
  | 0, _, _, _, _, _, _, _, _, _ => none
  | k + 1, x2, x3, x157, x102000, x102001, x103000, x103001, x110000, x110001 => if x157 = true then (slopelaw3_BitClosed.l1 k x2 x3 ([] : List (S24)) 0 x102000 x102001 x103000 x103001 x110000 x110001) else ((slopelaw3_chain.f k x2 x3).bind fun t179 => (some t179))
def slopelaw3_BitClosed.l1 : Nat → Int → Int → List (S24) → Int → Int → List (S24) → Int → List (S24) → Int → List (S24) → Option (Bool)
  | 0, _, _, _, _, _, _, _, _, _, _ => none
  | k + 1, x2, x3, x20, x21, x102000, x102001, x103000, x103001, x110000, x110001 => if x21 < x102000 then (if 0 ≤ x21 then (if x21 < (x102001.length : Int) then (if x21 < (x103001.length : Int) then ((bitset_Union.f k x102000 (([(⟨(rd_T24 x102001 x21).f0, (rd_T24 x102001 x21).f1⟩ : S24), (⟨(rd_T24 x103001 x21).f0, (rd_T24 x103001 x21).f1⟩ : S24)] : List (S24)))).bind fun bt158 => ((slopelaw3_num.f bt158.2.2).bind fun t164 => (if t164 = 0 then (if x20.length < 4398046511104 then (slopelaw3_BitClosed.l1 k x2 x3 (x20 ++ [(⟨bt158.1, bt158.2.1⟩ : S24)]) (wrap64 (x21 + 1)) x102000 x102001 x103000 x103001 x110000 x110001) else (none)) else (some false)))) else (none)) else (none)) else (none)) else ((bitset_Closure.f k x102000 x20).bind fun bt168 => ((slopelaw3_num.f bt168.2.2).bind fun t174 => (if t174 = 0 then (slopelaw3_BitClosed.l2 k x2 x3 0 x102000 x102001 x110000 x110001 bt168.1 bt168.2.1) else (some false))))
def slopelaw3_BitClosed.l2 : Nat → Int → Int → Int → Int → List (S24) → Int → List (S24) → Int → List (S24) → Option (Bool)
  | 0, _, _, _, _, _, _, _, _, _ => none
  | k + 1, x2, x3, x26, x102000, x102001, x110000, x110001, x174000, x174001 => if x26 < x102000 then (if 0 ≤ x26 then (if x26 < (x110001.length : Int) then (if x26 < (x174001.length : Int) then ((bitset_Subset.f k ((rd_T24 x110001 x26).f0) ((rd_T24 x110001 x26).f1) ((rd_T24 x174001 x26).f0) ((rd_T24 x174001 x26).f1)).bind fun t177 => (if t177 = true then (slopelaw3_BitClosed.l2 k x2 x3 (wrap64 (x26 + 1)) x102000 x102001 x110000 x110001 x174000 x174001) else (some false))) else (none)) else (none)) else (none)) else ((slopelaw3_chain.f k x2 x3).bind fun t178 => (some t178))
end
def slopelaw3_BitClosed.f (k : Nat) (a0_0 : Int) (l0_1 : List (S24)) (a1_0 : Int) (l1_1 : List (S24)) (a2 : Int) (a3 : Int) : Option (Bool) := (slopelaw3_alive.f k).bind fun t103 => (if t103 = true then ((bitset_Closure.f k a0_0 l0_1).bind fun bt104 => ((sloperef3_MayTable.f k a0_0 l0_1).bind fun t110 => (if t110 = true then (slopelaw3_BitClosed.j0 k a2 a3 bt104.2.2 (a0_0 != (l0_1.length : Int)) a0_0 l0_1 a1_0 l1_1 bt104.1 bt104.2.1) else (slopelaw3_BitClosed.j0 k a2 a3 bt104.2.2 true a0_0 l0_1 a1_0 l1_1 bt104.1 bt104.2.1)))) else (some false))
end Go.Proofs.YtjmkhdhffmlhiaaDoor.PAll
end
section
namespace Go.Proofs.YtjmkhdhffmlhiaaDoor.PAll
set_option linter.unusedVariables false
set_option linter.unusedSimpArgs false
open Go.RowKit Go.Shelf Go.Proofs.YtjmkhdhffmlhiaaDoorW.PrintWords Go.Proofs.YtjmkhdhffmlhiaaDoorW.PrintLast Go.Proofs.YtjmkhdhffmlhiaaDoorW.PrintMore
attribute [local go_sem] Oper.semAt_some
set_option maxHeartbeats 8000000 in
set_option maxRecDepth 100000 in
theorem Both_no (k : Nat) (n : Int) (A0 : Option Addr) (c0 : Nat) (l0 : List S24) (w : World) (hr0 : Kd.C k24 w A0 l0.length l0) (hc0 : l0.length ≤ c0) (b : Bool) (hb2 : b = true → n ≠ (l0.length : Int)) (hM : bitset_MayTable.f k n l0 = some b) :
    Calls Tryd.prog 45 #[.agg #[.int .i64 n, .slice A0 l0.length c0]] w fun e w' => ∃ v : Value, e = .returned (.tuple #[.agg #[.int .i64 0, v], .int .i64 (if b = true then 60 else 61)]) ∧ Kd.S k24 24 w' w.heap.size (fun _ => True) v [] ∧ Below w.heap.size w w' := by
  have hu24 := Tryd.underlying24
  have hu56 := Tryd.underlying56
  have HC := Aside0.mk hr0
  have HM := Aside0.mk hM
  have HN := Aside0.mk hb2
  clear hr0 hM hb2
  obtain ⟨o1, ho1⟩ : ∃ o1 : Obj, o1 = .cells #[.int .i64 n, .slice A0 l0.length c0] 56 (0, 0) := ⟨_, rfl⟩
  obtain ⟨o2, ho2⟩ : ∃ o2 : Obj, o2 = .cells #[.int .i64 0, .slice none 0 0] 56 (0, 0) := ⟨_, rfl⟩
  have K0 : ((w.alloc o1).alloc o2).heap[w.heap.size]? = some o1 := blk_alloc (blk_new w o1) _
  have K1 : ((w.alloc o1).alloc o2).heap[w.heap.size + 1]? = some o2 := by have := blk_new (w.alloc o1) o2; rwa [World.size_alloc] at this
  have HB0 : Below w.heap.size w ((w.alloc o1).alloc o2) := below_alloc (below_alloc (Below.refl _ _) _) _
  rw [ho1, ho2] at K0 K1 HB0
  clear ho1 ho2 o1 o2
  have KA := Aside0.mk K0
  have KD := Aside0.mk K1
  have HB := Aside0.mk HB0
  clear K0 K1 HB0
  refine (callsIn_wide (n := 6)).1 ?_
  refine callsIn_of_wp Tryd.func45 rfl trivial ?_ rfl
  simp only [Tryd.ntmps45, List.size_toArray, List.length_cons, List.length_nil, Nat.reduceAdd, Nat.reduceSub, Array.replicate_succ, Array.replicate_zero, List.push_toArray, List.append_toArray, List.nil_append, List.cons_append]
  gi_wp2_with fail
  refine ⟨trivial, ?_⟩; gi_at_call 85
  refine (callsIn_wide.2 (bitset_MayTable.calls k n _ _ l0 b _ (Kd.C_alloc (Kd.C_alloc HC.out _) _) hc0 HM.out)).mono ?_
  rintro e w1 ⟨rfl, hb⟩
  have n0_ := Aside0.mk (blk_below KA.out hb); have n2_ := Aside0.mk (blk_below KD.out hb); have n3_ := Aside0.mk (below_step HB.out hb)
  clear KA KD HB hb
  have KA := n0_; have KD := n2_; have HB := n3_
  clear n0_ n2_ n3_
  have q0 := (blk_cell KA.out 0).trans rfl; have q1 := (blk_cell KA.out 1).trans rfl
  have k0 := (blk_cell KD.out 0).trans rfl; have k1 := (blk_cell KD.out 1).trans rfl; have z0 := blk_frozen KD.out 0; have z1 := blk_frozen KD.out 1
  cases b with
  | false =>
    gi_wp2_with fail
    obtain ⟨X, hX⟩ : ∃ X, (World.setCell w1 ⟨w.heap.size + 1, 0, none⟩ (Value.int IntKind.i64 0)).setCell ⟨w.heap.size + 1, 1, none⟩ (Value.slice none 0 0) = X := ⟨_, rfl⟩
    have hXg : X.heap[w.heap.size + 1]? = some (.cells #[.int .i64 0, Value.slice none 0 0] 56 (0, 0)) := hX ▸ blk_put (blk_put KD.out 0 (Value.int IntKind.i64 0) rfl) 1 (Value.slice none 0 0) rfl
    have hXB := wb (g := w.heap.size + 1) hX.symm HB.out (by omega)
    try rw [hX]
    have c0' := (blk_cell hXg 0).trans rfl
    have c1' := (blk_cell hXg 1).trans rfl
    refine bodyPost_ret (v := .tuple #[.agg #[.int .i64 0, .slice none 0 0], .int .i64 61]) ?_ rfl ⟨_, rfl, Kd.S_nil _ _ _ _ _, hXB⟩
    simp [results, Tryd.f45, go_sem, c0', c1']
  | true =>
    gi_wp2_with fail
    refine ⟨trivial, ?_⟩; gi_at_call 87
    refine (callsIn_wide.2 (bitset_square.calls n _ _ l0 false _ (Kd.C_below HC.out HB.out) hc0 (by unfold bitset_square.f; have hne := HN.out (by trivial); simpa using hne))).mono ?_
    rintro e w2 ⟨rfl, hb⟩
    have n2_ := Aside0.mk (blk_below KD.out hb); have n3_ := Aside0.mk (below_step HB.out hb)
    clear KA KD HB hb q0 q1 k0 k1 z0 z1
    have KD := n2_; have HB := n3_
    clear n2_ n3_
    have k0 := (blk_cell KD.out 0).trans rfl; have k1 := (blk_cell KD.out 1).trans rfl; have z0 := blk_frozen KD.out 0; have z1 := blk_frozen KD.out 1
    gi_wp2_with fail
    obtain ⟨X, hX⟩ : ∃ X, (World.setCell w2 ⟨w.heap.size + 1, 0, none⟩ (Value.int IntKind.i64 0)).setCell ⟨w.heap.size + 1, 1, none⟩ (Value.slice none 0 0) = X := ⟨_, rfl⟩
    have hXg : X.heap[w.heap.size + 1]? = some (.cells #[.int .i64 0, Value.slice none 0 0] 56 (0, 0)) := hX ▸ blk_put (blk_put KD.out 0 (Value.int IntKind.i64 0) rfl) 1 (Value.slice none 0 0) rfl
    have hXB := wb (g := w.heap.size + 1) hX.symm HB.out (by omega)
    try rw [hX]
    have c0' := (blk_cell hXg 0).trans rfl
    have c1' := (blk_cell hXg 1).trans rfl
    refine bodyPost_ret (v := .tuple #[.agg #[.int .i64 0, .slice none 0 0], .int .i64 60]) ?_ rfl ⟨_, rfl, Kd.S_nil _ _ _ _ _, hXB⟩
    simp [results, Tryd.f45, go_sem, c0', c1']
theorem bitset_Both.calls (k : Nat) (a0_0 : Int) (A0_1 : Option Addr) (c0_1 : Nat) (l0_1 : List (S24)) (r1 : Int) (r2 : List (S24)) (r3 : Int) (w : World) (hr0_1 : Kd.C k24 w A0_1 l0_1.length l0_1) (hc0_1 : l0_1.length ≤ c0_1) (hG : Tz w) (h : bitset_Both.f k a0_0 l0_1 = some (r1, r2, r3)) :
    Calls Tryd.prog 45 #[.agg #[.int .i64 a0_0, .slice A0_1 l0_1.length c0_1]] w fun e w' => ∃ v1_ : Value, e = .returned (.tuple #[.agg #[.int .i64 r1, v1_], .int .i64 r3]) ∧ Kd.S k24 24 w' w.heap.size (fun _ => True) v1_ r2 ∧ Below w.heap.size w w' := by
  unfold bitset_Both.f at h
  by_cases hg : Goods l0_1 ∧ l0_1.length ≤ 9223372036854775807
  · rw [if_pos hg] at h
    obtain ⟨b, hM, h⟩ := Option.bind_eq_some_iff.1 h
    cases b with
    | true =>
      have hT : TabP a0_0 l0_1 := tabp_true.1 (MayTable_is hg.1 hg.2 hM).symm
      rw [if_pos rfl] at h
      by_cases hn : a0_0 = (l0_1.length : Int)
      · rw [if_pos hn] at h
        obtain ⟨t, hTu, h⟩ := Option.bind_eq_some_iff.1 h
        subst hn
        have hR : RowsAre l0_1.length l0_1.length (fun x j => hb (l0_1.getD x ⟨0, []⟩).f1 j) l0_1 := by have := RowsAre.of hT hg.1; rwa [Int.toNat_natCast] at this
        obtain ⟨rows, hR2, hE⟩ := Turn_rows hT.2.2.1 hT.2.2.1 hR
        have ht := Ev.eq (Ev.of (bitset_Turn.mono _ _) hTu) hE
        subst ht
        simp only [Option.some.injEq, Prod.mk.injEq] at h
        obtain ⟨rfl, rfl, rfl⟩ := h
        exact Both_yes k A0_1 c0_1 l0_1 rows w hr0_1 hc0_1 hG hT hM hTu hR2.rok
      · rw [if_neg hn] at h
        cases h
        exact Both_no k a0_0 A0_1 c0_1 l0_1 w hr0_1 hc0_1 true (fun _ => hn) hM
    | false =>
      rw [if_neg (by decide)] at h
      cases h
      exact Both_no k a0_0 A0_1 c0_1 l0_1 w hr0_1 hc0_1 false (fun h => by cases h) hM
  · rw [if_neg hg] at h; cases h
end Go.Proofs.YtjmkhdhffmlhiaaDoor.PAll
end
section
namespace Go.Proofs.YtjmkhdhffmlhiaaDoor.PAll
open Go.RowKit Go.Proofs.YtjmkhdhffmlhiaaDoorW.PrintWords Go.Proofs.YtjmkhdhffmlhiaaDoorW.PrintLast Go.Proofs.YtjmkhdhffmlhiaaDoorW.PrintMore
attribute [local go_sem] max2_int min2_int max_two min_two max_three min_three max_four min_four w64_u8 w64_mod256   -- for this text's walks alone
set_option linter.unusedVariables false
set_option linter.unusedSimpArgs false
end Go.Proofs.YtjmkhdhffmlhiaaDoor.PAll
end
section
namespace Go.Proofs.YtjmkhdhffmlhiaaDoor.PAll
set_option linter.unusedVariables false
open Go.RowKit Go.Proofs.YtjmkhdhffmlhiaaDoorW.PrintWords Go.Proofs.YtjmkhdhffmlhiaaDoorW.PrintMore
theorem sameTable_l0 (n : Int) (l : List S24) (hl : l.length ≤ 9223372036854775806) (hg : ∀ s ∈ l, s.f1.length ≤ 9223372036854775807) : ∀ d i : Nat, i + d = l.length → Ev (fun k => slopelaw3_sameTable.l0 k (i : Int) n l n l) true
  | 0, i, h => ⟨1, fun k hk => by
    obtain ⟨k, rfl⟩ : ∃ j, k = j + 1 := ⟨k - 1, by omega⟩
    show slopelaw3_sameTable.l0 (k + 1) (i : Int) n l n l = _
    rw [slopelaw3_sameTable.l0, if_neg (by omega)]⟩
  | d + 1, i, h => by
    obtain ⟨K1, h1⟩ := sameTable_l0 n l hl hg d (i + 1) (by omega)
    have hi : i < l.length := by omega
    obtain ⟨K2, h2⟩ := same_ev (rd_T24 l (i : Int)).f0 (rd_T24 l (i : Int)).f1 (by rw [rdT_nat l hi]; exact hg _ (List.getElem_mem hi))
    refine ⟨K1 + K2 + 1, fun k hk => ?_⟩
    obtain ⟨k, rfl⟩ : ∃ j, k = j + 1 := ⟨k - 1, by omega⟩
    have h3 := h1 k (by omega)
    have h4 := h2 k (by omega)
    simp only at h3 h4
    show slopelaw3_sameTable.l0 (k + 1) (i : Int) n l n l = _
    rw [slopelaw3_sameTable.l0, if_pos (by omega), if_pos (by omega), if_pos (by omega), h4, Option.bind_some, if_pos rfl, show wrap64 ((i : Int) + 1) = ((i + 1 : Nat) : Int) from by rw [w64_nat (by omega) (by omega)]; omega]
    exact h3
theorem sameTable_ev (n : Int) (l : List S24) (hl : l.length ≤ 9223372036854775806) (hg : ∀ s ∈ l, s.f1.length ≤ 9223372036854775807) : Ev (fun k => slopelaw3_sameTable.f k n l n l) true := by
  obtain ⟨K, h⟩ := sameTable_l0 n l hl hg l.length 0 (by omega)
  refine ⟨K + 1, fun k hk => ?_⟩
  obtain ⟨k, rfl⟩ : ∃ j, k = j + 1 := ⟨k - 1, by omega⟩
  have h3 := h k (by omega)
  simp only at h3
  show slopelaw3_sameTable.f (k + 1) n l n l = _
  unfold slopelaw3_sameTable.f
  rw [if_pos rfl, bne_self_eq_false, slopelaw3_sameTable.j0, if_neg (by decide)]
  exact h3
theorem RowsAre.same {n m : Nat} (hn : n ≤ 4096) (hm : m ≤ 4096) {p : Nat → Nat → Bool} {l : List S24} (h : RowsAre n m p l) (x : Int) : Ev (fun k => slopelaw3_sameTable.f k x l x l) true :=
  sameTable_ev x l (by rw [h.1]; omega) (fun s hs => ((h.tab hn hm).2 s hs).2)
theorem Both_far {n : Int} {l : List S24} (hT : TabP n l) (hg : Goods l) (hl : l.length ≤ 9223372036854775807) (hn : n ≠ (l.length : Int)) : Ev (fun k => bitset_Both.f k n l) (0, [], 60) := by
  obtain ⟨K, hM⟩ := MayTable_eq n l hl hg
  refine ⟨K, fun k hk => ?_⟩
  show bitset_Both.f k n l = _
  unfold bitset_Both.f
  have := hM k hk
  simp only at this
  rw [if_pos ⟨hg, hl⟩, this, tabp_true.2 hT, Option.bind_some, if_pos rfl, if_neg hn]
theorem Product_far {n m : Int} {l lb : List S24} (hT : TabP n l) (hg : Goods l) (hl : l.length ≤ 9223372036854775807) (hTb : TabP m lb) (hgb : Goods lb) (hlb : lb.length ≤ 9223372036854775807) (hn : n ≠ (lb.length : Int)) : Ev (fun k => bitset_Product.f k n l m lb) (0, [], 60) := by
  obtain ⟨K, hM⟩ := MayTable_eq n l hl hg
  obtain ⟨K2, hM2⟩ := MayTable_eq m lb hlb hgb
  refine ⟨K + K2, fun k hk => ?_⟩
  show bitset_Product.f k n l m lb = _
  unfold bitset_Product.f
  have h1 := hM k (by omega)
  have h2 := hM2 k (by omega)
  simp only at h1 h2
  rw [if_pos ⟨⟨hg, hl⟩, hgb, hlb⟩, h1, tabp_true.2 hT, Option.bind_some, if_pos rfl, h2, tabp_true.2 hTb, Option.bind_some, if_pos rfl, if_neg hn]
end Go.Proofs.YtjmkhdhffmlhiaaDoor.PAll
end
section
namespace Go.Proofs.YtjmkhdhffmlhiaaDoor.PAll
set_option linter.unusedVariables false
set_option linter.unusedSimpArgs false
open Go.RowKit Go.Proofs.YtjmkhdhffmlhiaaDoorW.PrintWords Go.Proofs.YtjmkhdhffmlhiaaDoorW.PrintMore
theorem RowsAre.row {n m : Nat} {p : Nat → Nat → Bool} {rows : List S24} (h : RowsAre n m p rows) {i : Nat} (hi : i < n) : (rd_T24 rows (i : Int)).f0 = (m : Int) ∧ Is m (p i) (rd_T24 rows (i : Int)).f1 := by
  have hil : i < rows.length := by rw [h.1]; exact hi
  rw [rdT_nat rows hil]
  exact h.2 i hil
theorem RowsAre.snoc {i m : Nat} {p : Nat → Nat → Bool} {acc : List S24} (h : RowsAre i m p acc) {ws : List Int} (hw : Is m (p i) ws) : RowsAre (i + 1) m p (acc ++ [⟨(m : Int), ws⟩]) := by
  refine ⟨by simp [h.1], fun x hx => ?_⟩
  by_cases hxi : x < acc.length
  · rw [List.getElem_append_left hxi]; exact h.2 x hxi
  · obtain rfl : x = acc.length := by simp at hx; omega
    simp only [List.getElem_concat_length]
    rw [h.1]
    exact ⟨trivial, hw⟩
def next (x y : Nat) : Bool := decide (y = x + 1)
theorem w1 {i n : Nat} (hn : n ≤ 4096) (hi : i < n) : wrap64 ((i : Int) + 1) = ((i + 1 : Nat) : Int) := by rw [w64_nat (by omega) (by omega)]; omega
end Go.Proofs.YtjmkhdhffmlhiaaDoor.PAll
end
section
namespace Go.Proofs.YtjmkhdhffmlhiaaDoor.PAll
open Go.RowKit Go.Proofs.YtjmkhdhffmlhiaaDoorW.PrintWords Go.Proofs.YtjmkhdhffmlhiaaDoorW.PrintLast Go.Proofs.YtjmkhdhffmlhiaaDoorW.PrintMore
attribute [local go_sem] max2_int min2_int max_two min_two max_three min_three max_four min_four w64_u8 w64_mod256   -- for this text's walks alone
set_option linter.unusedVariables false
set_option linter.unusedSimpArgs false
def sloperef3_add.l0 : Nat → List Bool → Int → Int → List Int → Option (List Bool)
  | 0, _, _, _, _ => none
  | k + 1, x0, x4, x102000, x102001 => if x4 < x102000 then ((sloperef3_In.f x102000 x102001 x4).bind fun t102 => (if t102 = true then (if 0 ≤ x4 then (if x4 < (x0.length : Int) then (sloperef3_add.l0 k (x0.set (x4 : Int).toNat true) (wrap64 (x4 + 1)) x102000 x102001) else (none)) else (none)) else (sloperef3_add.l0 k x0 (wrap64 (x4 + 1)) x102000 x102001))) else (some x0)
def sloperef3_add.f (k : Nat) (l0 : List Bool) (a1_0 : Int) (l1_1 : List Int) : Option (List Bool) := sloperef3_add.l0 k l0 0 a1_0 l1_1
set_option maxHeartbeats 8000000 in
set_option maxRecDepth 100000 in
theorem sloperef3_add.calls (k : Nat) (P0_ : Nat → Prop) (u9000_ : Value) (l0 : List Bool) (a1_0 : Int) (A1_1 : Option Addr) (c1_1 : Nat) (l1_1 : List Int) (r : List Bool) (w0 w : World) (hB : Below w0.heap.size w0 w) (ho0 : Kd.R Kd.bool 4 w w0.heap.size P0_ u9000_ l0) (hr1_1 : ∀ W_, Kept w W_ (fun k_ => P0_ k_) → Kd.C (Kd.int .u64) W_ A1_1 l1_1.length l1_1) (hc1_1 : l1_1.length ≤ c1_1) (h : sloperef3_add.f k l0 a1_0 l1_1 = some r) :
    Calls Tryd.prog 95 #[u9000_, .agg #[.int .i64 a1_0, .slice A1_1 l1_1.length c1_1]] w fun e w' => e = .returned (.tuple #[]) ∧ Kd.R Kd.bool 4 w' w0.heap.size (fun k_ => (P0_ k_ ∨ w.heap.size ≤ k_)) u9000_ r ∧ Below w0.heap.size w0 w' ∧ Kept w w' (fun k_ => P0_ k_) := by
  have hu24 := Tryd.underlying24
  have HO0 := Aside0.mk (show Kd.R Kd.bool 4 w w0.heap.size (fun k_ => (P0_ k_ ∨ w.heap.size ≤ k_)) u9000_ l0 from Kd.R_mono ho0 (fun k_ hk => (.inl hk)))
  have HR1_1 := Aside0.mk hr1_1
  have HC1_1 := Aside0.mk hc1_1
  clear hr1_1 hc1_1
  have HK := Aside0.mk (Kept.refl w (fun k_ => P0_ k_))
  have HW0 := Aside0.mk hB.size
  have HB := Aside0.mk hB
  clear hB
  have H : (sloperef3_add.l0 k l0 0 a1_0 l1_1) = some r := h
  clear h
  have H' := Aside0.mk H
  clear H
  go_enter Tryd.func95, Tryd.ntmps95
  go_wp2_with (first | ((with_reducible refine gate_dst (N := 3) rfl ?_); refine box_event ?hg (N := 3) ?hd (cs := #[.int .i64 a1_0, .slice A1_1 l1_1.length c1_1]) (t := 24) ?hr ?_; (case hd => rfl); (case hg => rfl); (case hr => first | (go_simp; done) | (go_simp; rfl)); intro gb101 hg w3 hbox hb; have n0_ := Aside0.mk (Kd.R_below (by (with_reducible repeat (first | apply Kd.R_alloc | apply Kd.R_drewN | apply Kd.R_drew)); exact HO0.out) hb); have n1_ := Aside0.mk (Kept.below (S := (fun k_ => P0_ k_)) (by repeat (first | (with_reducible first | exact HK.out | apply Kept.alloc | apply Kept.drewN | apply Kept.drew) | exact HK.out)) hb); have n2_ := Aside0.mk (below_step (by repeat (first | (with_reducible first | exact HB.out | apply below_alloc | apply pw_below_drewN | apply below_drew1) | exact HB.out)) hb); have n3_ := Aside0.mk (hbox); have n4_ := Aside0.mk ((by rw [hg]; exact (by first | exact HK.out.1 | exact (show Kept w _ (fun k_ => P0_ k_) from by repeat (first | (with_reducible first | exact HK.out | apply Kept.alloc | apply Kept.drewN | apply Kept.drew) | exact HK.out)).1) : w.heap.size ≤ gb101)); have n5_ := Aside0.mk ((by rw [hg]; exact (below_size (by repeat (first | (with_reducible first | exact HB.out | apply below_alloc | apply pw_below_drewN | apply below_drew1) | exact HB.out))) : w0.heap.size ≤ gb101)); clear HO0; clear HK; clear HB; have HO0 := n0_; have HK := n1_; have HB := n2_; have BK101 := n3_; have GW101 := n4_; have GE101 := n5_; clear n0_ n1_ n2_ n3_ n4_ n5_; clear hb hbox hg))
  go_loopg [4] k (fun kq v4 w' => ∃ (x0_1 : List Bool) (x4_1 : Int), v4 = .int .i64 x4_1 ∧ Aside0 (sloperef3_add.l0 kq x0_1 x4_1 a1_0 l1_1 = some r) ∧ Aside0 (kq ≤ k) ∧ Aside0 (Kd.R Kd.bool 4 w' w0.heap.size (fun k_ => (P0_ k_ ∨ w.heap.size ≤ k_)) u9000_ x0_1) ∧ Aside0 (w'.heap[gb101]? = some (.cells #[.int .i64 a1_0, (.slice A1_1 l1_1.length c1_1)] 24 (0, 0))) ∧ Aside0 (Kept w w' (fun k_ => P0_ k_)) ∧ Aside0 (Below w0.heap.size w0 w'))
  case atStart => exact ⟨(l0), (0), (by first | rfl | (simp; done) | (simp [*]; done)), H', ⟨Nat.le_refl _⟩, ⟨by (with_reducible repeat (first | apply Kd.R_alloc | apply Kd.R_drewN | apply Kd.R_drew)); exact HO0.out⟩, ⟨by (with_reducible repeat (first | refine blk_drewN ?_ _ | refine blk_drew ?_ | refine blk_alloc ?_ _)); exact BK101.out⟩, ⟨by repeat (first | (with_reducible first | exact HK.out | apply Kept.alloc | apply Kept.drewN | apply Kept.drew | refine Kept.setCell ?_ (.inr GW101.out) _) | exact HK.out)⟩, ⟨by repeat (first | (with_reducible first | exact HB.out | apply below_alloc | apply pw_below_drewN | apply below_drew1 | refine below_set ?_ GE101.out) | exact HB.out)⟩⟩
  case round =>
    clear H'
    try clear c1
    try clear p2
    obtain ⟨x0_1, x4_1, rfl, HA, HK1, HO_0, BK101, HK, HB⟩ := hrel
    cases gk with
    | zero => exact absurd HA.out (by simp [sloperef3_add.l0])
    | succ k1 =>
      have H := HA.out
      clear HA
      simp only [sloperef3_add.l0] at H
      by_cases c4 : x4_1 < a1_0
      · rw [if_pos c4] at H
        have c4b0 : decide (x4_1 < a1_0) = true := decide_eq_true c4
        clear c4
        replace H := Option.bind_eq_some_iff.mp H
        obtain ⟨t102, A50, H⟩ := H
        replace H : (if t102 = true then (if 0 ≤ x4_1 then (if x4_1 < (x0_1.length : Int) then (sloperef3_add.l0 k1 (x0_1.set (x4_1 : Int).toNat true) (wrap64 (x4_1 + 1)) a1_0 l1_1) else (none)) else (none)) else (sloperef3_add.l0 k1 x0_1 (wrap64 (x4_1 + 1)) a1_0 l1_1)) = some r := H
        have A5 := Aside0.mk A50
        clear A50
        by_cases c6 : t102 = true
        · subst c6
          have H1 : (if 0 ≤ x4_1 then (if x4_1 < (x0_1.length : Int) then (sloperef3_add.l0 k1 (x0_1.set (x4_1 : Int).toNat true) (wrap64 (x4_1 + 1)) a1_0 l1_1) else (none)) else (none)) = some r := by rw [if_pos rfl] at H; exact H
          clear H
          have H := H1
          clear H1
          by_cases c7 : 0 ≤ x4_1
          · rw [if_pos c7] at H
            have c7b0 : decide (0 ≤ x4_1) = true := decide_eq_true c7
            clear c7
            by_cases c8 : x4_1 < (x0_1.length : Int)
            · rw [if_pos c8] at H
              have c8b0 : decide (x4_1 < (x0_1.length : Int)) = true := decide_eq_true c8
              clear c8
              obtain ⟨y103, hy103⟩ : ∃ y_ : List Bool, y_ = (x0_1.set (x4_1 : Int).toNat true) := ⟨_, rfl⟩
              replace H : (sloperef3_add.l0 k1 y103 (wrap64 (x4_1 + 1)) a1_0 l1_1) = some r := by first | (rw [hy103]; with_reducible exact H) | (have H2_ := (Option.bind_some _ _).symm.trans H; rw [hy103]; with_reducible exact H2_) | (have H2_ := (Option.bind_some _ _).symm.trans H; with_reducible exact H2_) | with_reducible exact H | (rw [hy103]; exact H) | exact H
              have Ny103 := Aside0.mk hy103
              clear hy103
              have H' := Aside0.mk H
              clear H
              have hcz10_0 : wr.cell? ⟨gb101, 0, none⟩ = some (.int .i64 a1_0) := (blk_cell BK101.out 0).trans rfl
              have hcz10_1 : wr.cell? ⟨gb101, 1, none⟩ = some (.slice A1_1 l1_1.length c1_1) := (blk_cell BK101.out 1).trans rfl
              have hfz10_0 := blk_frozen BK101.out 0
              have hfz10_1 := blk_frozen BK101.out 1
              go_wp2_with (first | ((with_reducible refine gate_callee (f := 74) rfl ?_); refine goesL_ (some 13) rfl rfl Tryd.func74 (by kernel_rfl) rfl #[.agg #[.int .i64 a1_0, .slice A1_1 l1_1.length c1_1], .int .i64 x4_1] rfl (by (try simp only [List.map_toArray, List.map_cons, List.map_nil]); first | done | rfl | (simp only [List.length_drop, List.length_take]; rfl)) ?_; (with_reducible refine (sloperef3_In.calls a1_0 _ _ l1_1 x4_1 true _ ?side1 ?side2 A5.out).mono ?_); (case side1 => exact Kd.C_kept_now HR1_1.out (by repeat (first | (with_reducible first | exact HK.out | apply Kept.alloc | apply Kept.drewN | apply Kept.drew | refine Kept.setCell ?_ (.inr GW101.out) _) | exact HK.out))); (case side2 => exact HC1_1.out); rintro e w11 ⟨rfl, hb⟩; refine ⟨_, rfl, ?_⟩; have n0_ := Aside0.mk (Kd.R_below (by (with_reducible repeat (first | apply Kd.R_alloc | apply Kd.R_drewN | apply Kd.R_drew)); exact HO_0.out) hb); have n1_ := Aside0.mk (blk_below (g := gb101) (o := .cells #[.int .i64 a1_0, .slice A1_1 l1_1.length c1_1] 24 (0, 0)) (by (with_reducible repeat (first | refine blk_drewN ?_ _ | refine blk_drew ?_ | refine blk_alloc ?_ _)); exact BK101.out) hb); have n2_ := Aside0.mk (Kept.below (S := (fun k_ => P0_ k_)) (by repeat (first | (with_reducible first | exact HK.out | apply Kept.alloc | apply Kept.drewN | apply Kept.drew | refine Kept.setCell ?_ (.inr GW101.out) _) | exact HK.out)) hb); have n3_ := Aside0.mk (below_step (by repeat (first | (with_reducible first | exact HB.out | apply below_alloc | apply pw_below_drewN | apply below_drew1 | refine below_set ?_ GE101.out) | exact HB.out)) hb); clear HO_0; clear BK101; clear HK; clear HB; have HO_0 := n0_; have BK101 := n1_; have HK := n2_; have HB := n3_; clear n0_ n1_ n2_ n3_; (try clear hb); (try clear hb2); (try clear hk); (try clear hi); have p9 : 0 ≤ (x4_1 : Int) := of_decide_eq_true (by first | (with_reducible assumption) | assumption); have q9 : (x4_1 : Int) < ((x0_1.length : Int) : Int) := of_decide_eq_true (by first | (with_reducible assumption) | assumption); obtain ⟨go9, co9, eo9, gb9, gl9, cl9, HG9⟩ := Kd.R_form HO_0.out (by omega); (first | cases eo9 | (injection eo9 with ea_ en_ ec_; (first | subst ea_ | (injection ea_ with ea_; subst ea_)); subst ec_; clear en_)); have GB9 := Aside0.mk gb9; have GG9 := Aside0.mk HG9; clear gb9 gl9 HG9; have HMgo9 := Aside0.mk (show (P0_ go9 ∨ w.heap.size ≤ go9) from (HO_0.out.1 _ rfl)); obtain ⟨hx9_0, hf9_0⟩ := Kd.R_celln false HO_0.out (x4_1 : Int) p9 q9; replace p9 := eq_true p9; replace q9 := eq_true q9; obtain ⟨hy12_, hz12_⟩ := Kd.R_celln false HO_0.out (x4_1 : Int) (of_decide_eq_true (by first | (with_reducible assumption) | assumption)) (of_decide_eq_true (by first | (with_reducible assumption) | assumption)); have HP12 := Kd.R_putg HO_0.out (x4_1 : Int) true) | ((with_reducible refine gate_store (t := 4) (p := 16) rfl ?_); refine store_event (t := 4) (p := 16) (v := ?vo_w13) (w1 := (w11.setCell ⟨go9, (x4_1 : Int).toNat, none⟩ (.bool true))) ?hg ?ho ?hn ?hr ?_; (case ho => rfl); (case hg => rfl); (case hn => rfl); (case hr => first | (go_simp; done) | (go_simp; rfl)); intro w13 hw; have hg : w11.grownBy w13 (some go9) := (by rw [hw]; exact HP12.2); have hp_ : Kd.R Kd.bool 4 w13 w0.heap.size (fun k_ => (P0_ k_ ∨ w.heap.size ≤ k_)) (.slice (some ⟨go9, 0, none⟩) x0_1.length co9) y103 := (by rw [hw, Ny103.out]; exact HP12.1); clear HP12; have n0_ := Aside0.mk (hp_); have n1_ := Aside0.mk (blk_grown (g := gb101) (o := .cells #[.int .i64 a1_0, .slice A1_1 l1_1.length c1_1] 24 (0, 0)) (by (with_reducible repeat (first | refine blk_drewN ?_ _ | refine blk_drew ?_ | refine blk_alloc ?_ _)); exact BK101.out) hg (Kd.R_ne HO_0.out BK101.out (by decide))); have n2_ := Aside0.mk ((by rw [hw]; exact below_set (HB.out) GB9.out : Below w0.heap.size w0 w13)); have n3_ := Aside0.mk (Kept.of_grown (S := (fun k_ => P0_ k_)) hg (by repeat (first | (with_reducible first | exact HK.out | apply Kept.alloc | apply Kept.drewN | apply Kept.drew | refine Kept.setCell ?_ (.inr GW101.out) _) | exact HK.out)) (fun k_ e_ => (HO_0.out.1 k_ e_))); clear HO_0; clear BK101; clear HB; clear HK; have HO_0 := n0_; have BK101 := n1_; have HB := n2_; have HK := n3_; clear n0_ n1_ n2_ n3_; clear hg hw hp_))
              go_roundg k1
              case measure => have := HK1.out; omega
              case rel => exact ⟨(y103), (wrap64 (x4_1 + 1)), (by first | rfl | (simp; done) | (simp [*]; done)), H', ⟨by have := HK1.out; omega⟩, ⟨by (with_reducible repeat (first | apply Kd.R_alloc | apply Kd.R_drewN | apply Kd.R_drew)); exact HO_0.out⟩, ⟨by (with_reducible repeat (first | refine blk_drewN ?_ _ | refine blk_drew ?_ | refine blk_alloc ?_ _)); exact BK101.out⟩, ⟨by repeat (first | (with_reducible first | exact HK.out | apply Kept.alloc | apply Kept.drewN | apply Kept.drew | refine Kept.setCell ?_ (.inr GW101.out) _) | exact HK.out)⟩, ⟨by repeat (first | (with_reducible first | exact HB.out | apply below_alloc | apply pw_below_drewN | apply below_drew1 | refine below_set ?_ GE101.out) | exact HB.out)⟩⟩
            · rw [if_neg c8] at H
              exact absurd H (by simp)
          · rw [if_neg c7] at H
            exact absurd H (by simp)
        · replace c6 := Bool.eq_false_iff.mpr c6
          subst c6
          have H1 : (sloperef3_add.l0 k1 x0_1 (wrap64 (x4_1 + 1)) a1_0 l1_1) = some r := by rw [if_neg (show ¬ (false = true) by decide)] at H; exact H
          clear H
          have H := H1
          clear H1
          have H' := Aside0.mk H
          clear H
          have hcz14_0 : wr.cell? ⟨gb101, 0, none⟩ = some (.int .i64 a1_0) := (blk_cell BK101.out 0).trans rfl
          have hcz14_1 : wr.cell? ⟨gb101, 1, none⟩ = some (.slice A1_1 l1_1.length c1_1) := (blk_cell BK101.out 1).trans rfl
          have hfz14_0 := blk_frozen BK101.out 0
          have hfz14_1 := blk_frozen BK101.out 1
          go_wp2_with (first | ((with_reducible refine gate_callee (f := 74) rfl ?_); refine goesL_ (some 13) rfl rfl Tryd.func74 (by kernel_rfl) rfl #[.agg #[.int .i64 a1_0, .slice A1_1 l1_1.length c1_1], .int .i64 x4_1] rfl (by (try simp only [List.map_toArray, List.map_cons, List.map_nil]); first | done | rfl | (simp only [List.length_drop, List.length_take]; rfl)) ?_; (with_reducible refine (sloperef3_In.calls a1_0 _ _ l1_1 x4_1 false _ ?side1 ?side2 A5.out).mono ?_); (case side1 => exact Kd.C_kept_now HR1_1.out (by repeat (first | (with_reducible first | exact HK.out | apply Kept.alloc | apply Kept.drewN | apply Kept.drew | refine Kept.setCell ?_ (.inr GW101.out) _) | exact HK.out))); (case side2 => exact HC1_1.out); rintro e w15 ⟨rfl, hb⟩; refine ⟨_, rfl, ?_⟩; have n0_ := Aside0.mk (Kd.R_below (by (with_reducible repeat (first | apply Kd.R_alloc | apply Kd.R_drewN | apply Kd.R_drew)); exact HO_0.out) hb); have n1_ := Aside0.mk (blk_below (g := gb101) (o := .cells #[.int .i64 a1_0, .slice A1_1 l1_1.length c1_1] 24 (0, 0)) (by (with_reducible repeat (first | refine blk_drewN ?_ _ | refine blk_drew ?_ | refine blk_alloc ?_ _)); exact BK101.out) hb); have n2_ := Aside0.mk (Kept.below (S := (fun k_ => P0_ k_)) (by repeat (first | (with_reducible first | exact HK.out | apply Kept.alloc | apply Kept.drewN | apply Kept.drew | refine Kept.setCell ?_ (.inr GW101.out) _) | exact HK.out)) hb); have n3_ := Aside0.mk (below_step (by repeat (first | (with_reducible first | exact HB.out | apply below_alloc | apply pw_below_drewN | apply below_drew1 | refine below_set ?_ GE101.out) | exact HB.out)) hb); clear HO_0; clear BK101; clear HK; clear HB; have HO_0 := n0_; have BK101 := n1_; have HK := n2_; have HB := n3_; clear n0_ n1_ n2_ n3_; (try clear hb); (try clear hb2); (try clear hk); (try clear hi)))
          go_roundg k1
          case measure => have := HK1.out; omega
          case rel => exact ⟨(x0_1), (wrap64 (x4_1 + 1)), (by first | rfl | (simp; done) | (simp [*]; done)), H', ⟨by have := HK1.out; omega⟩, ⟨by (with_reducible repeat (first | apply Kd.R_alloc | apply Kd.R_drewN | apply Kd.R_drew)); exact HO_0.out⟩, ⟨by (with_reducible repeat (first | refine blk_drewN ?_ _ | refine blk_drew ?_ | refine blk_alloc ?_ _)); exact BK101.out⟩, ⟨by repeat (first | (with_reducible first | exact HK.out | apply Kept.alloc | apply Kept.drewN | apply Kept.drew | refine Kept.setCell ?_ (.inr GW101.out) _) | exact HK.out)⟩, ⟨by repeat (first | (with_reducible first | exact HB.out | apply below_alloc | apply pw_below_drewN | apply below_drew1 | refine below_set ?_ GE101.out) | exact HB.out)⟩⟩
      · rw [if_neg c4] at H
        have c4b0 : decide (x4_1 < a1_0) = false := decide_eq_false c4
        clear c4
        obtain rfl := Option.some.inj H
        have hcz16_0 : wr.cell? ⟨gb101, 0, none⟩ = some (.int .i64 a1_0) := (blk_cell BK101.out 0).trans rfl
        have hcz16_1 : wr.cell? ⟨gb101, 1, none⟩ = some (.slice A1_1 l1_1.length c1_1) := (blk_cell BK101.out 1).trans rfl
        have hfz16_0 := blk_frozen BK101.out 0
        have hfz16_1 := blk_frozen BK101.out 1
        go_wp2
        first | go_end0 | ((try simp only [Exit.inBlock, Exit.then]); refine bodyPost_ret (results_none rfl _ _ _) rfl ?_)
        exact ⟨by first | rfl | (simp [errW_none, errW_some] <;> rfl) | (simp [*, errW_none, errW_some] <;> rfl), by (with_reducible repeat (first | apply Kd.R_alloc | apply Kd.R_drewN | apply Kd.R_drew)); exact HO_0.out, by repeat (first | (with_reducible first | exact HB.out | apply below_alloc | apply pw_below_drewN | apply below_drew1 | refine below_set ?_ GE101.out) | exact HB.out), by repeat (first | (with_reducible first | exact HK.out | apply Kept.alloc | apply Kept.drewN | apply Kept.drew | refine Kept.setCell ?_ (.inr GW101.out) _) | exact HK.out)⟩
end Go.Proofs.YtjmkhdhffmlhiaaDoor.PAll
end
