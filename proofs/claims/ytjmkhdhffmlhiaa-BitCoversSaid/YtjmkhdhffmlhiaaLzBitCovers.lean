import Derived.Test.YtjmkhdhffmlhiaaRows
import Derived.Test.YtjmkhdhffmlhiaaBzBitCovers5
import Derived.Test.YtjmkhdhffmlhiaaBzBitCovers6
import Derived.WalkKit
import Derived.ProofKit
import Derived.OpenShut
import Derived.ShutString
import Derived.ChangeOld
import Derived.Below
import Derived.SizedLaws
import Derived.Test.YtjmkhdhffmlhiaaBzBitCovers1
/- BitCovers: the law: the walk and the plain laws, joined. No condition. -/
namespace Go.Proofs.Ytjmkhdhffmlhiaa.bitCovers
open Go.ChangeShapes Go.WideShapes Go.ChangeAt Go.RowKit
open Go.Proofs.Ytjmkhdhffmlhiaa.PAll Go.Proofs.YtjmkhdhffmlhiaaW Go.Proofs.YtjmkhdhffmlhiaaW.PrintWords
theorem own : ownKnob Try.prog.godebug = none := by kernel_rfl
theorem laidOut : laidOutB Try.prog = true := by kernel_rfl
theorem cover_len : ∀ k, (∀ acc a t n s r, acc.length ≤ 17592186044416 → bitset_Cover.l0 k acc a t n s = some r → r.1.length ≤ 17592186044416) ∧
    (∀ acc x10 x11 x47 x48 x49 a t n s r, acc.length ≤ 17592186044416 → bitset_Cover.l1 k acc x10 x11 x47 x48 x49 a t n s = some r → r.1.length ≤ 17592186044416)
  | 0 => ⟨fun _ _ _ _ _ _ _ h => by simp [bitset_Cover.l0] at h, fun _ _ _ _ _ _ _ _ _ _ _ _ h => by simp [bitset_Cover.l1] at h⟩
  | k + 1 => by
    obtain ⟨i0, i1⟩ := cover_len k
    refine ⟨?_, ?_⟩
    · intro acc a t n s r ha h
      rw [bitset_Cover.l0] at h
      obtain ⟨c, _, h⟩ := Option.bind_eq_some_iff.mp h
      by_cases hc : c > 0
      · rw [if_pos hc] at h; exact i1 _ _ _ _ _ _ _ _ _ _ _ ha h
      · rw [if_neg hc] at h; cases h; exact ha
    · intro acc x10 x11 x47 x48 x49 a t n s r ha h
      rw [bitset_Cover.l1] at h
      by_cases h1 : x49 < x48
      · rw [if_pos h1] at h
        by_cases h2 : 0 ≤ x49
        · rw [if_pos h2] at h
          by_cases h3 : x49 < (x47.length : Int)
          · rw [if_pos h3] at h
            obtain ⟨b, _, h⟩ := Option.bind_eq_some_iff.mp h
            obtain ⟨c, _, h⟩ := Option.bind_eq_some_iff.mp h
            by_cases h4 : c > x11
            · rw [if_pos h4] at h; exact i1 _ _ _ _ _ _ _ _ _ _ _ ha h
            · rw [if_neg h4] at h; exact i1 _ _ _ _ _ _ _ _ _ _ _ ha h
          · rw [if_neg h3] at h; cases h
        · rw [if_neg h2] at h; cases h
      · rw [if_neg h1] at h
        by_cases h2 : acc.length < 17592186044416
        · rw [if_pos h2] at h
          by_cases h3 : 0 ≤ x10
          · rw [if_pos h3] at h
            by_cases h4 : x10 < (t.length : Int)
            · rw [if_pos h4] at h
              obtain ⟨b, _, h⟩ := Option.bind_eq_some_iff.mp h
              exact i0 _ _ _ _ _ _ (by rw [List.length_append, List.length_singleton]; omega) h
            · rw [if_neg h4] at h; cases h
          · rw [if_neg h3] at h; cases h
        · rw [if_neg h2] at h; cases h
theorem cover_j0 (k : Nat) (x : Bool) (a : Int) (t : List S26) (n : Int) (s : List Int) (r : List Int × Int) (h : bitset_Cover.j0 k x a t n s = some r) : r.1.length ≤ 17592186044416 := by
  cases k with
  | zero => simp [bitset_Cover.j0] at h
  | succ k =>
    rw [bitset_Cover.j0] at h
    by_cases h1 : x = true
    · rw [if_pos h1] at h; cases h; simp
    · rw [if_neg h1] at h
      by_cases h2 : a = n
      · rw [if_pos h2] at h
        obtain ⟨b, _, h⟩ := Option.bind_eq_some_iff.mp h
        obtain ⟨c, _, h⟩ := Option.bind_eq_some_iff.mp h
        by_cases h3 : c = true
        · rw [if_pos h3] at h; exact (cover_len k).1 _ _ _ _ _ _ (by simp) h
        · rw [if_neg h3] at h; cases h; simp
      · rw [if_neg h2] at h; cases h; simp
theorem cover_bound (k : Nat) (a : Int) (t : List S26) (n : Int) (s : List Int) (r : List Int × Int) (h : bitset_Cover.f k a t n s = some r) : r.1.length ≤ 17592186044416 := by
  unfold bitset_Cover.f at h
  obtain ⟨b, _, h⟩ := Option.bind_eq_some_iff.mp h
  by_cases h1 : b = true
  · rw [if_pos h1] at h
    obtain ⟨c, _, h⟩ := Option.bind_eq_some_iff.mp h
    exact cover_j0 _ _ _ _ _ _ _ h
  · rw [if_neg h1] at h
    exact cover_j0 _ _ _ _ _ _ _ h
theorem alike (n : Int) (l : List S26) (m : Int) (s : List Int) (hl : l.length ≤ 9223372036854775807) (hg : Goods l) (hw : Wds s) (hs : s.length ≤ 9223372036854775807) : ∃ k rs e,
    bitset_Cover.f k n l m s = some (rs, e) ∧ sloperef3_Cover.f k n l m s = some (rs, e) ∧ slopelaw3_sameInts.f k rs rs = some true := by
  obtain ⟨⟨rs, e⟩, ⟨k1, x1⟩, ⟨k2, x2⟩⟩ := Cover_alike n l m s hl hg hw hs
  have hb : rs.length ≤ 17592186044416 := cover_bound k1 n l m s (rs, e) (x1 k1 (Nat.le_refl _))
  obtain ⟨k3, x3⟩ := same_ints rs (by omega)
  exact ⟨k1 + k2 + k3, rs, e, x1 _ (by omega), x2 _ (by omega), at_rounds (fun k => slopelaw3_sameInts.mono _ _ k) (by omega) x3⟩
set_option maxRecDepth 100000 in
theorem lifted (os : Os) (started : os.Started) (H : Type) (enc : TypeId × Value → H) :
    ReturnsInHanded {} Try.checked os 10 .any (Rows.bitCoversSpec.pre6 enc Try.prog Try.f10 Rows.bitCoversRow.domain false) (Rows.bitCoversSpec.post enc Try.prog Try.f10 false true false false) := by
  refine returnsInHanded_of_change_sized (C := Try.checked) own started (by kernel_rfl) Try.func10
    (ChangeSpec.witness6 (enc := enc) (C := Try.checked) false ⟨#[], #[.agg #[.int .i64 0, .slice none 0 0], .agg #[.int .i64 0, .slice none 0 0]], []⟩ 8 (by kernel_rfl) (by kernel_rfl) (by kernel_rfl) (by kernel_rfl)) ?_
  intro W base args ds gs before hval0 hW hcnd hsz0 _
  have hsz : (DataW.weightsEach Try.prog (Try.f10.params.toList ++ Rows.bitCoversSpec.plain.varTypes Try.prog) (ds ++ gs)).all (· ≤ reachBytes) = true := hsz0
  have hval : ∀ (j : Nat) t v, Try.f10.params[j]? = some t → args[j]? = some v → Value.okWide Try.prog W .any base t v := hval0
  have hW' := hW
  obtain ⟨p, q, hA0, hV, rfl, hfz, hnd⟩ := hW
  have hA : DataW.TrodAll enc Try.prog W 0 (fun _ => true) true Try.f10.params.toList args.toList ds p := hA0
  rw [Try.params10] at hA hval hsz
  obtain ⟨v0, vs0, d0, ds0, p0, q0, hargs, rfl, rfl, h0, r0⟩ := trodAll_cons hA
  obtain ⟨v1, vs1, d1, ds1, p1, q1, rfl, rfl, rfl, h1, r1⟩ := trodAll_cons r0
  obtain ⟨rfl, rfl, rfl⟩ := trodAll_nil r1
  obtain rfl : args = #[v0, v1] := by cases args; simp_all
  obtain ⟨rfl, rfl⟩ := trodVars_none hV
  have k0 := h0
  have lt0 : ∀ x ∈ p0, x.block < W.heap.size := by obtain ⟨m, hm⟩ := k0; exact DataW.trod_lt m _ _ _ hm
  obtain ⟨n0, A0, c0, l0, rfl, hc0, hr0, w0, g0, y0⟩ := open_table (hval 0 40 v0 rfl rfl) h0 hsz (j := 0) rfl rfl
  have k1 := h1
  have lt1 : ∀ x ∈ p1, x.block < W.heap.size := by obtain ⟨m, hm⟩ := k1; exact DataW.trod_lt m _ _ _ hm
  obtain ⟨n1, A1, c1, l1, rfl, hc1, hr1, g1⟩ := open_set (hval 1 26 v1 rfl rfl) h1 hsz (j := 1) rfl rfl
  clear hA0 hval0 hsz0 hsz
  have q1 : l1.length * 8 ≤ 140737488351232 := g1.2.2
  obtain ⟨k, rs, e1, z1, z2, z3⟩ := alike n0 l0 n1 l1 (by omega) (Goods.of g0) g1.2.1 (by omega)
  refine (BitCovers_walk n0 A0 c0 l0 n1 A1 c1 l1 W hr0 hc0 y0 (fun x hx => (g0 x hx).2.2) hr1 hc1 q1 k rs e1 z1 z2 z3).mono fun e W' ⟨he, bel⟩ => ?_
  subst he
  exact ⟨_, rfl, _, _, _, [], _, [], hW', trodAll_mk1 (shut_bool Try.underlying4 _), (trodAll_cons_mk (Below.trod laidOut (by kernel_rfl) (of_decide_eq_true (by kernel_rfl)) k0 bel lt0) (trodAll_cons_mk (Below.trod laidOut (by kernel_rfl) (of_decide_eq_true (by kernel_rfl)) k1 bel lt1) trodAll_mk0)), rfl, bel.frame _, fun h => by cases h⟩
theorem over : Rows.bitCoversRow.holds Try.pinned (OpenSpec.ofChange Rows.bitCoversSpec) :=
  OpenClaim.holds_of_wide 10 Try.f10 rfl rfl rfl rfl rfl rfl rfl ⟨rfl, rfl, rfl, rfl, rfl⟩ rfl rfl rfl rfl rfl (by kernel_rfl) Try.func10 (by kernel_rfl)
    (of_decide_eq_true (by kernel_rfl)) (by unfold Func.isWrapper; first | (rw [if_pos (by decide +kernel)]; kernel_rfl) | (rw [if_neg (by decide +kernel)]; exact ⟨rfl, rfl⟩))
    (fun os started H enc _ => lifted os started H enc)
theorem proved : Rows.BitCoversSaid := over
#print axioms proved
end Go.Proofs.Ytjmkhdhffmlhiaa.bitCovers
namespace Go.Proofs.Ytjmkhdhffmlhiaa
theorem bitCovers_holds : Rows.BitCoversSaid := bitCovers.proved
end Go.Proofs.Ytjmkhdhffmlhiaa
