import Derived.Test.YtjmkhdhffmlhiaaRows
import Derived.Test.YtjmkhdhffmlhiaaBzBitPairs6
import Derived.Test.YtjmkhdhffmlhiaaBzBitPairs7
import Derived.WalkKit
import Derived.ProofKit
import Derived.OpenShut
import Derived.ShutString
import Derived.ChangeOld
import Derived.Below
import Derived.SizedLaws
import Derived.Test.YtjmkhdhffmlhiaaBzBitPairs1
/- BitPairs: the law: the walk and the plain laws, joined. No condition. -/
namespace Go.Proofs.Ytjmkhdhffmlhiaa.bitPairs
open Go.ChangeShapes Go.WideShapes Go.ChangeAt Go.RowKit
open Go.Proofs.Ytjmkhdhffmlhiaa.PAll Go.Proofs.YtjmkhdhffmlhiaaW Go.Proofs.YtjmkhdhffmlhiaaW.PrintWords
theorem own : ownKnob Try.prog.godebug = none := by kernel_rfl
theorem laidOut : laidOutB Try.prog = true := by kernel_rfl
theorem alike (a : Int) (la : List Int) (b : Int) (lb : List Int) (hwa : Wds la) (hwb : Wds lb) (hla : la.length ≤ 9223372036854775807) (hlb : lb.length ≤ 9223372036854775807) : ∃ k s1 ws1 e1 s2 ws2 e2 s3 ws3 e3 bx by_ bz cc,
    bitset_Minus.f k a la b lb = some (s1, ws1, e1) ∧ sloperef3_Minus.f k a la b lb false = some (s1, ws1, e1) ∧ bitset_Differ.f k a la b lb = some (s2, ws2, e2) ∧ sloperef3_Minus.f k a la b lb true = some (s2, ws2, e2) ∧
    bitset_Rest.f k a la = some (s3, ws3, e3) ∧ sloperef3_Rest.f k a la = some (s3, ws3, e3) ∧
    sloperef3_Related.f k a la b lb = some (bx, by_, bz) ∧ bitset_Equal.f k a la b lb = some bx ∧ bitset_Subset.f k a la b lb = some by_ ∧ bitset_Disjoint.f k a la b lb = some bz ∧ bitset_Compare.f k a la b lb = some cc ∧ sloperef3_Compare.f k a la b lb = some cc ∧
    slopelaw3_same.f k s1 ws1 s1 ws1 = some true ∧ slopelaw3_same.f k s2 ws2 s2 ws2 = some true ∧ slopelaw3_same.f k s3 ws3 s3 ws3 = some true := by
  have m1 : minb false = fun x y => x && !y := by funext x y; cases x <;> cases y <;> rfl
  have m2 : minb true = fun x y => x != y := by funext x y; cases x <;> cases y <;> rfl
  obtain ⟨⟨s1, ws1, e1⟩, h1, k1, x1⟩ := Minus_eq a la b lb hwa hwb hla hlb
  obtain ⟨r, h2, k2, x2⟩ := rMinus_eq a la b lb false hwa hwb hla hlb
  rw [m1] at h2
  obtain rfl := h1.eq h2
  obtain ⟨⟨s2, ws2, e2⟩, h3, k3, x3⟩ := Differ_eq a la b lb hwa hwb hla hlb
  obtain ⟨r, h4, k4, x4⟩ := rMinus_eq a la b lb true hwa hwb hla hlb
  rw [m2] at h4
  obtain rfl := h3.eq h4
  obtain ⟨⟨s3, ws3, e3⟩, h5, k5, x5⟩ := Rest_eq a la hwa hla
  obtain ⟨r, h6, k6, x6⟩ := rRest_eq a la hwa hla
  obtain rfl := h5.eq h6
  obtain ⟨k7, x7⟩ := rRelated_eq a la b lb hwa hwb hla hlb
  obtain ⟨k8, x8⟩ := Equal_eq a la b lb hwa hwb hla hlb
  obtain ⟨k9, x9⟩ := Subset_eq a la b lb hwa hwb hla hlb
  obtain ⟨k10, x10⟩ := Disjoint_eq a la b lb hwa hwb hla hlb
  obtain ⟨cc, h11, k11, x11⟩ := Compare_eq a la b lb hwa hwb hla hlb
  obtain ⟨r, h12, k12, x12⟩ := rCompare_eq a la b lb hwa hwb hla hlb
  obtain rfl := h11.eq h12
  obtain ⟨k13, x13⟩ := same_ev s1 ws1 h1.bound
  obtain ⟨k14, x14⟩ := same_ev s2 ws2 h3.bound
  obtain ⟨k15, x15⟩ := same_ev s3 ws3 h5.bound
  exact ⟨k1 + k2 + k3 + k4 + k5 + k6 + k7 + k8 + k9 + k10 + k11 + k12 + k13 + k14 + k15, s1, ws1, e1, s2, ws2, e2, s3, ws3, e3, _, _, _, cc, x1 _ (by omega), x2 _ (by omega), x3 _ (by omega), x4 _ (by omega), x5 _ (by omega), x6 _ (by omega), x7 _ (by omega), x8 _ (by omega), x9 _ (by omega), x10 _ (by omega), x11 _ (by omega), x12 _ (by omega), x13 _ (by omega), x14 _ (by omega), x15 _ (by omega)⟩
set_option maxRecDepth 100000 in
theorem lifted (os : Os) (started : os.Started) (H : Type) (enc : TypeId × Value → H) :
    ReturnsInHanded {} Try.checked os 9 .any (Rows.bitPairsSpec.pre6 enc Try.prog Try.f9 Rows.bitPairsRow.domain false) (Rows.bitPairsSpec.post enc Try.prog Try.f9 false true false false) := by
  refine returnsInHanded_of_change_sized (C := Try.checked) own started (by kernel_rfl) Try.func9
    (ChangeSpec.witness6 (enc := enc) (C := Try.checked) false ⟨#[], #[.agg #[.int .i64 0, .slice none 0 0], .agg #[.int .i64 0, .slice none 0 0]], []⟩ 8 (by kernel_rfl) (by kernel_rfl) (by kernel_rfl) (by kernel_rfl)) ?_
  intro W base args ds gs before hval0 hW hcnd hsz0 _
  have hsz : (DataW.weightsEach Try.prog (Try.f9.params.toList ++ Rows.bitPairsSpec.plain.varTypes Try.prog) (ds ++ gs)).all (· ≤ reachBytes) = true := hsz0
  have hval : ∀ (j : Nat) t v, Try.f9.params[j]? = some t → args[j]? = some v → Value.okWide Try.prog W .any base t v := hval0
  have hW' := hW
  obtain ⟨p, q, hA0, hV, rfl, hfz, hnd⟩ := hW
  have hA : DataW.TrodAll enc Try.prog W 0 (fun _ => true) true Try.f9.params.toList args.toList ds p := hA0
  rw [Try.params9] at hA hval hsz
  obtain ⟨v0, vs0, d0, ds0, p0, q0, hargs, rfl, rfl, h0, r0⟩ := trodAll_cons hA
  obtain ⟨v1, vs1, d1, ds1, p1, q1, rfl, rfl, rfl, h1, r1⟩ := trodAll_cons r0
  obtain ⟨rfl, rfl, rfl⟩ := trodAll_nil r1
  obtain rfl : args = #[v0, v1] := by cases args; simp_all
  obtain ⟨rfl, rfl⟩ := trodVars_none hV
  have k0 := h0
  have lt0 : ∀ x ∈ p0, x.block < W.heap.size := by obtain ⟨m, hm⟩ := k0; exact DataW.trod_lt m _ _ _ hm
  obtain ⟨n0, A0, c0, l0, rfl, hc0, hr0, g0⟩ := open_set (hval 0 26 v0 rfl rfl) h0 hsz (j := 0) rfl rfl
  have k1 := h1
  have lt1 : ∀ x ∈ p1, x.block < W.heap.size := by obtain ⟨m, hm⟩ := k1; exact DataW.trod_lt m _ _ _ hm
  obtain ⟨n1, A1, c1, l1, rfl, hc1, hr1, g1⟩ := open_set (hval 1 26 v1 rfl rfl) h1 hsz (j := 1) rfl rfl
  clear hA0 hval0 hsz0 hsz
  have q0 : l0.length * 8 ≤ 140737488351232 := g0.2.2
  have q1 : l1.length * 8 ≤ 140737488351232 := g1.2.2
  obtain ⟨k, s1, ws1, e1, s2, ws2, e2, s3, ws3, e3, bx, by_, bz, cc, z1, z2, z3, z4, z5, z6, z7, z8, z9, z10, z11, z12, z13, z14, z15⟩ := alike n0 l0 n1 l1 g0.2.1 g1.2.1 (by omega) (by omega)
  refine (BitPairs_walk n0 A0 c0 l0 n1 A1 c1 l1 W hr0 hc0 q0 hr1 hc1 q1 k s1 ws1 e1 s2 ws2 e2 s3 ws3 e3 bx by_ bz cc z1 z2 z3 z4 z5 z6 z7 z8 z9 z10 z11 z12 z13 z14 z15).mono fun e W' ⟨he, bel⟩ => ?_
  subst he
  exact ⟨_, rfl, _, _, _, [], _, [], hW', trodAll_mk1 (shut_bool Try.underlying4 _), (trodAll_cons_mk (Below.trod laidOut (by kernel_rfl) (of_decide_eq_true (by kernel_rfl)) k0 bel lt0) (trodAll_cons_mk (Below.trod laidOut (by kernel_rfl) (of_decide_eq_true (by kernel_rfl)) k1 bel lt1) trodAll_mk0)), rfl, bel.frame _, fun h => by cases h⟩
theorem over : Rows.bitPairsRow.holds Try.pinned (OpenSpec.ofChange Rows.bitPairsSpec) :=
  OpenClaim.holds_of_wide 9 Try.f9 rfl rfl rfl rfl rfl rfl rfl ⟨rfl, rfl, rfl, rfl, rfl⟩ rfl rfl rfl rfl rfl (by kernel_rfl) Try.func9 (by kernel_rfl)
    (of_decide_eq_true (by kernel_rfl)) (by unfold Func.isWrapper; first | (rw [if_pos (by decide +kernel)]; kernel_rfl) | (rw [if_neg (by decide +kernel)]; exact ⟨rfl, rfl⟩))
    (fun os started H enc _ => lifted os started H enc)
theorem proved : Rows.BitPairsSaid := over
#print axioms proved
end Go.Proofs.Ytjmkhdhffmlhiaa.bitPairs
namespace Go.Proofs.Ytjmkhdhffmlhiaa
theorem bitPairs_holds : Rows.BitPairsSaid := bitPairs.proved
end Go.Proofs.Ytjmkhdhffmlhiaa
