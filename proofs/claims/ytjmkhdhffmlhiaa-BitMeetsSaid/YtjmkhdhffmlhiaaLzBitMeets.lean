import Derived.Test.YtjmkhdhffmlhiaaRows
import Derived.Test.YtjmkhdhffmlhiaaBzBitMeets3
import Derived.Test.YtjmkhdhffmlhiaaBzBitMeets5
import Derived.WalkKit
import Derived.ProofKit
import Derived.OpenShut
import Derived.ShutString
import Derived.ChangeOld
import Derived.Below
import Derived.SizedLaws
import Derived.Test.YtjmkhdhffmlhiaaBzBitMeets1
/- BitMeets: the law: the walk and the plain laws, joined. No condition. -/
namespace Go.Proofs.Ytjmkhdhffmlhiaa.bitMeets
open Go.ChangeShapes Go.WideShapes Go.ChangeAt Go.RowKit
open Go.Proofs.Ytjmkhdhffmlhiaa.PAll Go.Proofs.YtjmkhdhffmlhiaaW Go.Proofs.YtjmkhdhffmlhiaaW.PrintWords
theorem own : ownKnob Try.prog.godebug = none := by kernel_rfl
theorem laidOut : laidOutB Try.prog = true := by kernel_rfl
theorem alike (n : Int) (l : List S26) (hl : l.length ≤ 9223372036854775807) (hg : Goods l) : ∃ k s1 ws1 e1 s2 ws2 e2,
    bitset_Union.f k n l = some (s1, ws1, e1) ∧ sloperef3_Many.f k n l false = some (s1, ws1, e1) ∧ bitset_Inter.f k n l = some (s2, ws2, e2) ∧ sloperef3_Many.f k n l true = some (s2, ws2, e2) ∧
    slopelaw3_same.f k s1 ws1 s1 ws1 = some true ∧ slopelaw3_same.f k s2 ws2 s2 ws2 = some true := by
  obtain ⟨⟨s1, ws1, e1⟩, h1, k1, x1⟩ := Union_eq n l hl hg
  obtain ⟨r, h2, k2, x2⟩ := rMany_eq n l false hl hg
  obtain rfl := h1.eq h2
  obtain ⟨⟨s2, ws2, e2⟩, h3, k3, x3⟩ := Inter_eq n l hl hg
  obtain ⟨r, h4, k4, x4⟩ := rMany_eq n l true hl hg
  obtain rfl := h3.eq h4
  obtain ⟨k5, x5⟩ := same_ev s1 ws1 h1.bound
  obtain ⟨k6, x6⟩ := same_ev s2 ws2 h3.bound
  exact ⟨k1 + k2 + k3 + k4 + k5 + k6, s1, ws1, e1, s2, ws2, e2, x1 _ (by omega), x2 _ (by omega), x3 _ (by omega), x4 _ (by omega), x5 _ (by omega), x6 _ (by omega)⟩
set_option maxRecDepth 100000 in
theorem lifted (os : Os) (started : os.Started) (H : Type) (enc : TypeId × Value → H) :
    ReturnsInHanded {} Try.checked os 6 .any (Rows.bitMeetsSpec.pre6 enc Try.prog Try.f6 Rows.bitMeetsRow.domain false) (Rows.bitMeetsSpec.post enc Try.prog Try.f6 false true false false) := by
  refine returnsInHanded_of_change_sized (C := Try.checked) own started (by kernel_rfl) Try.func6
    (ChangeSpec.witness6 (enc := enc) (C := Try.checked) false ⟨#[], #[.int .i64 0, .slice none 0 0], []⟩ 8 (by kernel_rfl) (by kernel_rfl) (by kernel_rfl) (by kernel_rfl)) ?_
  intro W base args ds gs before hval0 hW hcnd hsz0 _
  have hsz : (DataW.weightsEach Try.prog (Try.f6.params.toList ++ Rows.bitMeetsSpec.plain.varTypes Try.prog) (ds ++ gs)).all (· ≤ reachBytes) = true := hsz0
  have hval : ∀ (j : Nat) t v, Try.f6.params[j]? = some t → args[j]? = some v → Value.okWide Try.prog W .any base t v := hval0
  have hW' := hW
  obtain ⟨p, q, hA0, hV, rfl, hfz, hnd⟩ := hW
  have hA : DataW.TrodAll enc Try.prog W 0 (fun _ => true) true Try.f6.params.toList args.toList ds p := hA0
  rw [Try.params6] at hA hval hsz
  obtain ⟨v0, vs0, d0, ds0, p0, q0, hargs, rfl, rfl, h0, r0⟩ := trodAll_cons hA
  obtain ⟨v1, vs1, d1, ds1, p1, q1, rfl, rfl, rfl, h1, r1⟩ := trodAll_cons r0
  obtain ⟨rfl, rfl, rfl⟩ := trodAll_nil r1
  obtain rfl : args = #[v0, v1] := by cases args; simp_all
  obtain ⟨rfl, rfl⟩ := trodVars_none hV
  obtain ⟨a0, rfl, rfl, rfl, w0⟩ := open_int Try.underlying3 (hval 0 3 v0 rfl rfl) h0
  have k1 := h1
  have lt1 : ∀ x ∈ p1, x.block < W.heap.size := by obtain ⟨m, hm⟩ := k1; exact DataW.trod_lt m _ _ _ hm
  obtain ⟨A1, c1, l1, rfl, hc1, hr1, g1, y1⟩ := open_sets (hval 1 38 v1 rfl rfl) h1 hsz (j := 1) rfl rfl
  clear hA0 hval0 hsz0 hsz
  obtain ⟨k, s1, ws1, e1, s2, ws2, e2, z1, z2, z3, z4, z5, z6⟩ := alike a0 l1 (by omega) (Goods.of g1)
  refine (BitMeets_walk a0 A1 c1 l1 W hr1 hc1 y1 (fun x hx => (g1 x hx).2.2) k s1 ws1 e1 s2 ws2 e2 z1 z2 z3 z4 z5 z6).mono fun e W' ⟨he, bel⟩ => ?_
  subst he
  exact ⟨_, rfl, _, _, _, [], _, [], hW', trodAll_mk1 (shut_bool Try.underlying4 _), (trodAll_cons_mk (shut_int Try.underlying3 w0) (trodAll_cons_mk (Below.trod laidOut (by kernel_rfl) (of_decide_eq_true (by kernel_rfl)) k1 bel lt1) trodAll_mk0)), rfl, bel.frame _, fun h => by cases h⟩
theorem over : Rows.bitMeetsRow.holds Try.pinned (OpenSpec.ofChange Rows.bitMeetsSpec) :=
  OpenClaim.holds_of_wide 6 Try.f6 rfl rfl rfl rfl rfl rfl rfl ⟨rfl, rfl, rfl, rfl, rfl⟩ rfl rfl rfl rfl rfl (by kernel_rfl) Try.func6 (by kernel_rfl)
    (of_decide_eq_true (by kernel_rfl)) (by unfold Func.isWrapper; first | (rw [if_pos (by decide +kernel)]; kernel_rfl) | (rw [if_neg (by decide +kernel)]; exact ⟨rfl, rfl⟩))
    (fun os started H enc _ => lifted os started H enc)
theorem proved : Rows.BitMeetsSaid := over
#print axioms proved
end Go.Proofs.Ytjmkhdhffmlhiaa.bitMeets
namespace Go.Proofs.Ytjmkhdhffmlhiaa
theorem bitMeets_holds : Rows.BitMeetsSaid := bitMeets.proved
end Go.Proofs.Ytjmkhdhffmlhiaa
