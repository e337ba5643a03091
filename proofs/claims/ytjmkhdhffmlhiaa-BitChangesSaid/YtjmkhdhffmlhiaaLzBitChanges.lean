import Derived.Test.YtjmkhdhffmlhiaaRows
import Derived.Test.YtjmkhdhffmlhiaaBzBitChanges3
import Derived.WalkKit
import Derived.ProofKit
import Derived.OpenShut
import Derived.ShutString
import Derived.ChangeOld
import Derived.Below
import Derived.SizedLaws
import Derived.Test.YtjmkhdhffmlhiaaWSized
/- BitChanges: the law: the walk and the plain laws, joined. No condition. -/
namespace Go.Proofs.Ytjmkhdhffmlhiaa.bitChanges
open Go.ChangeShapes Go.WideShapes Go.ChangeAt Go.RowKit
open Go.Proofs.Ytjmkhdhffmlhiaa.PAll Go.Proofs.YtjmkhdhffmlhiaaW Go.Proofs.YtjmkhdhffmlhiaaW.PrintWords
theorem own : ownKnob Try.prog.godebug = none := by kernel_rfl
theorem laidOut : laidOutB Try.prog = true := by kernel_rfl
theorem bound {n : Int} {ws : List Int} {e : Int} {yes : Bool} {s : Int} {vs : List Int} {c : Int} (h : TurnSays n ws e yes (s, vs, c)) : vs.length ≤ 9223372036854775807 := by
  rcases h with ⟨_, e⟩ | ⟨hm, ⟨_, e⟩ | ⟨_, _, us, h, e⟩⟩
  · cases e; simp
  · cases e; simp
  · cases e; have := hm.2.1; rw [h.len]; omega
theorem alike (n : Int) (ws : List Int) (e : Int) (hw : Wds ws) (hl : ws.length ≤ 9223372036854775807) : ∃ k s1 ws1 e1 s2 ws2 e2,
    bitset_Put.f n ws e = some (s1, ws1, e1) ∧ sloperef3_Put.f k n ws e true = some (s1, ws1, e1) ∧ bitset_Drop.f n ws e = some (s2, ws2, e2) ∧ sloperef3_Put.f k n ws e false = some (s2, ws2, e2) ∧
    slopelaw3_same.f k s1 ws1 s1 ws1 = some true ∧ slopelaw3_same.f k s2 ws2 s2 ws2 = some true := by
  obtain ⟨⟨s1, ws1, e1⟩, h1, k1⟩ := Put_eq n ws e hw hl
  obtain ⟨r, h2, k2, x2⟩ := rPut_eq n ws e true hw hl
  obtain rfl := h1.eq h2
  obtain ⟨⟨s2, ws2, e2⟩, h3, k3⟩ := Drop_eq n ws e hw hl
  obtain ⟨r, h4, k4, x4⟩ := rPut_eq n ws e false hw hl
  obtain rfl := h3.eq h4
  obtain ⟨k5, x5⟩ := same_ev s1 ws1 (bound h1)
  obtain ⟨k6, x6⟩ := same_ev s2 ws2 (bound h3)
  exact ⟨k2 + k4 + k5 + k6, s1, ws1, e1, s2, ws2, e2, k1, x2 _ (by omega), k3, x4 _ (by omega), x5 _ (by omega), x6 _ (by omega)⟩
set_option maxRecDepth 100000 in
theorem lifted (os : Os) (started : os.Started) (H : Type) (enc : TypeId × Value → H) :
    ReturnsInHanded {} Try.checked os 5 .any (Rows.bitChangesSpec.pre6 enc Try.prog Try.f5 Rows.bitChangesRow.domain false) (Rows.bitChangesSpec.post enc Try.prog Try.f5 false true false false) := by
  refine returnsInHanded_of_change_sized (C := Try.checked) own started (by kernel_rfl) Try.func5
    (ChangeSpec.witness6 (enc := enc) (C := Try.checked) false ⟨#[], #[.agg #[.int .i64 0, .slice none 0 0], .int .i64 0], []⟩ 8 (by kernel_rfl) (by kernel_rfl) (by kernel_rfl) (by kernel_rfl)) ?_
  intro W base args ds gs before hval0 hW hcnd hsz0 _
  have hsz : (DataW.weightsEach Try.prog (Try.f5.params.toList ++ Rows.bitChangesSpec.plain.varTypes Try.prog) (ds ++ gs)).all (· ≤ reachBytes) = true := hsz0
  have hval : ∀ (j : Nat) t v, Try.f5.params[j]? = some t → args[j]? = some v → Value.okWide Try.prog W .any base t v := hval0
  have hW' := hW
  obtain ⟨p, q, hA0, hV, rfl, hfz, hnd⟩ := hW
  have hA : DataW.TrodAll enc Try.prog W 0 (fun _ => true) true Try.f5.params.toList args.toList ds p := hA0
  rw [Try.params5] at hA hval hsz
  obtain ⟨v0, vs0, d0, ds0, p0, q0, hargs, rfl, rfl, h0, r0⟩ := trodAll_cons hA
  obtain ⟨v1, vs1, d1, ds1, p1, q1, rfl, rfl, rfl, h1, r1⟩ := trodAll_cons r0
  obtain ⟨rfl, rfl, rfl⟩ := trodAll_nil r1
  obtain rfl : args = #[v0, v1] := by cases args; simp_all
  obtain ⟨rfl, rfl⟩ := trodVars_none hV
  have k0 := h0
  have lt0 : ∀ x ∈ p0, x.block < W.heap.size := by obtain ⟨m, hm⟩ := k0; exact DataW.trod_lt m _ _ _ hm
  obtain ⟨n0, A0, c0, l0, rfl, hc0, hr0, g0⟩ := open_set (hval 0 26 v0 rfl rfl) h0 hsz (j := 0) rfl rfl
  obtain ⟨a1, rfl, rfl, rfl, w1⟩ := open_int Try.underlying3 (hval 1 3 v1 rfl rfl) h1
  clear hA0 hval0 hsz0 hsz
  obtain ⟨k, s1, ws1, e1, s2, ws2, e2, z1, z2, z3, z4, z5, z6⟩ := alike n0 l0 a1 g0.2.1 (by have hq : l0.length * 8 ≤ 140737488351232 := g0.2.2; omega)
  refine (BitChanges_walk n0 A0 c0 l0 a1 W hr0 hc0 g0.2.2 k s1 ws1 e1 s2 ws2 e2 z1 z2 z3 z4 z5 z6).mono fun e W' ⟨he, bel⟩ => ?_
  subst he
  exact ⟨_, rfl, _, _, _, [], _, [], hW', trodAll_mk1 (shut_bool Try.underlying4 _), (trodAll_cons_mk (Below.trod laidOut (by kernel_rfl) (of_decide_eq_true (by kernel_rfl)) k0 bel lt0) (trodAll_cons_mk (shut_int Try.underlying3 w1) trodAll_mk0)), rfl, bel.frame _, fun h => by cases h⟩
theorem over : Rows.bitChangesRow.holds Try.pinned (OpenSpec.ofChange Rows.bitChangesSpec) :=
  OpenClaim.holds_of_wide 5 Try.f5 rfl rfl rfl rfl rfl rfl rfl ⟨rfl, rfl, rfl, rfl, rfl⟩ rfl rfl rfl rfl rfl (by kernel_rfl) Try.func5 (by kernel_rfl)
    (of_decide_eq_true (by kernel_rfl)) (by unfold Func.isWrapper; first | (rw [if_pos (by decide +kernel)]; kernel_rfl) | (rw [if_neg (by decide +kernel)]; exact ⟨rfl, rfl⟩))
    (fun os started H enc _ => lifted os started H enc)
theorem proved : Rows.BitChangesSaid := over
#print axioms proved
end Go.Proofs.Ytjmkhdhffmlhiaa.bitChanges
namespace Go.Proofs.Ytjmkhdhffmlhiaa
theorem bitChanges_holds : Rows.BitChangesSaid := bitChanges.proved
end Go.Proofs.Ytjmkhdhffmlhiaa
