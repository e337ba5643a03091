import Derived.Test.YtjmkhdhffmlhiaaRows
import Derived.Test.YtjmkhdhffmlhiaaBzBitMay2
import Derived.Test.YtjmkhdhffmlhiaaBzBitMay3
import Derived.WalkKit
import Derived.ProofKit
import Derived.OpenShut
import Derived.ShutString
import Derived.ChangeOld
import Derived.Below
import Derived.SizedLaws
import Derived.Test.YtjmkhdhffmlhiaaWSized
/- BitMay: the law: the walk and the plain laws, joined. No condition. -/
namespace Go.Proofs.Ytjmkhdhffmlhiaa.bitMay
open Go.ChangeShapes Go.WideShapes Go.ChangeAt Go.RowKit
open Go.Proofs.Ytjmkhdhffmlhiaa.PAll Go.Proofs.YtjmkhdhffmlhiaaW Go.Proofs.YtjmkhdhffmlhiaaW.PrintWords
theorem own : ownKnob Try.prog.godebug = none := by kernel_rfl
theorem laidOut : laidOutB Try.prog = true := by kernel_rfl
theorem alike (n0 : Int) (l0 : List Int) (n1 : Int) (l1 : List S26) (hw : Wds l0) (hl : l0.length ≤ 9223372036854775807) (hl1 : l1.length ≤ 9223372036854775807) (hg : Goods l1) : ∃ k b0 b1,
    bitset_May.f n0 l0 = some b0 ∧ sloperef3_May.f k n0 l0 = some b0 ∧ bitset_MayTable.f k n1 l1 = some b1 ∧ sloperef3_MayTable.f k n1 l1 = some b1 := by
  obtain ⟨k1, h1⟩ := rMay_eq n0 l0 hw hl
  obtain ⟨k2, h2⟩ := MayTable_eq n1 l1 hl1 hg
  obtain ⟨k3, h3⟩ := rMayTable_eq n1 l1 hl1 hg
  exact ⟨k1 + k2 + k3, _, _, May_eq n0 l0 hw hl, h1 _ (by omega), h2 _ (by omega), h3 _ (by omega)⟩
set_option maxRecDepth 100000 in
theorem lifted (os : Os) (started : os.Started) (H : Type) (enc : TypeId × Value → H) :
    ReturnsInHanded {} Try.checked os 4 .any (Rows.bitMaySpec.pre6 enc Try.prog Try.f4 Rows.bitMayRow.domain false) (Rows.bitMaySpec.post enc Try.prog Try.f4 false true false false) := by
  refine returnsInHanded_of_change_sized (C := Try.checked) own started (by kernel_rfl) Try.func4
    (ChangeSpec.witness6 (enc := enc) (C := Try.checked) false ⟨#[], #[.agg #[.int .i64 0, .slice none 0 0], .agg #[.int .i64 0, .slice none 0 0]], []⟩ 8 (by kernel_rfl) (by kernel_rfl) (by kernel_rfl) (by kernel_rfl)) ?_
  intro W base args ds gs before hval0 hW hcnd hsz0 _
  have hsz : (DataW.weightsEach Try.prog (Try.f4.params.toList ++ Rows.bitMaySpec.plain.varTypes Try.prog) (ds ++ gs)).all (· ≤ reachBytes) = true := hsz0
  have hval : ∀ (j : Nat) t v, Try.f4.params[j]? = some t → args[j]? = some v → Value.okWide Try.prog W .any base t v := hval0
  have hW' := hW
  obtain ⟨p, q, hA0, hV, rfl, hfz, hnd⟩ := hW
  have hA : DataW.TrodAll enc Try.prog W 0 (fun _ => true) true Try.f4.params.toList args.toList ds p := hA0
  rw [Try.params4] at hA hval hsz
  obtain ⟨v0, vs0, d0, ds0, p0, q0, hargs, rfl, rfl, h0, r0⟩ := trodAll_cons hA
  obtain ⟨v1, vs1, d1, ds1, p1, q1, rfl, rfl, rfl, h1, r1⟩ := trodAll_cons r0
  obtain ⟨rfl, rfl, rfl⟩ := trodAll_nil r1
  obtain rfl : args = #[v0, v1] := by cases args; simp_all
  obtain ⟨rfl, rfl⟩ := trodVars_none hV
  have k0 := h0
  have lt0 : ∀ x ∈ p0, x.block < W.heap.size := by obtain ⟨m, hm⟩ := k0; exact DataW.trod_lt m _ _ _ hm
  obtain ⟨n0, A0, c0, l0, rfl, hc0, hr0, g0⟩ := open_set (hval 0 26 v0 rfl rfl) h0 hsz (j := 0) rfl rfl
  have k1 := h1
  have lt1 : ∀ x ∈ p1, x.block < W.heap.size := by obtain ⟨m, hm⟩ := k1; exact DataW.trod_lt m _ _ _ hm
  obtain ⟨n1, A1, c1, l1, rfl, hc1, hr1, w1, g1, y1⟩ := open_table (hval 1 40 v1 rfl rfl) h1 hsz (j := 1) rfl rfl
  clear hA0 hval0 hsz0 hsz
  have q0 : l0.length * 8 ≤ 140737488351232 := g0.2.2
  obtain ⟨k, b0, b1, z1, z2, z3, z4⟩ := alike n0 l0 n1 l1 g0.2.1 (by omega) (by omega) (Goods.of g1)
  refine (BitMay_walk n0 A0 c0 l0 n1 A1 c1 l1 W hr0 hc0 q0 hr1 hc1 y1 (fun x hx => (g1 x hx).2.2) k b0 b1 z1 z2 z3 z4).mono fun e W' ⟨he, bel⟩ => ?_
  subst he
  exact ⟨_, rfl, _, _, _, [], _, [], hW', trodAll_mk1 (shut_bool Try.underlying4 _), (trodAll_cons_mk (Below.trod laidOut (by kernel_rfl) (of_decide_eq_true (by kernel_rfl)) k0 bel lt0) (trodAll_cons_mk (Below.trod laidOut (by kernel_rfl) (of_decide_eq_true (by kernel_rfl)) k1 bel lt1) trodAll_mk0)), rfl, bel.frame _, fun h => by cases h⟩
theorem over : Rows.bitMayRow.holds Try.pinned (OpenSpec.ofChange Rows.bitMaySpec) :=
  OpenClaim.holds_of_wide 4 Try.f4 rfl rfl rfl rfl rfl rfl rfl ⟨rfl, rfl, rfl, rfl, rfl⟩ rfl rfl rfl rfl rfl (by kernel_rfl) Try.func4 (by kernel_rfl)
    (of_decide_eq_true (by kernel_rfl)) (by unfold Func.isWrapper; first | (rw [if_pos (by decide +kernel)]; kernel_rfl) | (rw [if_neg (by decide +kernel)]; exact ⟨rfl, rfl⟩))
    (fun os started H enc _ => lifted os started H enc)
theorem proved : Rows.BitMaySaid := over
#print axioms proved
end Go.Proofs.Ytjmkhdhffmlhiaa.bitMay
namespace Go.Proofs.Ytjmkhdhffmlhiaa
theorem bitMay_holds : Rows.BitMaySaid := bitMay.proved
end Go.Proofs.Ytjmkhdhffmlhiaa
