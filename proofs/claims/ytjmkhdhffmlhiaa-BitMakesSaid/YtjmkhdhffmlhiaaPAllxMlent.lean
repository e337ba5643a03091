/- lent and back: a list of numbers in new memory with a mark behind its end, and whether list and mark are still there. -/
import Derived.Test.YtjmkhdhffmlhiaaPAllx0
import Derived.Test.YtjmkhdhffmlhiaaPAllxQslopelaw3XsameInts
namespace Go.Proofs.Ytjmkhdhffmlhiaa.PAll
open Go.RowKit Go.Proofs.YtjmkhdhffmlhiaaW.PrintWords Go.Proofs.YtjmkhdhffmlhiaaW.PrintLast Go.Proofs.YtjmkhdhffmlhiaaW.PrintMore

set_option maxHeartbeats 4000000 in
set_option maxRecDepth 100000 in
theorem lent_marked (A0 : Option Addr) (c0 : Nat) (l0 : List Int) (w : World) (hr0 : Kd.C (Kd.int .i64) w A0 l0.length l0) (hc0 : l0.length ≤ c0) (hn : l0.length * 8 ≤ 140737488351232) :
    Calls Try.prog 13 #[.slice A0 l0.length c0] w fun e w' => ∃ g cap : Nat, e = .returned (.slice (some ⟨g, 0, none⟩) l0.length cap) ∧ Kd.R (Kd.int .i64) 3 w' w.heap.size (fun _ => True) (.slice (some ⟨g, 0, none⟩) (l0 ++ [77777]).length cap) (l0 ++ [77777]) ∧ Below w.heap.size w w' := by
  have HR0 := Aside0.mk hr0
  have HC0 := Aside0.mk hc0
  clear hr0 hc0
  have hn1 : l0.length + 1 ≤ 17592186044416 := by omega
  obtain ⟨ys, hys⟩ : ∃ ys, ys = l0 ++ [77777] := ⟨_, rfl⟩
  have hyl : l0.length ≤ ys.length := by rw [hys]; simp
  have HY := Aside0.mk hys
  rw [← hys]
  clear hys
  go_enter Try.func13, Try.ntmps13
  go_wp2_with (first
    | ((with_reducible refine gate_builtin (b := .append) (xs := #[.tmp 4, .tmp 5]) rfl ?_); at_builtin
       refine Kd.R_append_rows (Kd.int .i64) (w0 := w) w.heap.size rfl (.tmp 4) (.tmp 5) 22 3 (.int .i64 0) 8 rfl Try.underlying22 info3 rfl (by decide) (by omega) (.slice none 0 0) ([] : List Int) l0 _ _ _ (fun _ => True) (fun _ => False) rfl rfl ?aO ?aR (fun _ _ h => h) (fun _ h => h.elim) ?aF ?aB ?aS ?aL ?_
       (case aR => exact HR0.out)
       (case aB => exact Below.refl _ _)
       (case aF => exact (fun _ _ => trivial))
       (case aO => exact (Kd.R_nil _ _ _ _ (fun _ => True)))
       (case aS => exact Nat.le_refl _)
       (case aL => simp only [List.length_nil]; omega)
       intro v1 w1 ho hb hg hat
       rw [List.nil_append] at ho
       have HO := Aside0.mk ho
       have HB := Aside0.mk hb
       clear ho hb hg hat)
    | ((with_reducible refine gate_builtin (b := .append) (xs := #[.tmp 7, .tmp 8]) rfl ?_); at_builtin
       refine Kd.R_append (Kd.int .i64) (w0 := w) w.heap.size rfl (.tmp 7) (.tmp 8) 22 3 (.int .i64 0) 8 rfl Try.underlying22 info3 rfl (by decide) (by omega) v1 l0 77777 [.int .i64 77777] (fun _ => True) (fun _ => False) rfl rfl ?aP (fun _ hk => hk.elim) ?aF ?aO ?aB ?aS ?aL ?_
       (case aP => exact rfl)
       (case aF => exact (fun _ _ => trivial))
       (case aO => exact HO.out)
       (case aB => exact HB.out)
       (case aS => exact HB.out.size)
       (case aL => omega)
       intro v2 w2 ho hb hg hat
       obtain ⟨g, cap, eg, _⟩ := Kd.R_form ho (by simp)
       rw [← HY.out] at ho eg
       subst eg
       obtain ⟨i0, hi0, _, _, _⟩ := info_parts info3
       have hcut := cut_to (P := Try.prog) 22 3 .i64 Try.underlying22 hi0 (some ⟨g, 0, none⟩) ys.length cap (l0.length : Int) (by omega) (by omega) (Kd.R_reads' ho).2.1
       rw [Int.toNat_natCast] at hcut
       clear hi0
       have HO2 := Aside0.mk ho
       have HB2 := Aside0.mk hb
       clear ho hb hg hat))
  go_ret
  exact ⟨g, cap, rfl, HO2.out, HB2.out⟩

theorem cut_hm (t e : TypeId) {i : TypeInfo} (ht : Try.prog.underlying t = some (.slice e)) (hi : Try.prog.info? e = some i) (g n cap m : Nat) (hm : m ≤ cap) :
    ∀ W : World, (Instr.slice t (.slice (some ⟨g, 0, none⟩) n cap) none (some (.int .i64 (m : Int))) (some (.int .i64 (m : Int)))).run Try.prog W = .ok (.slice (some ⟨g, 0, none⟩) m m) W := by
  intro W
  have hel : Try.prog.elem t = e := by simp [Program.elem, ht]
  have hu : Try.prog.underlying t = some (.slice (Try.prog.elem t)) := by rw [hel]; exact ht
  rw [run_slice_hm W t (some ⟨g, 0, none⟩) n cap hu .i64 .i64 (m : Int) (m : Int) (by omega) (by omega) (by omega), hel]
  simp [sizeOf, typeInfo, hi, sliced, Result.andThen, Addr.add]

theorem same_ints (l : List Int) (hb : l.length ≤ 9223372036854775807) : ∃ k, slopelaw3_sameInts.f k l l = some true := by
  have key : ∀ d i : Nat, i + d = l.length → ∃ k, slopelaw3_sameInts.l0 k l l (i : Int) = some true := by
    intro d
    induction d with
    | zero => intro i h; exact ⟨1, by simp only [slopelaw3_sameInts.l0]; rw [if_neg (by omega)]⟩
    | succ d ih =>
      intro i h
      obtain ⟨k, hk⟩ := ih (i + 1) (by omega)
      refine ⟨k + 1, ?_⟩
      simp only [slopelaw3_sameInts.l0]
      rw [if_pos (by omega), if_pos (by omega), if_pos (by omega)]
      rw [show wrap64 ((i : Int) + 1) = ((i + 1 : Nat) : Int) by unfold wrap64; omega]
      simpa using hk
  obtain ⟨k, hk⟩ := key l.length 0 (by omega)
  exact ⟨k, by unfold slopelaw3_sameInts.f; rw [if_pos rfl]; exact hk⟩

set_option maxHeartbeats 4000000 in
set_option maxRecDepth 100000 in
theorem back_marked (g cap : Nat) (l0 : List Int) (A1 : Option Addr) (c1 : Nat) (w : World) (ht : Kd.C (Kd.int .i64) w (some ⟨g, 0, none⟩) (l0.length + 1) (l0 ++ [77777])) (hcap : l0.length + 1 ≤ cap) (hr1 : Kd.C (Kd.int .i64) w A1 l0.length l0) (hc1 : l0.length ≤ c1) :
    Calls Try.prog 20 #[.slice (some ⟨g, 0, none⟩) l0.length cap, .slice A1 l0.length c1] w fun e w' => e = .returned (.bool true) ∧ Drawn0 w w' := by
  have hb := ht.2.1
  obtain ⟨k, hk⟩ := same_ints l0 (by omega)
  obtain ⟨ad, ea, hx⟩ := Kd.at_int ht (l0.length : Int) (by omega) (by omega)
  cases ea
  rw [Int.toNat_natCast, add_plain] at hx
  have hrd : rd (l0 ++ [77777]) (l0.length : Int) = 77777 := by simp [rd, List.getD_eq_getElem?_getD]
  rw [hrd] at hx
  have h1 : Kd.C (Kd.int .i64) w (some ⟨g, 0, none⟩) l0.length l0 := by
    have hl : (l0 ++ [77777]).length = l0.length + 1 := by simp
    have ht2 := ht
    rw [← hl] at ht2
    have h := Kd.C_take (m := l0.length) ht2 (by omega)
    simpa using h
  have HT := Aside0.mk h1
  have HR := Aside0.mk hr1
  have HK := Aside0.mk hk
  clear ht h1 hr1 hk hrd
  obtain ⟨i0, hi0, _, _, _⟩ := info_parts info3
  have hcut := cut_hm 22 3 Try.underlying22 hi0 g l0.length cap (l0.length + 1) hcap
  simp only [Int.natCast_add, Int.cast_ofNat_Int] at hcut
  clear hi0
  go_enter Try.func20, Try.ntmps20
  go_wp2_with (first
    | ((with_reducible refine gate_callee (f := 51) rfl ?_); refine goesL_ (some 7) rfl rfl Try.func51 (by kernel_rfl) rfl #[.slice (some ⟨g, 0, none⟩) l0.length cap, .slice A1 l0.length c1] rfl (by (try simp only [List.map_toArray, List.map_cons, List.map_nil]); first | done | rfl) ?_
       (with_reducible refine (slopelaw3_sameInts.calls k _ _ l0 _ _ l0 true _ HT.out (by omega) HR.out hc1 HK.out).mono ?_)
       rintro e w' ⟨rfl, ⟨nd, rfl⟩⟩
       refine ⟨_, rfl, ?_⟩))
  go_ret
  exact ⟨rfl, ⟨⟨_, rfl⟩⟩⟩
end Go.Proofs.Ytjmkhdhffmlhiaa.PAll
