/- BitMakes: the walk: where both answer alike, the law answers true. -/
import Derived.Test.YtjmkhdhffmlhiaaPAllxMlent
import Derived.Test.YtjmkhdhffmlhiaaPAllxQbitsetXMake
import Derived.Test.YtjmkhdhffmlhiaaPAllxQbitsetXRange
import Derived.Test.YtjmkhdhffmlhiaaPAllxQsloperef3XMake
import Derived.Test.YtjmkhdhffmlhiaaPAllxQsloperef3XRange
import Derived.Test.YtjmkhdhffmlhiaaPAllxQslopelaw3Xsame
import Derived.Test.YtjmkhdhffmlhiaaPAllxQslopelaw3Xnum


namespace Go.Proofs.Ytjmkhdhffmlhiaa.PAll
open Go.RowKit Go.Proofs.YtjmkhdhffmlhiaaW.PrintWords Go.Proofs.YtjmkhdhffmlhiaaW.PrintLast Go.Proofs.YtjmkhdhffmlhiaaW.PrintMore

theorem marked_whole {W : World} {base g cap : Nat} {ok : Nat → Prop} {l : List Int} (h : Kd.R (Kd.int .i64) 3 W base ok (.slice (some ⟨g, 0, none⟩) (l ++ [77777]).length cap) (l ++ [77777])) : Kd.C (Kd.int .i64) W (some ⟨g, 0, none⟩) (l.length + 1) (l ++ [77777]) := by
  have := (Kd.R_reads' h).2.2
  simpa using this
theorem marked_reads {W : World} {base g cap : Nat} {ok : Nat → Prop} {l : List Int} (h : Kd.R (Kd.int .i64) 3 W base ok (.slice (some ⟨g, 0, none⟩) (l ++ [77777]).length cap) (l ++ [77777])) : Kd.C (Kd.int .i64) W (some ⟨g, 0, none⟩) l.length l := by
  have h2 := Kd.C_take (m := l.length) (Kd.R_reads' h).2.2 (by simp)
  simpa using h2
theorem marked_room {W : World} {base g cap : Nat} {ok : Nat → Prop} {l : List Int} (h : Kd.R (Kd.int .i64) 3 W base ok (.slice (some ⟨g, 0, none⟩) (l ++ [77777]).length cap) (l ++ [77777])) : l.length + 1 ≤ cap := by
  have := (Kd.R_reads' h).2.1
  simpa using this
theorem marked_fits {W : World} {base g cap : Nat} {ok : Nat → Prop} {l : List Int} (h : Kd.R (Kd.int .i64) 3 W base ok (.slice (some ⟨g, 0, none⟩) (l ++ [77777]).length cap) (l ++ [77777])) : l.length ≤ cap := by
  have := marked_room h
  omega

set_option maxHeartbeats 8000000 in
set_option maxRecDepth 100000 in
theorem BitMakes_walk (size low high : Int) (A1 : Option Addr) (c1 : Nat) (els : List Int) (w : World) (hr1 : Kd.C (Kd.int .i64) w A1 els.length els) (hc1 : els.length ≤ c1) (hn1 : els.length * 8 ≤ 140737488351232)
    (k : Nat) (s : Int) (ws : List Int) (e : Int) (s2 : Int) (ws2 : List Int) (e2 : Int) (hM : bitset_Make.f k size els = some (s, ws, e)) (hM2 : sloperef3_Make.f k size els = some (s, ws, e)) (hR : bitset_Range.f k size low high = some (s2, ws2, e2)) (hR2 : sloperef3_Range.f k size low high = some (s2, ws2, e2))
    (hS : slopelaw3_same.f k s ws s ws = some true) (hS2 : slopelaw3_same.f k s2 ws2 s2 ws2 = some true) :
    Calls Try.prog 3 #[.int .i64 size, .slice A1 els.length c1, .int .i64 low, .int .i64 high] w fun e w' => e = .returned (.bool true) ∧ Below w.heap.size w w' := by
  have hu26 := Try.underlying26
  have HC := Aside0.mk hr1
  have HM := Aside0.mk hM
  have HM2 := Aside0.mk hM2
  have HR := Aside0.mk hR
  have HR2 := Aside0.mk hR2
  have HS := Aside0.mk hS
  have HS2 := Aside0.mk hS2
  have HB := Aside0.mk (Below.refl w.heap.size w)
  clear hr1 hM hM2 hR hR2 hS hS2
  go_enter Try.func3, Try.ntmps3
  go_wp2_with (first
    | ((with_reducible refine gate_callee (f := 13) rfl ?_)
       refine goesL_ (some 19) rfl rfl Try.func13 (by kernel_rfl) rfl #[.slice A1 els.length c1] rfl (by (try simp only [List.map_toArray, List.map_cons, List.map_nil]); first | done | rfl) ?_
       (with_reducible refine (lent_marked A1 c1 els _ ?s1 hc1 hn1).mono ?_)
       (case s1 => exact (by repeat (first | exact HC.out | (with_reducible refine Kd.C_alloc ?_ _) | (with_reducible refine Kd.C_drewN ?_ _) | (with_reducible refine Kd.C_drew ?_))))
       rintro e w1 ⟨g, cap, rfl, ho, hb⟩
       refine ⟨_, rfl, ?_⟩
       have n0_ : Aside0 (Below w.heap.size w w1) := ⟨below_step (by repeat (first | (with_reducible first | exact HB.out | apply below_alloc | apply pw_below_drewN | apply below_drew1) | exact HB.out)) hb⟩
       have n1_ : Aside0 (Kd.C (Kd.int .i64) w1 A1 els.length els) := ⟨Kd.C_below (by repeat (first | exact HC.out | (with_reducible refine Kd.C_alloc ?_ _) | (with_reducible refine Kd.C_drewN ?_ _) | (with_reducible refine Kd.C_drew ?_))) hb⟩
       clear HB HC
       have HB := n0_
       have HC := n1_
       clear n0_ n1_
       have HL : Aside0 (Kd.R (Kd.int .i64) 3 w1 w.heap.size (fun _ => True) (.slice (some ⟨g, 0, none⟩) (els ++ [77777]).length cap) (els ++ [77777])) := ⟨ho⟩
       clear hb ho)
    | ((with_reducible refine gate_callee (f := 14) rfl ?_)
       refine goesL_ (some 23) rfl rfl Try.func14 (by kernel_rfl) rfl #[.int .i64 size, .slice (some ⟨g, 0, none⟩) els.length cap] rfl (by (try simp only [List.map_toArray, List.map_cons, List.map_nil]); first | done | rfl) ?_
       (with_reducible refine (bitset_Make.calls k size _ _ els s ws e _ ?s1 ?s2 HM.out).mono ?_)
       (case s1 => exact (marked_reads (by (with_reducible repeat (first | apply Kd.R_alloc | apply Kd.R_drewN | apply Kd.R_drew)); exact HL.out)))
       (case s2 => exact (marked_fits HL.out))
       rintro e w2 ⟨v1, rfl, ho, hb⟩
       obtain ⟨AHa, cHa, eHa⟩ := Kd.R_slice ho
       subst eHa
       refine ⟨_, rfl, ?_⟩
       have n0_ : Aside0 (Below w.heap.size w w2) := ⟨below_step (by repeat (first | (with_reducible first | exact HB.out | apply below_alloc | apply pw_below_drewN | apply below_drew1) | exact HB.out)) hb⟩
       have n1_ : Aside0 (Kd.C (Kd.int .i64) w2 A1 els.length els) := ⟨Kd.C_below (by repeat (first | exact HC.out | (with_reducible refine Kd.C_alloc ?_ _) | (with_reducible refine Kd.C_drewN ?_ _) | (with_reducible refine Kd.C_drew ?_))) hb⟩
       have n2_ : Aside0 (Kd.R (Kd.int .i64) 3 w2 w.heap.size (fun _ => True) (.slice (some ⟨g, 0, none⟩) (els ++ [77777]).length cap) (els ++ [77777])) := ⟨Kd.R_below (by (with_reducible repeat (first | apply Kd.R_alloc | apply Kd.R_drewN | apply Kd.R_drew)); exact HL.out) hb⟩
       clear HB HC HL
       have HB := n0_
       have HC := n1_
       have HL := n2_
       clear n0_ n1_ n2_
       have Ha : Aside0 (Kd.R (Kd.int .u64) 82 w2 w1.heap.size (fun _ => True) (.slice AHa ws.length cHa) ws) := ⟨ho⟩
       clear hb ho)
    | ((with_reducible refine gate_callee (f := 15) rfl ?_)
       refine goesL_ (some 29) rfl rfl Try.func15 (by kernel_rfl) rfl #[.int .i64 size, .slice A1 els.length c1] rfl (by (try simp only [List.map_toArray, List.map_cons, List.map_nil]); first | done | rfl) ?_
       (with_reducible refine (sloperef3_Make.calls k size _ _ els s ws e _ ?s1 hc1 HM2.out).mono ?_)
       (case s1 => exact (by repeat (first | exact HC.out | (with_reducible refine Kd.C_alloc ?_ _) | (with_reducible refine Kd.C_drewN ?_ _) | (with_reducible refine Kd.C_drew ?_))))
       rintro e w3 ⟨v2, rfl, ho, hb⟩
       obtain ⟨AHb, cHb, eHb⟩ := Kd.R_slice ho
       subst eHb
       refine ⟨_, rfl, ?_⟩
       have n0_ : Aside0 (Below w.heap.size w w3) := ⟨below_step (by repeat (first | (with_reducible first | exact HB.out | apply below_alloc | apply pw_below_drewN | apply below_drew1) | exact HB.out)) hb⟩
       have n1_ : Aside0 (Kd.C (Kd.int .i64) w3 A1 els.length els) := ⟨Kd.C_below (by repeat (first | exact HC.out | (with_reducible refine Kd.C_alloc ?_ _) | (with_reducible refine Kd.C_drewN ?_ _) | (with_reducible refine Kd.C_drew ?_))) hb⟩
       have n2_ : Aside0 (Kd.R (Kd.int .i64) 3 w3 w.heap.size (fun _ => True) (.slice (some ⟨g, 0, none⟩) (els ++ [77777]).length cap) (els ++ [77777])) := ⟨Kd.R_below (by (with_reducible repeat (first | apply Kd.R_alloc | apply Kd.R_drewN | apply Kd.R_drew)); exact HL.out) hb⟩
       have n3_ : Aside0 (Kd.R (Kd.int .u64) 82 w3 w1.heap.size (fun _ => True) (.slice AHa ws.length cHa) ws) := ⟨Kd.R_below (by (with_reducible repeat (first | apply Kd.R_alloc | apply Kd.R_drewN | apply Kd.R_drew)); exact Ha.out) hb⟩
       have n4_ : Aside0 (w3.heap[w2.heap.size]? = some (.cells #[.int .i64 s, .slice AHa ws.length cHa] 26 (0, 0))) := ⟨blk_below (by (with_reducible repeat (first | exact blk_new _ _ | refine blk_drewN ?_ _ | refine blk_drew ?_ | refine blk_alloc ?_ _))) hb⟩
       clear HB HC HL Ha
       have HB := n0_
       have HC := n1_
       have HL := n2_
       have Ha := n3_
       have Ka := n4_
       clear n0_ n1_ n2_ n3_ n4_
       have Hb : Aside0 (Kd.R (Kd.int .u64) 82 w3 (w2.alloc (.cells #[.int .i64 s, .slice AHa ws.length cHa] 26 (0, 0))).heap.size (fun _ => True) (.slice AHb ws.length cHb) ws) := ⟨ho⟩
       clear hb ho)
    | ((with_reducible refine gate_callee (f := 16) rfl ?_)
       refine goesL_ (some 36) rfl rfl Try.func16 (by kernel_rfl) rfl #[.int .i64 size, .int .i64 low, .int .i64 high] rfl (by (try simp only [List.map_toArray, List.map_cons, List.map_nil]); first | done | rfl) ?_
       (with_reducible refine (bitset_Range.calls k size low high s2 ws2 e2 _ HR.out).mono ?_)
       rintro e w4 ⟨v3, rfl, ho, hb⟩
       obtain ⟨AHc, cHc, eHc⟩ := Kd.R_slice ho
       subst eHc
       refine ⟨_, rfl, ?_⟩
       have n0_ : Aside0 (Below w.heap.size w w4) := ⟨below_step (by repeat (first | (with_reducible first | exact HB.out | apply below_alloc | apply pw_below_drewN | apply below_drew1) | exact HB.out)) hb⟩
       have n1_ : Aside0 (Kd.C (Kd.int .i64) w4 A1 els.length els) := ⟨Kd.C_below (by repeat (first | exact HC.out | (with_reducible refine Kd.C_alloc ?_ _) | (with_reducible refine Kd.C_drewN ?_ _) | (with_reducible refine Kd.C_drew ?_))) hb⟩
       have n2_ : Aside0 (Kd.R (Kd.int .i64) 3 w4 w.heap.size (fun _ => True) (.slice (some ⟨g, 0, none⟩) (els ++ [77777]).length cap) (els ++ [77777])) := ⟨Kd.R_below (by (with_reducible repeat (first | apply Kd.R_alloc | apply Kd.R_drewN | apply Kd.R_drew)); exact HL.out) hb⟩
       have n3_ : Aside0 (Kd.R (Kd.int .u64) 82 w4 w1.heap.size (fun _ => True) (.slice AHa ws.length cHa) ws) := ⟨Kd.R_below (by (with_reducible repeat (first | apply Kd.R_alloc | apply Kd.R_drewN | apply Kd.R_drew)); exact Ha.out) hb⟩
       have n4_ : Aside0 (w4.heap[w2.heap.size]? = some (.cells #[.int .i64 s, .slice AHa ws.length cHa] 26 (0, 0))) := ⟨blk_below (by (with_reducible repeat (first | refine blk_drewN ?_ _ | refine blk_drew ?_ | refine blk_alloc ?_ _)); exact Ka.out) hb⟩
       have n5_ : Aside0 (Kd.R (Kd.int .u64) 82 w4 (w2.alloc (.cells #[.int .i64 s, .slice AHa ws.length cHa] 26 (0, 0))).heap.size (fun _ => True) (.slice AHb ws.length cHb) ws) := ⟨Kd.R_below (by (with_reducible repeat (first | apply Kd.R_alloc | apply Kd.R_drewN | apply Kd.R_drew)); exact Hb.out) hb⟩
       have n6_ : Aside0 (w4.heap[w3.heap.size]? = some (.cells #[.int .i64 s, .slice AHb ws.length cHb] 26 (0, 0))) := ⟨blk_below (by (with_reducible repeat (first | exact blk_new _ _ | refine blk_drewN ?_ _ | refine blk_drew ?_ | refine blk_alloc ?_ _))) hb⟩
       clear HB HC HL Ha Ka Hb
       have HB := n0_
       have HC := n1_
       have HL := n2_
       have Ha := n3_
       have Ka := n4_
       have Hb := n5_
       have Kb := n6_
       clear n0_ n1_ n2_ n3_ n4_ n5_ n6_
       have Hc : Aside0 (Kd.R (Kd.int .u64) 82 w4 (w3.alloc (.cells #[.int .i64 s, .slice AHb ws.length cHb] 26 (0, 0))).heap.size (fun _ => True) (.slice AHc ws2.length cHc) ws2) := ⟨ho⟩
       clear hb ho)
    | ((with_reducible refine gate_callee (f := 17) rfl ?_)
       refine goesL_ (some 43) rfl rfl Try.func17 (by kernel_rfl) rfl #[.int .i64 size, .int .i64 low, .int .i64 high] rfl (by (try simp only [List.map_toArray, List.map_cons, List.map_nil]); first | done | rfl) ?_
       (with_reducible refine (sloperef3_Range.calls k size low high s2 ws2 e2 _ HR2.out).mono ?_)
       rintro e w5 ⟨v4, rfl, ho, hb⟩
       obtain ⟨AHd, cHd, eHd⟩ := Kd.R_slice ho
       subst eHd
       refine ⟨_, rfl, ?_⟩
       have n0_ : Aside0 (Below w.heap.size w w5) := ⟨below_step (by repeat (first | (with_reducible first | exact HB.out | apply below_alloc | apply pw_below_drewN | apply below_drew1) | exact HB.out)) hb⟩
       have n1_ : Aside0 (Kd.C (Kd.int .i64) w5 A1 els.length els) := ⟨Kd.C_below (by repeat (first | exact HC.out | (with_reducible refine Kd.C_alloc ?_ _) | (with_reducible refine Kd.C_drewN ?_ _) | (with_reducible refine Kd.C_drew ?_))) hb⟩
       have n2_ : Aside0 (Kd.R (Kd.int .i64) 3 w5 w.heap.size (fun _ => True) (.slice (some ⟨g, 0, none⟩) (els ++ [77777]).length cap) (els ++ [77777])) := ⟨Kd.R_below (by (with_reducible repeat (first | apply Kd.R_alloc | apply Kd.R_drewN | apply Kd.R_drew)); exact HL.out) hb⟩
       have n3_ : Aside0 (Kd.R (Kd.int .u64) 82 w5 w1.heap.size (fun _ => True) (.slice AHa ws.length cHa) ws) := ⟨Kd.R_below (by (with_reducible repeat (first | apply Kd.R_alloc | apply Kd.R_drewN | apply Kd.R_drew)); exact Ha.out) hb⟩
       have n4_ : Aside0 (w5.heap[w2.heap.size]? = some (.cells #[.int .i64 s, .slice AHa ws.length cHa] 26 (0, 0))) := ⟨blk_below (by (with_reducible repeat (first | refine blk_drewN ?_ _ | refine blk_drew ?_ | refine blk_alloc ?_ _)); exact Ka.out) hb⟩
       have n5_ : Aside0 (Kd.R (Kd.int .u64) 82 w5 (w2.alloc (.cells #[.int .i64 s, .slice AHa ws.length cHa] 26 (0, 0))).heap.size (fun _ => True) (.slice AHb ws.length cHb) ws) := ⟨Kd.R_below (by (with_reducible repeat (first | apply Kd.R_alloc | apply Kd.R_drewN | apply Kd.R_drew)); exact Hb.out) hb⟩
       have n6_ : Aside0 (w5.heap[w3.heap.size]? = some (.cells #[.int .i64 s, .slice AHb ws.length cHb] 26 (0, 0))) := ⟨blk_below (by (with_reducible repeat (first | refine blk_drewN ?_ _ | refine blk_drew ?_ | refine blk_alloc ?_ _)); exact Kb.out) hb⟩
       have n7_ : Aside0 (Kd.R (Kd.int .u64) 82 w5 (w3.alloc (.cells #[.int .i64 s, .slice AHb ws.length cHb] 26 (0, 0))).heap.size (fun _ => True) (.slice AHc ws2.length cHc) ws2) := ⟨Kd.R_below (by (with_reducible repeat (first | apply Kd.R_alloc | apply Kd.R_drewN | apply Kd.R_drew)); exact Hc.out) hb⟩
       have n8_ : Aside0 (w5.heap[w4.heap.size]? = some (.cells #[.int .i64 s2, .slice AHc ws2.length cHc] 26 (0, 0))) := ⟨blk_below (by (with_reducible repeat (first | exact blk_new _ _ | refine blk_drewN ?_ _ | refine blk_drew ?_ | refine blk_alloc ?_ _))) hb⟩
       clear HB HC HL Ha Ka Hb Kb Hc
       have HB := n0_
       have HC := n1_
       have HL := n2_
       have Ha := n3_
       have Ka := n4_
       have Hb := n5_
       have Kb := n6_
       have Hc := n7_
       have Kc := n8_
       clear n0_ n1_ n2_ n3_ n4_ n5_ n6_ n7_ n8_
       have Hd : Aside0 (Kd.R (Kd.int .u64) 82 w5 (w4.alloc (.cells #[.int .i64 s2, .slice AHc ws2.length cHc] 26 (0, 0))).heap.size (fun _ => True) (.slice AHd ws2.length cHd) ws2) := ⟨ho⟩
       have qKa0 := (blk_cell (blk_alloc Ka.out (.cells #[.int .i64 s2, .slice AHd ws2.length cHd] 26 (0, 0))) 0).trans rfl
       have qKa1 := (blk_cell (blk_alloc Ka.out (.cells #[.int .i64 s2, .slice AHd ws2.length cHd] 26 (0, 0))) 1).trans rfl
       have qKb0 := (blk_cell (blk_alloc Kb.out (.cells #[.int .i64 s2, .slice AHd ws2.length cHd] 26 (0, 0))) 0).trans rfl
       have qKb1 := (blk_cell (blk_alloc Kb.out (.cells #[.int .i64 s2, .slice AHd ws2.length cHd] 26 (0, 0))) 1).trans rfl
       clear hb ho)
    | ((with_reducible refine gate_callee (f := 18) rfl ?_)
       refine goesL_ (some 48) rfl rfl Try.func18 (by kernel_rfl) rfl #[.agg #[.int .i64 s, .slice AHa ws.length cHa], .agg #[.int .i64 s, .slice AHb ws.length cHb]] rfl (by (try simp only [List.map_toArray, List.map_cons, List.map_nil]); first | done | rfl) ?_
       (with_reducible refine (slopelaw3_same.calls k s _ _ ws s _ _ ws true _ ?s1 ?s2 ?s3 ?s4 HS.out).mono ?_)
       (case s1 => exact ((Kd.R_reads' (by (with_reducible repeat (first | apply Kd.R_alloc | apply Kd.R_drewN | apply Kd.R_drew)); exact Ha.out)).2.2))
       (case s2 => exact ((Kd.R_reads' Ha.out).2.1))
       (case s3 => exact ((Kd.R_reads' (by (with_reducible repeat (first | apply Kd.R_alloc | apply Kd.R_drewN | apply Kd.R_drew)); exact Hb.out)).2.2))
       (case s4 => exact ((Kd.R_reads' Hb.out).2.1))
       rintro e w6 ⟨rfl, hb⟩
       refine ⟨_, rfl, ?_⟩
       have n0_ : Aside0 (Below w.heap.size w w6) := ⟨below_step (by repeat (first | (with_reducible first | exact HB.out | apply below_alloc | apply pw_below_drewN | apply below_drew1) | exact HB.out)) hb⟩
       have n1_ : Aside0 (Kd.C (Kd.int .i64) w6 A1 els.length els) := ⟨Kd.C_below (by repeat (first | exact HC.out | (with_reducible refine Kd.C_alloc ?_ _) | (with_reducible refine Kd.C_drewN ?_ _) | (with_reducible refine Kd.C_drew ?_))) hb⟩
       have n2_ : Aside0 (Kd.R (Kd.int .i64) 3 w6 w.heap.size (fun _ => True) (.slice (some ⟨g, 0, none⟩) (els ++ [77777]).length cap) (els ++ [77777])) := ⟨Kd.R_below (by (with_reducible repeat (first | apply Kd.R_alloc | apply Kd.R_drewN | apply Kd.R_drew)); exact HL.out) hb⟩
       have n3_ : Aside0 (Kd.R (Kd.int .u64) 82 w6 w1.heap.size (fun _ => True) (.slice AHa ws.length cHa) ws) := ⟨Kd.R_below (by (with_reducible repeat (first | apply Kd.R_alloc | apply Kd.R_drewN | apply Kd.R_drew)); exact Ha.out) hb⟩
       have n4_ : Aside0 (w6.heap[w2.heap.size]? = some (.cells #[.int .i64 s, .slice AHa ws.length cHa] 26 (0, 0))) := ⟨blk_below (by (with_reducible repeat (first | refine blk_drewN ?_ _ | refine blk_drew ?_ | refine blk_alloc ?_ _)); exact Ka.out) hb⟩
       have n5_ : Aside0 (Kd.R (Kd.int .u64) 82 w6 (w2.alloc (.cells #[.int .i64 s, .slice AHa ws.length cHa] 26 (0, 0))).heap.size (fun _ => True) (.slice AHb ws.length cHb) ws) := ⟨Kd.R_below (by (with_reducible repeat (first | apply Kd.R_alloc | apply Kd.R_drewN | apply Kd.R_drew)); exact Hb.out) hb⟩
       have n6_ : Aside0 (w6.heap[w3.heap.size]? = some (.cells #[.int .i64 s, .slice AHb ws.length cHb] 26 (0, 0))) := ⟨blk_below (by (with_reducible repeat (first | refine blk_drewN ?_ _ | refine blk_drew ?_ | refine blk_alloc ?_ _)); exact Kb.out) hb⟩
       have n7_ : Aside0 (Kd.R (Kd.int .u64) 82 w6 (w3.alloc (.cells #[.int .i64 s, .slice AHb ws.length cHb] 26 (0, 0))).heap.size (fun _ => True) (.slice AHc ws2.length cHc) ws2) := ⟨Kd.R_below (by (with_reducible repeat (first | apply Kd.R_alloc | apply Kd.R_drewN | apply Kd.R_drew)); exact Hc.out) hb⟩
       have n8_ : Aside0 (w6.heap[w4.heap.size]? = some (.cells #[.int .i64 s2, .slice AHc ws2.length cHc] 26 (0, 0))) := ⟨blk_below (by (with_reducible repeat (first | refine blk_drewN ?_ _ | refine blk_drew ?_ | refine blk_alloc ?_ _)); exact Kc.out) hb⟩
       have n9_ : Aside0 (Kd.R (Kd.int .u64) 82 w6 (w4.alloc (.cells #[.int .i64 s2, .slice AHc ws2.length cHc] 26 (0, 0))).heap.size (fun _ => True) (.slice AHd ws2.length cHd) ws2) := ⟨Kd.R_below (by (with_reducible repeat (first | apply Kd.R_alloc | apply Kd.R_drewN | apply Kd.R_drew)); exact Hd.out) hb⟩
       have n10_ : Aside0 (w6.heap[w5.heap.size]? = some (.cells #[.int .i64 s2, .slice AHd ws2.length cHd] 26 (0, 0))) := ⟨blk_below (by (with_reducible repeat (first | exact blk_new _ _ | refine blk_drewN ?_ _ | refine blk_drew ?_ | refine blk_alloc ?_ _))) hb⟩
       clear HB HC HL Ha Ka Hb Kb Hc Kc Hd
       have HB := n0_
       have HC := n1_
       have HL := n2_
       have Ha := n3_
       have Ka := n4_
       have Hb := n5_
       have Kb := n6_
       have Hc := n7_
       have Kc := n8_
       have Hd := n9_
       have Kd_ := n10_
       clear n0_ n1_ n2_ n3_ n4_ n5_ n6_ n7_ n8_ n9_ n10_
       clear qKa0 qKa1 qKb0 qKb1
       have qKc0 := (blk_cell Kc.out 0).trans rfl
       have qKc1 := (blk_cell Kc.out 1).trans rfl
       have qKd_0 := (blk_cell Kd_.out 0).trans rfl
       have qKd_1 := (blk_cell Kd_.out 1).trans rfl
       clear hb)
    | (go_at_call 19
       (with_reducible refine (slopelaw3_num.calls e e _ rfl).mono ?_)
       rintro e w' ⟨rfl, ⟨nd51, rfl⟩⟩)
    | (go_at_call 20
       (with_reducible refine (back_marked g cap els A1 c1 _ ?s1 ?s2 ?s3 hc1).mono ?_)
       (case s1 => exact (marked_whole (by (with_reducible repeat (first | apply Kd.R_alloc | apply Kd.R_drewN | apply Kd.R_drew)); exact HL.out)))
       (case s2 => exact (marked_room HL.out))
       (case s3 => exact (by repeat (first | exact HC.out | (with_reducible refine Kd.C_alloc ?_ _) | (with_reducible refine Kd.C_drewN ?_ _) | (with_reducible refine Kd.C_drew ?_))))
       rintro e w' ⟨rfl, ⟨nd58, rfl⟩⟩)
    | (go_at_call 18
       (with_reducible refine (slopelaw3_same.calls k s2 _ _ ws2 s2 _ _ ws2 true _ ?s1 ?s2 ?s3 ?s4 HS2.out).mono ?_)
       (case s1 => exact ((Kd.R_reads' (by (with_reducible repeat (first | apply Kd.R_alloc | apply Kd.R_drewN | apply Kd.R_drew)); exact Hc.out)).2.2))
       (case s2 => exact ((Kd.R_reads' Hc.out).2.1))
       (case s3 => exact ((Kd.R_reads' (by (with_reducible repeat (first | apply Kd.R_alloc | apply Kd.R_drewN | apply Kd.R_drew)); exact Hd.out)).2.2))
       (case s4 => exact ((Kd.R_reads' Hd.out).2.1))
       rintro e w7 ⟨rfl, hb⟩
       have n0_ : Aside0 (Below w.heap.size w w7) := ⟨below_step (by repeat (first | (with_reducible first | exact HB.out | apply below_alloc | apply pw_below_drewN | apply below_drew1) | exact HB.out)) hb⟩
       have n1_ : Aside0 (Kd.C (Kd.int .i64) w7 A1 els.length els) := ⟨Kd.C_below (by repeat (first | exact HC.out | (with_reducible refine Kd.C_alloc ?_ _) | (with_reducible refine Kd.C_drewN ?_ _) | (with_reducible refine Kd.C_drew ?_))) hb⟩
       have n2_ : Aside0 (Kd.R (Kd.int .i64) 3 w7 w.heap.size (fun _ => True) (.slice (some ⟨g, 0, none⟩) (els ++ [77777]).length cap) (els ++ [77777])) := ⟨Kd.R_below (by (with_reducible repeat (first | apply Kd.R_alloc | apply Kd.R_drewN | apply Kd.R_drew)); exact HL.out) hb⟩
       have n3_ : Aside0 (Kd.R (Kd.int .u64) 82 w7 w1.heap.size (fun _ => True) (.slice AHa ws.length cHa) ws) := ⟨Kd.R_below (by (with_reducible repeat (first | apply Kd.R_alloc | apply Kd.R_drewN | apply Kd.R_drew)); exact Ha.out) hb⟩
       have n4_ : Aside0 (w7.heap[w2.heap.size]? = some (.cells #[.int .i64 s, .slice AHa ws.length cHa] 26 (0, 0))) := ⟨blk_below (by (with_reducible repeat (first | refine blk_drewN ?_ _ | refine blk_drew ?_ | refine blk_alloc ?_ _)); exact Ka.out) hb⟩
       have n5_ : Aside0 (Kd.R (Kd.int .u64) 82 w7 (w2.alloc (.cells #[.int .i64 s, .slice AHa ws.length cHa] 26 (0, 0))).heap.size (fun _ => True) (.slice AHb ws.length cHb) ws) := ⟨Kd.R_below (by (with_reducible repeat (first | apply Kd.R_alloc | apply Kd.R_drewN | apply Kd.R_drew)); exact Hb.out) hb⟩
       have n6_ : Aside0 (w7.heap[w3.heap.size]? = some (.cells #[.int .i64 s, .slice AHb ws.length cHb] 26 (0, 0))) := ⟨blk_below (by (with_reducible repeat (first | refine blk_drewN ?_ _ | refine blk_drew ?_ | refine blk_alloc ?_ _)); exact Kb.out) hb⟩
       have n7_ : Aside0 (Kd.R (Kd.int .u64) 82 w7 (w3.alloc (.cells #[.int .i64 s, .slice AHb ws.length cHb] 26 (0, 0))).heap.size (fun _ => True) (.slice AHc ws2.length cHc) ws2) := ⟨Kd.R_below (by (with_reducible repeat (first | apply Kd.R_alloc | apply Kd.R_drewN | apply Kd.R_drew)); exact Hc.out) hb⟩
       have n8_ : Aside0 (w7.heap[w4.heap.size]? = some (.cells #[.int .i64 s2, .slice AHc ws2.length cHc] 26 (0, 0))) := ⟨blk_below (by (with_reducible repeat (first | refine blk_drewN ?_ _ | refine blk_drew ?_ | refine blk_alloc ?_ _)); exact Kc.out) hb⟩
       have n9_ : Aside0 (Kd.R (Kd.int .u64) 82 w7 (w4.alloc (.cells #[.int .i64 s2, .slice AHc ws2.length cHc] 26 (0, 0))).heap.size (fun _ => True) (.slice AHd ws2.length cHd) ws2) := ⟨Kd.R_below (by (with_reducible repeat (first | apply Kd.R_alloc | apply Kd.R_drewN | apply Kd.R_drew)); exact Hd.out) hb⟩
       have n10_ : Aside0 (w7.heap[w5.heap.size]? = some (.cells #[.int .i64 s2, .slice AHd ws2.length cHd] 26 (0, 0))) := ⟨blk_below (by (with_reducible repeat (first | refine blk_drewN ?_ _ | refine blk_drew ?_ | refine blk_alloc ?_ _)); exact Kd_.out) hb⟩
       clear HB HC HL Ha Ka Hb Kb Hc Kc Hd Kd_
       have HB := n0_
       have HC := n1_
       have HL := n2_
       have Ha := n3_
       have Ka := n4_
       have Hb := n5_
       have Kb := n6_
       have Hc := n7_
       have Kc := n8_
       have Hd := n9_
       have Kd_ := n10_
       clear n0_ n1_ n2_ n3_ n4_ n5_ n6_ n7_ n8_ n9_ n10_
       clear hb)
    | (go_at_call 19
       (with_reducible refine (slopelaw3_num.calls e2 e2 _ rfl).mono ?_)
       rintro e w' ⟨rfl, ⟨nd67, rfl⟩⟩))
  go_ret
  exact ⟨rfl, by repeat (first | (with_reducible first | exact HB.out | apply below_alloc | apply pw_below_drewN | apply below_drew1) | exact HB.out)⟩
end Go.Proofs.Ytjmkhdhffmlhiaa.PAll
