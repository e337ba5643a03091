import Derived.Test.YtjmkhdhffmlhiaaDoorBzBitMoves3
import Derived.Deep.RegionHeld3
import Derived.Test.YtjmkhdhffmlhiaaDoorBzBitMoves2
section
namespace Go.Proofs.YtjmkhdhffmlhiaaDoor.PAll
open Go.RowKit Go.Proofs.YtjmkhdhffmlhiaaDoorW.PrintWords Go.Proofs.YtjmkhdhffmlhiaaDoorW.PrintLast Go.Proofs.YtjmkhdhffmlhiaaDoorW.PrintMore
theorem imarked_whole {W : World} {base g cap : Nat} {ok : Nat → Prop} {l : List Int} (h : Kd.R (Kd.int .i64) 3 W base ok (.slice (some ⟨g, 0, none⟩) (l ++ [77777]).length cap) (l ++ [77777])) : Kd.C (Kd.int .i64) W (some ⟨g, 0, none⟩) (l.length + 1) (l ++ [77777]) := by
  have := (Kd.R_reads' h).2.2
  simpa using this
theorem imarked_reads {W : World} {base g cap : Nat} {ok : Nat → Prop} {l : List Int} (h : Kd.R (Kd.int .i64) 3 W base ok (.slice (some ⟨g, 0, none⟩) (l ++ [77777]).length cap) (l ++ [77777])) : Kd.C (Kd.int .i64) W (some ⟨g, 0, none⟩) l.length l := by
  have h2 := Kd.C_take (m := l.length) (Kd.R_reads' h).2.2 (by simp)
  simpa using h2
theorem imarked_room {W : World} {base g cap : Nat} {ok : Nat → Prop} {l : List Int} (h : Kd.R (Kd.int .i64) 3 W base ok (.slice (some ⟨g, 0, none⟩) (l ++ [77777]).length cap) (l ++ [77777])) : l.length + 1 ≤ cap := by
  have := (Kd.R_reads' h).2.1
  simpa using this
theorem imarked_fits {W : World} {base g cap : Nat} {ok : Nat → Prop} {l : List Int} (h : Kd.R (Kd.int .i64) 3 W base ok (.slice (some ⟨g, 0, none⟩) (l ++ [77777]).length cap) (l ++ [77777])) : l.length ≤ cap := by
  have := imarked_room h
  omega
set_option maxHeartbeats 8000000 in
set_option maxRecDepth 100000 in
theorem BitMoves_walk (n0 : Int) (A0 : Option Addr) (c0 : Nat) (l0 : List Int) (d0 z0 : Int) (A3 : Option Addr) (c3 : Nat) (l3 : List Int) (w : World) (hr0 : Kd.C (Kd.int .u64) w A0 l0.length l0) (hc_HC : l0.length ≤ c0) (hn_s : l0.length * 8 ≤ 140737488351232) (hr3 : Kd.C (Kd.int .i64) w A3 l3.length l3) (hc_HC3 : l3.length ≤ c3) (hn_l : l3.length * 8 ≤ 140737488351232) (hG : Tz w)
    (k : Nat) (s1 : Int) (ws1 : List Int) (e1 : Int) (s2 : Int) (ws2 : List Int) (e2 : Int) (hW : Wds l0) (hN : l0.length ≤ 9223372036854775807) (hP : ShiftSays n0 l0 d0 (s1, ws1, e1)) (hP2 : sloperef3_Shift.f k n0 l0 d0 = some (s1, ws1, e1)) (hD : bitset_Move.f k n0 l0 z0 l3 = some (s2, ws2, e2)) (hD2 : sloperef3_Move.f k n0 l0 z0 l3 = some (s2, ws2, e2))
    (hS : slopelaw3_same.f k s1 ws1 s1 ws1 = some true) (hS2 : slopelaw3_same.f k s2 ws2 s2 ws2 = some true) :
    Calls Tryd.prog 3 #[.agg #[.int .i64 n0, .slice A0 l0.length c0], .int .i64 d0, .int .i64 z0, .slice A3 l3.length c3] w fun e w' => e = .returned (.bool true) ∧ Below w.heap.size w w' := by
  have hu26 := Tryd.underlying24
  have HC := Aside0.mk hr0
  have HC3 := Aside0.mk hr3
  have HG := Aside0.mk hG
  have HP := Aside0.mk hP
  have HP2 := Aside0.mk hP2
  have HD := Aside0.mk hD
  have HD2 := Aside0.mk hD2
  have HS := Aside0.mk hS
  have HS2 := Aside0.mk hS2
  have HW := Aside0.mk hW
  have HN := Aside0.mk hN
  have HB := Aside0.mk (Below.refl w.heap.size w)
  clear hr0 hr3 hG hP hP2 hD hD2 hS hS2 hW hN
  go_enter Tryd.func3, Tryd.ntmps3
  go_wp2_with (first
    | ((with_reducible refine gate_callee (f := 14) rfl ?_)
       refine goesL_ (some 20) rfl rfl Tryd.func14 (by kernel_rfl) rfl #[.agg #[.int .i64 n0, .slice A0 l0.length c0]] rfl (by (try simp only [List.map_toArray, List.map_cons, List.map_nil]); first | done | rfl) ?_
       (with_reducible refine (twin_marked n0 A0 c0 l0 _ ?s1 hc_HC hn_s).mono ?_)
       (case s1 => exact (by repeat (first | exact HC.out | (with_reducible refine Kd.C_alloc ?_ _) | (with_reducible refine Kd.C_drewN ?_ _) | (with_reducible refine Kd.C_drew ?_))))
       rintro e w1 ⟨gu, capu, rfl, ho, hb⟩
       refine ⟨_, rfl, ?_⟩
       have n0_ : Aside0 (Below w.heap.size w w1) := ⟨below_step (by repeat (first | (with_reducible first | exact HB.out | apply below_alloc | apply pw_below_drewN | apply below_drew1) | exact HB.out)) hb⟩
       have n1_ : Aside0 (Kd.C (Kd.int .u64) w1 A0 l0.length l0) := ⟨Kd.C_below (by repeat (first | exact HC.out | (with_reducible refine Kd.C_alloc ?_ _) | (with_reducible refine Kd.C_drewN ?_ _) | (with_reducible refine Kd.C_drew ?_))) hb⟩
       have n2_ : Aside0 (Kd.C (Kd.int .i64) w1 A3 l3.length l3) := ⟨Kd.C_below (by repeat (first | exact HC3.out | (with_reducible refine Kd.C_alloc ?_ _) | (with_reducible refine Kd.C_drewN ?_ _) | (with_reducible refine Kd.C_drew ?_))) hb⟩
       have n3_ : Aside0 (w1.heap[w.heap.size]? = some (.cells #[.int .i64 n0, .slice A0 l0.length c0] 24 (0, 0))) := ⟨blk_below (by (with_reducible repeat (first | exact blk_new _ _ | refine blk_drewN ?_ _ | refine blk_drew ?_ | refine blk_alloc ?_ _))) hb⟩
       clear HB HC HC3
       have HB := n0_
       have HC := n1_
       have HC3 := n2_
       have Ks := n3_
       clear n0_ n1_ n2_ n3_
       have HTu : Aside0 (Kd.R (Kd.int .u64) 87 w1 (w.alloc (.cells #[.int .i64 n0, .slice A0 l0.length c0] 24 (0, 0))).heap.size (fun _ => True) (.slice (some ⟨gu, 0, none⟩) (l0 ++ [theMark]).length capu) (l0 ++ [theMark])) := ⟨ho⟩
       clear hb ho)
    | ((with_reducible refine gate_callee (f := 15) rfl ?_)
       refine goesL_ (some 22) rfl rfl Tryd.func15 (by kernel_rfl) rfl #[.slice A3 l3.length c3] rfl (by (try simp only [List.map_toArray, List.map_cons, List.map_nil]); first | done | rfl) ?_
       (with_reducible refine (lent_marked A3 c3 l3 _ ?s1 hc_HC3 hn_l).mono ?_)
       (case s1 => exact (by repeat (first | exact HC3.out | (with_reducible refine Kd.C_alloc ?_ _) | (with_reducible refine Kd.C_drewN ?_ _) | (with_reducible refine Kd.C_drew ?_))))
       rintro e w2 ⟨gl, capl, rfl, ho, hb⟩
       refine ⟨_, rfl, ?_⟩
       have n0_ : Aside0 (Below w.heap.size w w2) := ⟨below_step (by repeat (first | (with_reducible first | exact HB.out | apply below_alloc | apply pw_below_drewN | apply below_drew1) | exact HB.out)) hb⟩
       have n1_ : Aside0 (Kd.C (Kd.int .u64) w2 A0 l0.length l0) := ⟨Kd.C_below (by repeat (first | exact HC.out | (with_reducible refine Kd.C_alloc ?_ _) | (with_reducible refine Kd.C_drewN ?_ _) | (with_reducible refine Kd.C_drew ?_))) hb⟩
       have n2_ : Aside0 (Kd.C (Kd.int .i64) w2 A3 l3.length l3) := ⟨Kd.C_below (by repeat (first | exact HC3.out | (with_reducible refine Kd.C_alloc ?_ _) | (with_reducible refine Kd.C_drewN ?_ _) | (with_reducible refine Kd.C_drew ?_))) hb⟩
       have n3_ : Aside0 (w2.heap[w.heap.size]? = some (.cells #[.int .i64 n0, .slice A0 l0.length c0] 24 (0, 0))) := ⟨blk_below (by (with_reducible repeat (first | refine blk_drewN ?_ _ | refine blk_drew ?_ | refine blk_alloc ?_ _)); exact Ks.out) hb⟩
       have n4_ : Aside0 (Kd.R (Kd.int .u64) 87 w2 (w.alloc (.cells #[.int .i64 n0, .slice A0 l0.length c0] 24 (0, 0))).heap.size (fun _ => True) (.slice (some ⟨gu, 0, none⟩) (l0 ++ [theMark]).length capu) (l0 ++ [theMark])) := ⟨Kd.R_below (by (with_reducible repeat (first | apply Kd.R_alloc | apply Kd.R_drewN | apply Kd.R_drew)); exact HTu.out) hb⟩
       have n5_ : Aside0 (w2.heap[w1.heap.size]? = some (.cells #[.int .i64 n0, .slice (some ⟨gu, 0, none⟩) l0.length capu] 24 (0, 0))) := ⟨blk_below (by (with_reducible repeat (first | exact blk_new _ _ | refine blk_drewN ?_ _ | refine blk_drew ?_ | refine blk_alloc ?_ _))) hb⟩
       clear HB HC HC3 Ks HTu
       have HB := n0_
       have HC := n1_
       have HC3 := n2_
       have Ks := n3_
       have HTu := n4_
       have Ku := n5_
       clear n0_ n1_ n2_ n3_ n4_ n5_
       have HL : Aside0 (Kd.R (Kd.int .i64) 3 w2 (w1.alloc (.cells #[.int .i64 n0, .slice (some ⟨gu, 0, none⟩) l0.length capu] 24 (0, 0))).heap.size (fun _ => True) (.slice (some ⟨gl, 0, none⟩) (l3 ++ [77777]).length capl) (l3 ++ [77777])) := ⟨ho⟩
       have qKu0 := (blk_cell Ku.out 0).trans rfl
       have zqKu0 := blk_frozen Ku.out 0
       have qKu1 := (blk_cell Ku.out 1).trans rfl
       have zqKu1 := blk_frozen Ku.out 1
       clear hb ho)
    | ((with_reducible refine gate_callee (f := 16) rfl ?_)
       refine goesL_ (some 26) rfl rfl Tryd.func16 (by kernel_rfl) rfl #[.agg #[.int .i64 n0, .slice (some ⟨gu, 0, none⟩) l0.length capu], .int .i64 d0] rfl (by (try simp only [List.map_toArray, List.map_cons, List.map_nil]); first | done | rfl) ?_
       (with_reducible refine (Shift_calls n0 _ _ l0 d0 s1 ws1 e1 _ ?s1a ?s1b ?sg HW.out HN.out HP.out).mono ?_)
       (case s1a => exact (wmarked_reads (by (with_reducible repeat (first | apply Kd.R_alloc | apply Kd.R_drewN | apply Kd.R_drew)); exact HTu.out)))
       (case s1b => exact (wmarked_fits HTu.out))
       (case sg => exact (tz_at HG.out (by repeat (first | (with_reducible first | exact HB.out | apply below_alloc | apply pw_below_drewN | apply below_drew1) | exact HB.out))))
       rintro e w3 ⟨va, rfl, ho, hb⟩
       obtain ⟨AHa, cHa, eHa⟩ := Kd.R_slice ho
       subst eHa
       refine ⟨_, rfl, ?_⟩
       have n0_ : Aside0 (Below w.heap.size w w3) := ⟨below_step (by repeat (first | (with_reducible first | exact HB.out | apply below_alloc | apply pw_below_drewN | apply below_drew1) | exact HB.out)) hb⟩
       have n1_ : Aside0 (Kd.C (Kd.int .u64) w3 A0 l0.length l0) := ⟨Kd.C_below (by repeat (first | exact HC.out | (with_reducible refine Kd.C_alloc ?_ _) | (with_reducible refine Kd.C_drewN ?_ _) | (with_reducible refine Kd.C_drew ?_))) hb⟩
       have n2_ : Aside0 (Kd.C (Kd.int .i64) w3 A3 l3.length l3) := ⟨Kd.C_below (by repeat (first | exact HC3.out | (with_reducible refine Kd.C_alloc ?_ _) | (with_reducible refine Kd.C_drewN ?_ _) | (with_reducible refine Kd.C_drew ?_))) hb⟩
       have n3_ : Aside0 (w3.heap[w.heap.size]? = some (.cells #[.int .i64 n0, .slice A0 l0.length c0] 24 (0, 0))) := ⟨blk_below (by (with_reducible repeat (first | refine blk_drewN ?_ _ | refine blk_drew ?_ | refine blk_alloc ?_ _)); exact Ks.out) hb⟩
       have n4_ : Aside0 (Kd.R (Kd.int .u64) 87 w3 (w.alloc (.cells #[.int .i64 n0, .slice A0 l0.length c0] 24 (0, 0))).heap.size (fun _ => True) (.slice (some ⟨gu, 0, none⟩) (l0 ++ [theMark]).length capu) (l0 ++ [theMark])) := ⟨Kd.R_below (by (with_reducible repeat (first | apply Kd.R_alloc | apply Kd.R_drewN | apply Kd.R_drew)); exact HTu.out) hb⟩
       have n5_ : Aside0 (w3.heap[w1.heap.size]? = some (.cells #[.int .i64 n0, .slice (some ⟨gu, 0, none⟩) l0.length capu] 24 (0, 0))) := ⟨blk_below (by (with_reducible repeat (first | refine blk_drewN ?_ _ | refine blk_drew ?_ | refine blk_alloc ?_ _)); exact Ku.out) hb⟩
       have n6_ : Aside0 (Kd.R (Kd.int .i64) 3 w3 (w1.alloc (.cells #[.int .i64 n0, .slice (some ⟨gu, 0, none⟩) l0.length capu] 24 (0, 0))).heap.size (fun _ => True) (.slice (some ⟨gl, 0, none⟩) (l3 ++ [77777]).length capl) (l3 ++ [77777])) := ⟨Kd.R_below (by (with_reducible repeat (first | apply Kd.R_alloc | apply Kd.R_drewN | apply Kd.R_drew)); exact HL.out) hb⟩
       clear HB HC HC3 Ks HTu Ku HL
       have HB := n0_
       have HC := n1_
       have HC3 := n2_
       have Ks := n3_
       have HTu := n4_
       have Ku := n5_
       have HL := n6_
       clear n0_ n1_ n2_ n3_ n4_ n5_ n6_
       have Ha : Aside0 (Kd.R (Kd.int .u64) 87 w3 w2.heap.size (fun _ => True) (.slice AHa ws1.length cHa) ws1) := ⟨ho⟩
       clear qKu0 zqKu0 qKu1 zqKu1
       have qKs0 := (blk_cell (blk_alloc Ks.out (.cells #[.int .i64 s1, .slice AHa ws1.length cHa] 24 (0, 0))) 0).trans rfl
       have zqKs0 := blk_frozen (blk_alloc Ks.out (.cells #[.int .i64 s1, .slice AHa ws1.length cHa] 24 (0, 0))) 0
       have qKs1 := (blk_cell (blk_alloc Ks.out (.cells #[.int .i64 s1, .slice AHa ws1.length cHa] 24 (0, 0))) 1).trans rfl
       have zqKs1 := blk_frozen (blk_alloc Ks.out (.cells #[.int .i64 s1, .slice AHa ws1.length cHa] 24 (0, 0))) 1
       clear hb ho)
    | ((with_reducible refine gate_callee (f := 17) rfl ?_)
       refine goesL_ (some 32) rfl rfl Tryd.func17 (by kernel_rfl) rfl #[.agg #[.int .i64 n0, .slice A0 l0.length c0], .int .i64 d0] rfl (by (try simp only [List.map_toArray, List.map_cons, List.map_nil]); first | done | rfl) ?_
       (with_reducible refine (sloperef3_Shift.calls k n0 _ _ l0 d0 s1 ws1 e1 _ ?s1a ?s1b HP2.out).mono ?_)
       (case s1a => exact (by repeat (first | exact HC.out | (with_reducible refine Kd.C_alloc ?_ _) | (with_reducible refine Kd.C_drewN ?_ _) | (with_reducible refine Kd.C_drew ?_))))
       (case s1b => exact (hc_HC))
       rintro e w4 ⟨vb, rfl, ho, hb⟩
       obtain ⟨AHb, cHb, eHb⟩ := Kd.R_slice ho
       subst eHb
       refine ⟨_, rfl, ?_⟩
       have n0_ : Aside0 (Below w.heap.size w w4) := ⟨below_step (by repeat (first | (with_reducible first | exact HB.out | apply below_alloc | apply pw_below_drewN | apply below_drew1) | exact HB.out)) hb⟩
       have n1_ : Aside0 (Kd.C (Kd.int .u64) w4 A0 l0.length l0) := ⟨Kd.C_below (by repeat (first | exact HC.out | (with_reducible refine Kd.C_alloc ?_ _) | (with_reducible refine Kd.C_drewN ?_ _) | (with_reducible refine Kd.C_drew ?_))) hb⟩
       have n2_ : Aside0 (Kd.C (Kd.int .i64) w4 A3 l3.length l3) := ⟨Kd.C_below (by repeat (first | exact HC3.out | (with_reducible refine Kd.C_alloc ?_ _) | (with_reducible refine Kd.C_drewN ?_ _) | (with_reducible refine Kd.C_drew ?_))) hb⟩
       have n3_ : Aside0 (w4.heap[w.heap.size]? = some (.cells #[.int .i64 n0, .slice A0 l0.length c0] 24 (0, 0))) := ⟨blk_below (by (with_reducible repeat (first | refine blk_drewN ?_ _ | refine blk_drew ?_ | refine blk_alloc ?_ _)); exact Ks.out) hb⟩
       have n4_ : Aside0 (Kd.R (Kd.int .u64) 87 w4 (w.alloc (.cells #[.int .i64 n0, .slice A0 l0.length c0] 24 (0, 0))).heap.size (fun _ => True) (.slice (some ⟨gu, 0, none⟩) (l0 ++ [theMark]).length capu) (l0 ++ [theMark])) := ⟨Kd.R_below (by (with_reducible repeat (first | apply Kd.R_alloc | apply Kd.R_drewN | apply Kd.R_drew)); exact HTu.out) hb⟩
       have n5_ : Aside0 (w4.heap[w1.heap.size]? = some (.cells #[.int .i64 n0, .slice (some ⟨gu, 0, none⟩) l0.length capu] 24 (0, 0))) := ⟨blk_below (by (with_reducible repeat (first | refine blk_drewN ?_ _ | refine blk_drew ?_ | refine blk_alloc ?_ _)); exact Ku.out) hb⟩
       have n6_ : Aside0 (Kd.R (Kd.int .i64) 3 w4 (w1.alloc (.cells #[.int .i64 n0, .slice (some ⟨gu, 0, none⟩) l0.length capu] 24 (0, 0))).heap.size (fun _ => True) (.slice (some ⟨gl, 0, none⟩) (l3 ++ [77777]).length capl) (l3 ++ [77777])) := ⟨Kd.R_below (by (with_reducible repeat (first | apply Kd.R_alloc | apply Kd.R_drewN | apply Kd.R_drew)); exact HL.out) hb⟩
       have n7_ : Aside0 (Kd.R (Kd.int .u64) 87 w4 w2.heap.size (fun _ => True) (.slice AHa ws1.length cHa) ws1) := ⟨Kd.R_below (by (with_reducible repeat (first | apply Kd.R_alloc | apply Kd.R_drewN | apply Kd.R_drew)); exact Ha.out) hb⟩
       have n8_ : Aside0 (w4.heap[w3.heap.size]? = some (.cells #[.int .i64 s1, .slice AHa ws1.length cHa] 24 (0, 0))) := ⟨blk_below (by (with_reducible repeat (first | exact blk_new _ _ | refine blk_drewN ?_ _ | refine blk_drew ?_ | refine blk_alloc ?_ _))) hb⟩
       clear HB HC HC3 Ks HTu Ku HL Ha
       have HB := n0_
       have HC := n1_
       have HC3 := n2_
       have Ks := n3_
       have HTu := n4_
       have Ku := n5_
       have HL := n6_
       have Ha := n7_
       have Ka := n8_
       clear n0_ n1_ n2_ n3_ n4_ n5_ n6_ n7_ n8_
       have Hb : Aside0 (Kd.R (Kd.int .u64) 87 w4 (w3.alloc (.cells #[.int .i64 s1, .slice AHa ws1.length cHa] 24 (0, 0))).heap.size (fun _ => True) (.slice AHb ws1.length cHb) ws1) := ⟨ho⟩
       clear qKs0 zqKs0 qKs1 zqKs1
       have qKu0 := (blk_cell (blk_alloc Ku.out (.cells #[.int .i64 s1, .slice AHb ws1.length cHb] 24 (0, 0))) 0).trans rfl
       have zqKu0 := blk_frozen (blk_alloc Ku.out (.cells #[.int .i64 s1, .slice AHb ws1.length cHb] 24 (0, 0))) 0
       have qKu1 := (blk_cell (blk_alloc Ku.out (.cells #[.int .i64 s1, .slice AHb ws1.length cHb] 24 (0, 0))) 1).trans rfl
       have zqKu1 := blk_frozen (blk_alloc Ku.out (.cells #[.int .i64 s1, .slice AHb ws1.length cHb] 24 (0, 0))) 1
       clear hb ho)
    | ((with_reducible refine gate_callee (f := 18) rfl ?_)
       refine goesL_ (some 39) rfl rfl Tryd.func18 (by kernel_rfl) rfl #[.agg #[.int .i64 n0, .slice (some ⟨gu, 0, none⟩) l0.length capu], .int .i64 z0, .slice (some ⟨gl, 0, none⟩) l3.length capl] rfl (by (try simp only [List.map_toArray, List.map_cons, List.map_nil]); first | done | rfl) ?_
       (with_reducible refine (bitset_Move.calls k n0 _ _ l0 z0 _ _ l3 s2 ws2 e2 _ ?s1a ?s1b ?s2a ?s2b HD.out).mono ?_)
       (case s1a => exact (wmarked_reads (by (with_reducible repeat (first | apply Kd.R_alloc | apply Kd.R_drewN | apply Kd.R_drew)); exact HTu.out)))
       (case s1b => exact (wmarked_fits HTu.out))
       (case s2a => exact (imarked_reads (by (with_reducible repeat (first | apply Kd.R_alloc | apply Kd.R_drewN | apply Kd.R_drew)); exact HL.out)))
       (case s2b => exact (imarked_fits HL.out))
       rintro e w5 ⟨vc, rfl, ho, hb⟩
       obtain ⟨AHc, cHc, eHc⟩ := Kd.R_slice ho
       subst eHc
       refine ⟨_, rfl, ?_⟩
       have n0_ : Aside0 (Below w.heap.size w w5) := ⟨below_step (by repeat (first | (with_reducible first | exact HB.out | apply below_alloc | apply pw_below_drewN | apply below_drew1) | exact HB.out)) hb⟩
       have n1_ : Aside0 (Kd.C (Kd.int .u64) w5 A0 l0.length l0) := ⟨Kd.C_below (by repeat (first | exact HC.out | (with_reducible refine Kd.C_alloc ?_ _) | (with_reducible refine Kd.C_drewN ?_ _) | (with_reducible refine Kd.C_drew ?_))) hb⟩
       have n2_ : Aside0 (Kd.C (Kd.int .i64) w5 A3 l3.length l3) := ⟨Kd.C_below (by repeat (first | exact HC3.out | (with_reducible refine Kd.C_alloc ?_ _) | (with_reducible refine Kd.C_drewN ?_ _) | (with_reducible refine Kd.C_drew ?_))) hb⟩
       have n3_ : Aside0 (w5.heap[w.heap.size]? = some (.cells #[.int .i64 n0, .slice A0 l0.length c0] 24 (0, 0))) := ⟨blk_below (by (with_reducible repeat (first | refine blk_drewN ?_ _ | refine blk_drew ?_ | refine blk_alloc ?_ _)); exact Ks.out) hb⟩
       have n4_ : Aside0 (Kd.R (Kd.int .u64) 87 w5 (w.alloc (.cells #[.int .i64 n0, .slice A0 l0.length c0] 24 (0, 0))).heap.size (fun _ => True) (.slice (some ⟨gu, 0, none⟩) (l0 ++ [theMark]).length capu) (l0 ++ [theMark])) := ⟨Kd.R_below (by (with_reducible repeat (first | apply Kd.R_alloc | apply Kd.R_drewN | apply Kd.R_drew)); exact HTu.out) hb⟩
       have n5_ : Aside0 (w5.heap[w1.heap.size]? = some (.cells #[.int .i64 n0, .slice (some ⟨gu, 0, none⟩) l0.length capu] 24 (0, 0))) := ⟨blk_below (by (with_reducible repeat (first | refine blk_drewN ?_ _ | refine blk_drew ?_ | refine blk_alloc ?_ _)); exact Ku.out) hb⟩
       have n6_ : Aside0 (Kd.R (Kd.int .i64) 3 w5 (w1.alloc (.cells #[.int .i64 n0, .slice (some ⟨gu, 0, none⟩) l0.length capu] 24 (0, 0))).heap.size (fun _ => True) (.slice (some ⟨gl, 0, none⟩) (l3 ++ [77777]).length capl) (l3 ++ [77777])) := ⟨Kd.R_below (by (with_reducible repeat (first | apply Kd.R_alloc | apply Kd.R_drewN | apply Kd.R_drew)); exact HL.out) hb⟩
       have n7_ : Aside0 (Kd.R (Kd.int .u64) 87 w5 w2.heap.size (fun _ => True) (.slice AHa ws1.length cHa) ws1) := ⟨Kd.R_below (by (with_reducible repeat (first | apply Kd.R_alloc | apply Kd.R_drewN | apply Kd.R_drew)); exact Ha.out) hb⟩
       have n8_ : Aside0 (w5.heap[w3.heap.size]? = some (.cells #[.int .i64 s1, .slice AHa ws1.length cHa] 24 (0, 0))) := ⟨blk_below (by (with_reducible repeat (first | refine blk_drewN ?_ _ | refine blk_drew ?_ | refine blk_alloc ?_ _)); exact Ka.out) hb⟩
       have n9_ : Aside0 (Kd.R (Kd.int .u64) 87 w5 (w3.alloc (.cells #[.int .i64 s1, .slice AHa ws1.length cHa] 24 (0, 0))).heap.size (fun _ => True) (.slice AHb ws1.length cHb) ws1) := ⟨Kd.R_below (by (with_reducible repeat (first | apply Kd.R_alloc | apply Kd.R_drewN | apply Kd.R_drew)); exact Hb.out) hb⟩
       have n10_ : Aside0 (w5.heap[w4.heap.size]? = some (.cells #[.int .i64 s1, .slice AHb ws1.length cHb] 24 (0, 0))) := ⟨blk_below (by (with_reducible repeat (first | exact blk_new _ _ | refine blk_drewN ?_ _ | refine blk_drew ?_ | refine blk_alloc ?_ _))) hb⟩
       clear HB HC HC3 Ks HTu Ku HL Ha Ka Hb
       have HB := n0_
       have HC := n1_
       have HC3 := n2_
       have Ks := n3_
       have HTu := n4_
       have Ku := n5_
       have HL := n6_
       have Ha := n7_
       have Ka := n8_
       have Hb := n9_
       have Kb := n10_
       clear n0_ n1_ n2_ n3_ n4_ n5_ n6_ n7_ n8_ n9_ n10_
       have Hc : Aside0 (Kd.R (Kd.int .u64) 87 w5 (w4.alloc (.cells #[.int .i64 s1, .slice AHb ws1.length cHb] 24 (0, 0))).heap.size (fun _ => True) (.slice AHc ws2.length cHc) ws2) := ⟨ho⟩
       clear qKu0 zqKu0 qKu1 zqKu1
       have qKs0 := (blk_cell (blk_alloc Ks.out (.cells #[.int .i64 s2, .slice AHc ws2.length cHc] 24 (0, 0))) 0).trans rfl
       have zqKs0 := blk_frozen (blk_alloc Ks.out (.cells #[.int .i64 s2, .slice AHc ws2.length cHc] 24 (0, 0))) 0
       have qKs1 := (blk_cell (blk_alloc Ks.out (.cells #[.int .i64 s2, .slice AHc ws2.length cHc] 24 (0, 0))) 1).trans rfl
       have zqKs1 := blk_frozen (blk_alloc Ks.out (.cells #[.int .i64 s2, .slice AHc ws2.length cHc] 24 (0, 0))) 1
       clear hb ho)
    | ((with_reducible refine gate_callee (f := 19) rfl ?_)
       refine goesL_ (some 46) rfl rfl Tryd.func19 (by kernel_rfl) rfl #[.agg #[.int .i64 n0, .slice A0 l0.length c0], .int .i64 z0, .slice A3 l3.length c3] rfl (by (try simp only [List.map_toArray, List.map_cons, List.map_nil]); first | done | rfl) ?_
       (with_reducible refine (sloperef3_Move.calls k n0 _ _ l0 z0 _ _ l3 s2 ws2 e2 _ ?s1a ?s1b ?s2a ?s2b HD2.out).mono ?_)
       (case s1a => exact (by repeat (first | exact HC.out | (with_reducible refine Kd.C_alloc ?_ _) | (with_reducible refine Kd.C_drewN ?_ _) | (with_reducible refine Kd.C_drew ?_))))
       (case s1b => exact (hc_HC))
       (case s2a => exact (by repeat (first | exact HC3.out | (with_reducible refine Kd.C_alloc ?_ _) | (with_reducible refine Kd.C_drewN ?_ _) | (with_reducible refine Kd.C_drew ?_))))
       (case s2b => exact (hc_HC3))
       rintro e w6 ⟨vd, rfl, ho, hb⟩
       obtain ⟨AHd, cHd, eHd⟩ := Kd.R_slice ho
       subst eHd
       refine ⟨_, rfl, ?_⟩
       have n0_ : Aside0 (Below w.heap.size w w6) := ⟨below_step (by repeat (first | (with_reducible first | exact HB.out | apply below_alloc | apply pw_below_drewN | apply below_drew1) | exact HB.out)) hb⟩
       have n1_ : Aside0 (Kd.C (Kd.int .u64) w6 A0 l0.length l0) := ⟨Kd.C_below (by repeat (first | exact HC.out | (with_reducible refine Kd.C_alloc ?_ _) | (with_reducible refine Kd.C_drewN ?_ _) | (with_reducible refine Kd.C_drew ?_))) hb⟩
       have n2_ : Aside0 (Kd.C (Kd.int .i64) w6 A3 l3.length l3) := ⟨Kd.C_below (by repeat (first | exact HC3.out | (with_reducible refine Kd.C_alloc ?_ _) | (with_reducible refine Kd.C_drewN ?_ _) | (with_reducible refine Kd.C_drew ?_))) hb⟩
       have n3_ : Aside0 (w6.heap[w.heap.size]? = some (.cells #[.int .i64 n0, .slice A0 l0.length c0] 24 (0, 0))) := ⟨blk_below (by (with_reducible repeat (first | refine blk_drewN ?_ _ | refine blk_drew ?_ | refine blk_alloc ?_ _)); exact Ks.out) hb⟩
       have n4_ : Aside0 (Kd.R (Kd.int .u64) 87 w6 (w.alloc (.cells #[.int .i64 n0, .slice A0 l0.length c0] 24 (0, 0))).heap.size (fun _ => True) (.slice (some ⟨gu, 0, none⟩) (l0 ++ [theMark]).length capu) (l0 ++ [theMark])) := ⟨Kd.R_below (by (with_reducible repeat (first | apply Kd.R_alloc | apply Kd.R_drewN | apply Kd.R_drew)); exact HTu.out) hb⟩
       have n5_ : Aside0 (w6.heap[w1.heap.size]? = some (.cells #[.int .i64 n0, .slice (some ⟨gu, 0, none⟩) l0.length capu] 24 (0, 0))) := ⟨blk_below (by (with_reducible repeat (first | refine blk_drewN ?_ _ | refine blk_drew ?_ | refine blk_alloc ?_ _)); exact Ku.out) hb⟩
       have n6_ : Aside0 (Kd.R (Kd.int .i64) 3 w6 (w1.alloc (.cells #[.int .i64 n0, .slice (some ⟨gu, 0, none⟩) l0.length capu] 24 (0, 0))).heap.size (fun _ => True) (.slice (some ⟨gl, 0, none⟩) (l3 ++ [77777]).length capl) (l3 ++ [77777])) := ⟨Kd.R_below (by (with_reducible repeat (first | apply Kd.R_alloc | apply Kd.R_drewN | apply Kd.R_drew)); exact HL.out) hb⟩
       have n7_ : Aside0 (Kd.R (Kd.int .u64) 87 w6 w2.heap.size (fun _ => True) (.slice AHa ws1.length cHa) ws1) := ⟨Kd.R_below (by (with_reducible repeat (first | apply Kd.R_alloc | apply Kd.R_drewN | apply Kd.R_drew)); exact Ha.out) hb⟩
       have n8_ : Aside0 (w6.heap[w3.heap.size]? = some (.cells #[.int .i64 s1, .slice AHa ws1.length cHa] 24 (0, 0))) := ⟨blk_below (by (with_reducible repeat (first | refine blk_drewN ?_ _ | refine blk_drew ?_ | refine blk_alloc ?_ _)); exact Ka.out) hb⟩
       have n9_ : Aside0 (Kd.R (Kd.int .u64) 87 w6 (w3.alloc (.cells #[.int .i64 s1, .slice AHa ws1.length cHa] 24 (0, 0))).heap.size (fun _ => True) (.slice AHb ws1.length cHb) ws1) := ⟨Kd.R_below (by (with_reducible repeat (first | apply Kd.R_alloc | apply Kd.R_drewN | apply Kd.R_drew)); exact Hb.out) hb⟩
       have n10_ : Aside0 (w6.heap[w4.heap.size]? = some (.cells #[.int .i64 s1, .slice AHb ws1.length cHb] 24 (0, 0))) := ⟨blk_below (by (with_reducible repeat (first | refine blk_drewN ?_ _ | refine blk_drew ?_ | refine blk_alloc ?_ _)); exact Kb.out) hb⟩
       have n11_ : Aside0 (Kd.R (Kd.int .u64) 87 w6 (w4.alloc (.cells #[.int .i64 s1, .slice AHb ws1.length cHb] 24 (0, 0))).heap.size (fun _ => True) (.slice AHc ws2.length cHc) ws2) := ⟨Kd.R_below (by (with_reducible repeat (first | apply Kd.R_alloc | apply Kd.R_drewN | apply Kd.R_drew)); exact Hc.out) hb⟩
       have n12_ : Aside0 (w6.heap[w5.heap.size]? = some (.cells #[.int .i64 s2, .slice AHc ws2.length cHc] 24 (0, 0))) := ⟨blk_below (by (with_reducible repeat (first | exact blk_new _ _ | refine blk_drewN ?_ _ | refine blk_drew ?_ | refine blk_alloc ?_ _))) hb⟩
       clear HB HC HC3 Ks HTu Ku HL Ha Ka Hb Kb Hc
       have HB := n0_
       have HC := n1_
       have HC3 := n2_
       have Ks := n3_
       have HTu := n4_
       have Ku := n5_
       have HL := n6_
       have Ha := n7_
       have Ka := n8_
       have Hb := n9_
       have Kb := n10_
       have Hc := n11_
       have Kc := n12_
       clear n0_ n1_ n2_ n3_ n4_ n5_ n6_ n7_ n8_ n9_ n10_ n11_ n12_
       have Hd : Aside0 (Kd.R (Kd.int .u64) 87 w6 (w5.alloc (.cells #[.int .i64 s2, .slice AHc ws2.length cHc] 24 (0, 0))).heap.size (fun _ => True) (.slice AHd ws2.length cHd) ws2) := ⟨ho⟩
       clear qKs0 zqKs0 qKs1 zqKs1
       have qKa0 := (blk_cell (blk_alloc Ka.out (.cells #[.int .i64 s2, .slice AHd ws2.length cHd] 24 (0, 0))) 0).trans rfl
       have zqKa0 := blk_frozen (blk_alloc Ka.out (.cells #[.int .i64 s2, .slice AHd ws2.length cHd] 24 (0, 0))) 0
       have qKa1 := (blk_cell (blk_alloc Ka.out (.cells #[.int .i64 s2, .slice AHd ws2.length cHd] 24 (0, 0))) 1).trans rfl
       have zqKa1 := blk_frozen (blk_alloc Ka.out (.cells #[.int .i64 s2, .slice AHd ws2.length cHd] 24 (0, 0))) 1
       have qKb0 := (blk_cell (blk_alloc Kb.out (.cells #[.int .i64 s2, .slice AHd ws2.length cHd] 24 (0, 0))) 0).trans rfl
       have zqKb0 := blk_frozen (blk_alloc Kb.out (.cells #[.int .i64 s2, .slice AHd ws2.length cHd] 24 (0, 0))) 0
       have qKb1 := (blk_cell (blk_alloc Kb.out (.cells #[.int .i64 s2, .slice AHd ws2.length cHd] 24 (0, 0))) 1).trans rfl
       have zqKb1 := blk_frozen (blk_alloc Kb.out (.cells #[.int .i64 s2, .slice AHd ws2.length cHd] 24 (0, 0))) 1
       clear hb ho)
    | ((with_reducible refine gate_callee (f := 20) rfl ?_)
       refine goesL_ (some 51) rfl rfl Tryd.func20 (by kernel_rfl) rfl #[.agg #[.int .i64 s1, .slice AHa ws1.length cHa], .agg #[.int .i64 s1, .slice AHb ws1.length cHb]] rfl (by (try simp only [List.map_toArray, List.map_cons, List.map_nil]); first | done | rfl) ?_
       (with_reducible refine (slopelaw3_same.calls k s1 _ _ ws1 s1 _ _ ws1 true _ ?s1a ?s1b ?s2a ?s2b HS.out).mono ?_)
       (case s1a => exact ((Kd.R_reads' (by (with_reducible repeat (first | apply Kd.R_alloc | apply Kd.R_drewN | apply Kd.R_drew)); exact Ha.out)).2.2))
       (case s1b => exact ((Kd.R_reads' Ha.out).2.1))
       (case s2a => exact ((Kd.R_reads' (by (with_reducible repeat (first | apply Kd.R_alloc | apply Kd.R_drewN | apply Kd.R_drew)); exact Hb.out)).2.2))
       (case s2b => exact ((Kd.R_reads' Hb.out).2.1))
       rintro e w7 ⟨rfl, hb⟩
       refine ⟨_, rfl, ?_⟩
       have n0_ : Aside0 (Below w.heap.size w w7) := ⟨below_step (by repeat (first | (with_reducible first | exact HB.out | apply below_alloc | apply pw_below_drewN | apply below_drew1) | exact HB.out)) hb⟩
       have n1_ : Aside0 (Kd.C (Kd.int .u64) w7 A0 l0.length l0) := ⟨Kd.C_below (by repeat (first | exact HC.out | (with_reducible refine Kd.C_alloc ?_ _) | (with_reducible refine Kd.C_drewN ?_ _) | (with_reducible refine Kd.C_drew ?_))) hb⟩
       have n2_ : Aside0 (Kd.C (Kd.int .i64) w7 A3 l3.length l3) := ⟨Kd.C_below (by repeat (first | exact HC3.out | (with_reducible refine Kd.C_alloc ?_ _) | (with_reducible refine Kd.C_drewN ?_ _) | (with_reducible refine Kd.C_drew ?_))) hb⟩
       have n3_ : Aside0 (w7.heap[w.heap.size]? = some (.cells #[.int .i64 n0, .slice A0 l0.length c0] 24 (0, 0))) := ⟨blk_below (by (with_reducible repeat (first | refine blk_drewN ?_ _ | refine blk_drew ?_ | refine blk_alloc ?_ _)); exact Ks.out) hb⟩
       have n4_ : Aside0 (Kd.R (Kd.int .u64) 87 w7 (w.alloc (.cells #[.int .i64 n0, .slice A0 l0.length c0] 24 (0, 0))).heap.size (fun _ => True) (.slice (some ⟨gu, 0, none⟩) (l0 ++ [theMark]).length capu) (l0 ++ [theMark])) := ⟨Kd.R_below (by (with_reducible repeat (first | apply Kd.R_alloc | apply Kd.R_drewN | apply Kd.R_drew)); exact HTu.out) hb⟩
       have n5_ : Aside0 (w7.heap[w1.heap.size]? = some (.cells #[.int .i64 n0, .slice (some ⟨gu, 0, none⟩) l0.length capu] 24 (0, 0))) := ⟨blk_below (by (with_reducible repeat (first | refine blk_drewN ?_ _ | refine blk_drew ?_ | refine blk_alloc ?_ _)); exact Ku.out) hb⟩
       have n6_ : Aside0 (Kd.R (Kd.int .i64) 3 w7 (w1.alloc (.cells #[.int .i64 n0, .slice (some ⟨gu, 0, none⟩) l0.length capu] 24 (0, 0))).heap.size (fun _ => True) (.slice (some ⟨gl, 0, none⟩) (l3 ++ [77777]).length capl) (l3 ++ [77777])) := ⟨Kd.R_below (by (with_reducible repeat (first | apply Kd.R_alloc | apply Kd.R_drewN | apply Kd.R_drew)); exact HL.out) hb⟩
       have n7_ : Aside0 (Kd.R (Kd.int .u64) 87 w7 w2.heap.size (fun _ => True) (.slice AHa ws1.length cHa) ws1) := ⟨Kd.R_below (by (with_reducible repeat (first | apply Kd.R_alloc | apply Kd.R_drewN | apply Kd.R_drew)); exact Ha.out) hb⟩
       have n8_ : Aside0 (w7.heap[w3.heap.size]? = some (.cells #[.int .i64 s1, .slice AHa ws1.length cHa] 24 (0, 0))) := ⟨blk_below (by (with_reducible repeat (first | refine blk_drewN ?_ _ | refine blk_drew ?_ | refine blk_alloc ?_ _)); exact Ka.out) hb⟩
       have n9_ : Aside0 (Kd.R (Kd.int .u64) 87 w7 (w3.alloc (.cells #[.int .i64 s1, .slice AHa ws1.length cHa] 24 (0, 0))).heap.size (fun _ => True) (.slice AHb ws1.length cHb) ws1) := ⟨Kd.R_below (by (with_reducible repeat (first | apply Kd.R_alloc | apply Kd.R_drewN | apply Kd.R_drew)); exact Hb.out) hb⟩
       have n10_ : Aside0 (w7.heap[w4.heap.size]? = some (.cells #[.int .i64 s1, .slice AHb ws1.length cHb] 24 (0, 0))) := ⟨blk_below (by (with_reducible repeat (first | refine blk_drewN ?_ _ | refine blk_drew ?_ | refine blk_alloc ?_ _)); exact Kb.out) hb⟩
       have n11_ : Aside0 (Kd.R (Kd.int .u64) 87 w7 (w4.alloc (.cells #[.int .i64 s1, .slice AHb ws1.length cHb] 24 (0, 0))).heap.size (fun _ => True) (.slice AHc ws2.length cHc) ws2) := ⟨Kd.R_below (by (with_reducible repeat (first | apply Kd.R_alloc | apply Kd.R_drewN | apply Kd.R_drew)); exact Hc.out) hb⟩
       have n12_ : Aside0 (w7.heap[w5.heap.size]? = some (.cells #[.int .i64 s2, .slice AHc ws2.length cHc] 24 (0, 0))) := ⟨blk_below (by (with_reducible repeat (first | refine blk_drewN ?_ _ | refine blk_drew ?_ | refine blk_alloc ?_ _)); exact Kc.out) hb⟩
       have n13_ : Aside0 (Kd.R (Kd.int .u64) 87 w7 (w5.alloc (.cells #[.int .i64 s2, .slice AHc ws2.length cHc] 24 (0, 0))).heap.size (fun _ => True) (.slice AHd ws2.length cHd) ws2) := ⟨Kd.R_below (by (with_reducible repeat (first | apply Kd.R_alloc | apply Kd.R_drewN | apply Kd.R_drew)); exact Hd.out) hb⟩
       have n14_ : Aside0 (w7.heap[w6.heap.size]? = some (.cells #[.int .i64 s2, .slice AHd ws2.length cHd] 24 (0, 0))) := ⟨blk_below (by (with_reducible repeat (first | exact blk_new _ _ | refine blk_drewN ?_ _ | refine blk_drew ?_ | refine blk_alloc ?_ _))) hb⟩
       clear HB HC HC3 Ks HTu Ku HL Ha Ka Hb Kb Hc Kc Hd
       have HB := n0_
       have HC := n1_
       have HC3 := n2_
       have Ks := n3_
       have HTu := n4_
       have Ku := n5_
       have HL := n6_
       have Ha := n7_
       have Ka := n8_
       have Hb := n9_
       have Kb := n10_
       have Hc := n11_
       have Kc := n12_
       have Hd := n13_
       have Kd_ := n14_
       clear n0_ n1_ n2_ n3_ n4_ n5_ n6_ n7_ n8_ n9_ n10_ n11_ n12_ n13_ n14_
       clear qKa0 zqKa0 qKa1 zqKa1 qKb0 zqKb0 qKb1 zqKb1
       have qKc0 := (blk_cell Kc.out 0).trans rfl
       have zqKc0 := blk_frozen Kc.out 0
       have qKc1 := (blk_cell Kc.out 1).trans rfl
       have zqKc1 := blk_frozen Kc.out 1
       have qKd_0 := (blk_cell Kd_.out 0).trans rfl
       have zqKd_0 := blk_frozen Kd_.out 0
       have qKd_1 := (blk_cell Kd_.out 1).trans rfl
       have zqKd_1 := blk_frozen Kd_.out 1
       clear hb)
    | (go_at_call 21
       (with_reducible refine (slopelaw3_num.calls e1 e1 _ rfl).mono ?_)
       rintro e w' ⟨rfl, ⟨nd54, rfl⟩⟩)
    | (go_at_call 20
       (with_reducible refine (slopelaw3_same.calls k s2 _ _ ws2 s2 _ _ ws2 true _ ?s1a ?s1b ?s2a ?s2b HS2.out).mono ?_)
       (case s1a => exact ((Kd.R_reads' (by (with_reducible repeat (first | apply Kd.R_alloc | apply Kd.R_drewN | apply Kd.R_drew)); exact Hc.out)).2.2))
       (case s1b => exact ((Kd.R_reads' Hc.out).2.1))
       (case s2a => exact ((Kd.R_reads' (by (with_reducible repeat (first | apply Kd.R_alloc | apply Kd.R_drewN | apply Kd.R_drew)); exact Hd.out)).2.2))
       (case s2b => exact ((Kd.R_reads' Hd.out).2.1))
       rintro e w8 ⟨rfl, hb⟩
       have n0_ : Aside0 (Below w.heap.size w w8) := ⟨below_step (by repeat (first | (with_reducible first | exact HB.out | apply below_alloc | apply pw_below_drewN | apply below_drew1) | exact HB.out)) hb⟩
       have n1_ : Aside0 (Kd.C (Kd.int .u64) w8 A0 l0.length l0) := ⟨Kd.C_below (by repeat (first | exact HC.out | (with_reducible refine Kd.C_alloc ?_ _) | (with_reducible refine Kd.C_drewN ?_ _) | (with_reducible refine Kd.C_drew ?_))) hb⟩
       have n2_ : Aside0 (Kd.C (Kd.int .i64) w8 A3 l3.length l3) := ⟨Kd.C_below (by repeat (first | exact HC3.out | (with_reducible refine Kd.C_alloc ?_ _) | (with_reducible refine Kd.C_drewN ?_ _) | (with_reducible refine Kd.C_drew ?_))) hb⟩
       have n3_ : Aside0 (w8.heap[w.heap.size]? = some (.cells #[.int .i64 n0, .slice A0 l0.length c0] 24 (0, 0))) := ⟨blk_below (by (with_reducible repeat (first | refine blk_drewN ?_ _ | refine blk_drew ?_ | refine blk_alloc ?_ _)); exact Ks.out) hb⟩
       have n4_ : Aside0 (Kd.R (Kd.int .u64) 87 w8 (w.alloc (.cells #[.int .i64 n0, .slice A0 l0.length c0] 24 (0, 0))).heap.size (fun _ => True) (.slice (some ⟨gu, 0, none⟩) (l0 ++ [theMark]).length capu) (l0 ++ [theMark])) := ⟨Kd.R_below (by (with_reducible repeat (first | apply Kd.R_alloc | apply Kd.R_drewN | apply Kd.R_drew)); exact HTu.out) hb⟩
       have n5_ : Aside0 (w8.heap[w1.heap.size]? = some (.cells #[.int .i64 n0, .slice (some ⟨gu, 0, none⟩) l0.length capu] 24 (0, 0))) := ⟨blk_below (by (with_reducible repeat (first | refine blk_drewN ?_ _ | refine blk_drew ?_ | refine blk_alloc ?_ _)); exact Ku.out) hb⟩
       have n6_ : Aside0 (Kd.R (Kd.int .i64) 3 w8 (w1.alloc (.cells #[.int .i64 n0, .slice (some ⟨gu, 0, none⟩) l0.length capu] 24 (0, 0))).heap.size (fun _ => True) (.slice (some ⟨gl, 0, none⟩) (l3 ++ [77777]).length capl) (l3 ++ [77777])) := ⟨Kd.R_below (by (with_reducible repeat (first | apply Kd.R_alloc | apply Kd.R_drewN | apply Kd.R_drew)); exact HL.out) hb⟩
       have n7_ : Aside0 (Kd.R (Kd.int .u64) 87 w8 w2.heap.size (fun _ => True) (.slice AHa ws1.length cHa) ws1) := ⟨Kd.R_below (by (with_reducible repeat (first | apply Kd.R_alloc | apply Kd.R_drewN | apply Kd.R_drew)); exact Ha.out) hb⟩
       have n8_ : Aside0 (w8.heap[w3.heap.size]? = some (.cells #[.int .i64 s1, .slice AHa ws1.length cHa] 24 (0, 0))) := ⟨blk_below (by (with_reducible repeat (first | refine blk_drewN ?_ _ | refine blk_drew ?_ | refine blk_alloc ?_ _)); exact Ka.out) hb⟩
       have n9_ : Aside0 (Kd.R (Kd.int .u64) 87 w8 (w3.alloc (.cells #[.int .i64 s1, .slice AHa ws1.length cHa] 24 (0, 0))).heap.size (fun _ => True) (.slice AHb ws1.length cHb) ws1) := ⟨Kd.R_below (by (with_reducible repeat (first | apply Kd.R_alloc | apply Kd.R_drewN | apply Kd.R_drew)); exact Hb.out) hb⟩
       have n10_ : Aside0 (w8.heap[w4.heap.size]? = some (.cells #[.int .i64 s1, .slice AHb ws1.length cHb] 24 (0, 0))) := ⟨blk_below (by (with_reducible repeat (first | refine blk_drewN ?_ _ | refine blk_drew ?_ | refine blk_alloc ?_ _)); exact Kb.out) hb⟩
       have n11_ : Aside0 (Kd.R (Kd.int .u64) 87 w8 (w4.alloc (.cells #[.int .i64 s1, .slice AHb ws1.length cHb] 24 (0, 0))).heap.size (fun _ => True) (.slice AHc ws2.length cHc) ws2) := ⟨Kd.R_below (by (with_reducible repeat (first | apply Kd.R_alloc | apply Kd.R_drewN | apply Kd.R_drew)); exact Hc.out) hb⟩
       have n12_ : Aside0 (w8.heap[w5.heap.size]? = some (.cells #[.int .i64 s2, .slice AHc ws2.length cHc] 24 (0, 0))) := ⟨blk_below (by (with_reducible repeat (first | refine blk_drewN ?_ _ | refine blk_drew ?_ | refine blk_alloc ?_ _)); exact Kc.out) hb⟩
       have n13_ : Aside0 (Kd.R (Kd.int .u64) 87 w8 (w5.alloc (.cells #[.int .i64 s2, .slice AHc ws2.length cHc] 24 (0, 0))).heap.size (fun _ => True) (.slice AHd ws2.length cHd) ws2) := ⟨Kd.R_below (by (with_reducible repeat (first | apply Kd.R_alloc | apply Kd.R_drewN | apply Kd.R_drew)); exact Hd.out) hb⟩
       have n14_ : Aside0 (w8.heap[w6.heap.size]? = some (.cells #[.int .i64 s2, .slice AHd ws2.length cHd] 24 (0, 0))) := ⟨blk_below (by (with_reducible repeat (first | refine blk_drewN ?_ _ | refine blk_drew ?_ | refine blk_alloc ?_ _)); exact Kd_.out) hb⟩
       clear HB HC HC3 Ks HTu Ku HL Ha Ka Hb Kb Hc Kc Hd Kd_
       have HB := n0_
       have HC := n1_
       have HC3 := n2_
       have Ks := n3_
       have HTu := n4_
       have Ku := n5_
       have HL := n6_
       have Ha := n7_
       have Ka := n8_
       have Hb := n9_
       have Kb := n10_
       have Hc := n11_
       have Kc := n12_
       have Hd := n13_
       have Kd_ := n14_
       clear n0_ n1_ n2_ n3_ n4_ n5_ n6_ n7_ n8_ n9_ n10_ n11_ n12_ n13_ n14_
       clear qKc0 zqKc0 qKc1 zqKc1 qKd_0 zqKd_0 qKd_1 zqKd_1
       have qKu0 := (blk_cell Ku.out 0).trans rfl
       have zqKu0 := blk_frozen Ku.out 0
       have qKu1 := (blk_cell Ku.out 1).trans rfl
       have zqKu1 := blk_frozen Ku.out 1
       have qKs0 := (blk_cell Ks.out 0).trans rfl
       have zqKs0 := blk_frozen Ks.out 0
       have qKs1 := (blk_cell Ks.out 1).trans rfl
       have zqKs1 := blk_frozen Ks.out 1
       clear hb)
    | (go_at_call 21
       (with_reducible refine (slopelaw3_num.calls e2 e2 _ rfl).mono ?_)
       rintro e w' ⟨rfl, ⟨nd65, rfl⟩⟩)
    | (go_at_call 22
       (with_reducible refine (kept_marked n0 gu capu l0 A0 c0 _ ?s1 ?s2 ?s3 hc_HC).mono ?_)
       (case s1 => exact ((Kd.R_reads' (by (with_reducible repeat (first | apply Kd.R_alloc | apply Kd.R_drewN | apply Kd.R_drew)); exact HTu.out)).2.2))
       (case s2 => exact ((Kd.R_reads' HTu.out).2.1))
       (case s3 => exact (by repeat (first | exact HC.out | (with_reducible refine Kd.C_alloc ?_ _) | (with_reducible refine Kd.C_drewN ?_ _) | (with_reducible refine Kd.C_drew ?_))))
       rintro e w9 ⟨rfl, hb⟩
       have n0_ : Aside0 (Below w.heap.size w w9) := ⟨below_step (by repeat (first | (with_reducible first | exact HB.out | apply below_alloc | apply pw_below_drewN | apply below_drew1) | exact HB.out)) hb⟩
       have n1_ : Aside0 (Kd.C (Kd.int .u64) w9 A0 l0.length l0) := ⟨Kd.C_below (by repeat (first | exact HC.out | (with_reducible refine Kd.C_alloc ?_ _) | (with_reducible refine Kd.C_drewN ?_ _) | (with_reducible refine Kd.C_drew ?_))) hb⟩
       have n2_ : Aside0 (Kd.C (Kd.int .i64) w9 A3 l3.length l3) := ⟨Kd.C_below (by repeat (first | exact HC3.out | (with_reducible refine Kd.C_alloc ?_ _) | (with_reducible refine Kd.C_drewN ?_ _) | (with_reducible refine Kd.C_drew ?_))) hb⟩
       have n3_ : Aside0 (w9.heap[w.heap.size]? = some (.cells #[.int .i64 n0, .slice A0 l0.length c0] 24 (0, 0))) := ⟨blk_below (by (with_reducible repeat (first | refine blk_drewN ?_ _ | refine blk_drew ?_ | refine blk_alloc ?_ _)); exact Ks.out) hb⟩
       have n4_ : Aside0 (Kd.R (Kd.int .u64) 87 w9 (w.alloc (.cells #[.int .i64 n0, .slice A0 l0.length c0] 24 (0, 0))).heap.size (fun _ => True) (.slice (some ⟨gu, 0, none⟩) (l0 ++ [theMark]).length capu) (l0 ++ [theMark])) := ⟨Kd.R_below (by (with_reducible repeat (first | apply Kd.R_alloc | apply Kd.R_drewN | apply Kd.R_drew)); exact HTu.out) hb⟩
       have n5_ : Aside0 (w9.heap[w1.heap.size]? = some (.cells #[.int .i64 n0, .slice (some ⟨gu, 0, none⟩) l0.length capu] 24 (0, 0))) := ⟨blk_below (by (with_reducible repeat (first | refine blk_drewN ?_ _ | refine blk_drew ?_ | refine blk_alloc ?_ _)); exact Ku.out) hb⟩
       have n6_ : Aside0 (Kd.R (Kd.int .i64) 3 w9 (w1.alloc (.cells #[.int .i64 n0, .slice (some ⟨gu, 0, none⟩) l0.length capu] 24 (0, 0))).heap.size (fun _ => True) (.slice (some ⟨gl, 0, none⟩) (l3 ++ [77777]).length capl) (l3 ++ [77777])) := ⟨Kd.R_below (by (with_reducible repeat (first | apply Kd.R_alloc | apply Kd.R_drewN | apply Kd.R_drew)); exact HL.out) hb⟩
       have n7_ : Aside0 (Kd.R (Kd.int .u64) 87 w9 w2.heap.size (fun _ => True) (.slice AHa ws1.length cHa) ws1) := ⟨Kd.R_below (by (with_reducible repeat (first | apply Kd.R_alloc | apply Kd.R_drewN | apply Kd.R_drew)); exact Ha.out) hb⟩
       have n8_ : Aside0 (w9.heap[w3.heap.size]? = some (.cells #[.int .i64 s1, .slice AHa ws1.length cHa] 24 (0, 0))) := ⟨blk_below (by (with_reducible repeat (first | refine blk_drewN ?_ _ | refine blk_drew ?_ | refine blk_alloc ?_ _)); exact Ka.out) hb⟩
       have n9_ : Aside0 (Kd.R (Kd.int .u64) 87 w9 (w3.alloc (.cells #[.int .i64 s1, .slice AHa ws1.length cHa] 24 (0, 0))).heap.size (fun _ => True) (.slice AHb ws1.length cHb) ws1) := ⟨Kd.R_below (by (with_reducible repeat (first | apply Kd.R_alloc | apply Kd.R_drewN | apply Kd.R_drew)); exact Hb.out) hb⟩
       have n10_ : Aside0 (w9.heap[w4.heap.size]? = some (.cells #[.int .i64 s1, .slice AHb ws1.length cHb] 24 (0, 0))) := ⟨blk_below (by (with_reducible repeat (first | refine blk_drewN ?_ _ | refine blk_drew ?_ | refine blk_alloc ?_ _)); exact Kb.out) hb⟩
       have n11_ : Aside0 (Kd.R (Kd.int .u64) 87 w9 (w4.alloc (.cells #[.int .i64 s1, .slice AHb ws1.length cHb] 24 (0, 0))).heap.size (fun _ => True) (.slice AHc ws2.length cHc) ws2) := ⟨Kd.R_below (by (with_reducible repeat (first | apply Kd.R_alloc | apply Kd.R_drewN | apply Kd.R_drew)); exact Hc.out) hb⟩
       have n12_ : Aside0 (w9.heap[w5.heap.size]? = some (.cells #[.int .i64 s2, .slice AHc ws2.length cHc] 24 (0, 0))) := ⟨blk_below (by (with_reducible repeat (first | refine blk_drewN ?_ _ | refine blk_drew ?_ | refine blk_alloc ?_ _)); exact Kc.out) hb⟩
       have n13_ : Aside0 (Kd.R (Kd.int .u64) 87 w9 (w5.alloc (.cells #[.int .i64 s2, .slice AHc ws2.length cHc] 24 (0, 0))).heap.size (fun _ => True) (.slice AHd ws2.length cHd) ws2) := ⟨Kd.R_below (by (with_reducible repeat (first | apply Kd.R_alloc | apply Kd.R_drewN | apply Kd.R_drew)); exact Hd.out) hb⟩
       have n14_ : Aside0 (w9.heap[w6.heap.size]? = some (.cells #[.int .i64 s2, .slice AHd ws2.length cHd] 24 (0, 0))) := ⟨blk_below (by (with_reducible repeat (first | refine blk_drewN ?_ _ | refine blk_drew ?_ | refine blk_alloc ?_ _)); exact Kd_.out) hb⟩
       clear HB HC HC3 Ks HTu Ku HL Ha Ka Hb Kb Hc Kc Hd Kd_
       have HB := n0_
       have HC := n1_
       have HC3 := n2_
       have Ks := n3_
       have HTu := n4_
       have Ku := n5_
       have HL := n6_
       have Ha := n7_
       have Ka := n8_
       have Hb := n9_
       have Kb := n10_
       have Hc := n11_
       have Kc := n12_
       have Hd := n13_
       have Kd_ := n14_
       clear n0_ n1_ n2_ n3_ n4_ n5_ n6_ n7_ n8_ n9_ n10_ n11_ n12_ n13_ n14_
       clear qKu0 zqKu0 qKu1 zqKu1 qKs0 zqKs0 qKs1 zqKs1
       clear hb)
    | (go_at_call 23
       (with_reducible refine (back_marked gl capl l3 A3 c3 _ ?s1 ?s2 ?s3 hc_HC3).mono ?_)
       (case s1 => exact (imarked_whole (by (with_reducible repeat (first | apply Kd.R_alloc | apply Kd.R_drewN | apply Kd.R_drew)); exact HL.out)))
       (case s2 => exact (imarked_room HL.out))
       (case s3 => exact (by repeat (first | exact HC3.out | (with_reducible refine Kd.C_alloc ?_ _) | (with_reducible refine Kd.C_drewN ?_ _) | (with_reducible refine Kd.C_drew ?_))))
       rintro e w' ⟨rfl, ⟨nd77, rfl⟩⟩))
  go_ret
  exact ⟨rfl, by repeat (first | (with_reducible first | exact HB.out | apply below_alloc | apply pw_below_drewN | apply below_drew1) | exact HB.out)⟩
end Go.Proofs.YtjmkhdhffmlhiaaDoor.PAll
end
