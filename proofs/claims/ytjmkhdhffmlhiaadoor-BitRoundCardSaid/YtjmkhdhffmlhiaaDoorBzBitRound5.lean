import Derived.Test.YtjmkhdhffmlhiaaDoorBzBitRound4
import Derived.Test.YtjmkhdhffmlhiaaDoorBzBitRound3
import Derived.Test.YtjmkhdhffmlhiaaDoorBzBitRound2
import Derived.Lib.Hide
import Derived.StillTailTactics
section
namespace Go.Proofs.YtjmkhdhffmlhiaaDoor.PAll
set_option linter.unusedVariables false
set_option linter.unusedSimpArgs false
open Go.RowKit Go.Shelf Go.Proofs.YtjmkhdhffmlhiaaDoorW.PrintWords Go.Proofs.YtjmkhdhffmlhiaaDoorW.PrintLast Go.Proofs.YtjmkhdhffmlhiaaDoorW.PrintMore
attribute [local go_sem] Oper.semAt_some
theorem IsBuilder.below {B b : Nat} {bs : List Value} {W W' : World} (h : Lib.IsBuilder BT U8 B b bs W) (hb : Below W.heap.size W W') : Lib.IsBuilder BT U8 B b bs W' := by
  have at_ : ∀ {p}, Lib.BuilderAt BT U8 B b p bs W → Lib.BuilderAt BT U8 B b p bs W' := by
    rintro p ⟨h1, v, h2, h3, h4⟩
    exact ⟨h1, v, blk_below h2 hb, h3.kept (row := none) ⟨hb.os, hb.tape, hb.output, hb.size, fun k hk _ => hb.block k hk⟩ (by cases hv : v.ownBlock with
      | none => exact .inl rfl
      | some k => exact .inr (by simp)), h4⟩
  rcases h with h | h
  · exact .inl (at_ h)
  · exact .inr (at_ h)
theorem _root_.Go.Lib.IsBuilder.size_le {B : Nat} {bs : List Value} {W : World} {T e : TypeId} (h : Lib.IsBuilder T e B B bs W) : B ≤ W.heap.size := by
  rcases h with h | h
  · exact Nat.le_of_lt h.lt
  · exact Nat.le_of_lt h.lt
theorem bytes_len (l : List UInt8) : (Lib.byteCells l).length = l.length := Lib.byteCells_length l
theorem str_size (l : List UInt8) : (⟨l.toArray⟩ : ByteArray).size = l.length := by simp [ByteArray.size]
theorem bytes_app (a b : List UInt8) : Lib.byteCells a ++ Lib.byteCells b = Lib.byteCells (a ++ b) := by simp [Lib.byteCells]
structure Pst (p : Nat → Bool) (n pos : Nat) (c : Bool) (bt : List UInt8) (fr : Int) : Prop where
  le : pos ≤ n
  ok : pos = 0 ∨ p (pos - 1) = false ∨ pos = n ∨ p pos = false
  txt : bt ++ (if c = true then [] else [58]) ++ refT p n (n - pos) pos c = txtOf p n
  nxt : (fr = -1 ∧ ∀ e, pos ≤ e → e < n → p e = false) ∨ ∃ f : Nat, fr = (f : Int) ∧ pos ≤ f ∧ f < n ∧ p f = true ∧ ∀ e, pos ≤ e → e < f → p e = false
theorem txtOf_len {p : Nat → Bool} {n : Nat} (hn : n ≤ 4096) : (txtOf p n).length ≤ 30000 := by
  unfold txtOf
  rw [List.length_append, List.length_cons]
  have h1 := dd_le hn
  have h2 := refT_len p n n 0 false (by omega)
  omega
theorem Pst.len {p : Nat → Bool} {n pos : Nat} {c : Bool} {bt : List UInt8} {fr : Int} (h : Pst p n pos c bt fr) (hn : n ≤ 4096) : bt.length ≤ 30000 := by
  have h1 := congrArg List.length h.txt
  rw [List.length_append, List.length_append] at h1
  have := txtOf_len (p := p) hn
  omega
theorem refT_none {p : Nat → Bool} {n pos : Nat} (c : Bool) (hle : pos ≤ n) (h : ∀ e, pos ≤ e → e < n → p e = false) : refT p n (n - pos) pos c = [] := by
  rw [refT_skip p n c (Nat.le_refl n) (n - pos) pos (by omega) h, Nat.sub_self]
  rfl
theorem Pst.fin_no {p : Nat → Bool} {n pos : Nat} {bt : List UInt8} {fr : Int} (h : Pst p n pos false bt fr) (hno : ∀ e, pos ≤ e → e < n → p e = false) : bt ++ [58] = txtOf p n := by
  have := h.txt
  rw [refT_none false h.le hno, List.append_nil] at this
  exact this
theorem Pst.fin_yes {p : Nat → Bool} {n pos : Nat} {bt : List UInt8} {fr : Int} (h : Pst p n pos true bt fr) (hno : ∀ e, pos ≤ e → e < n → p e = false) : bt = txtOf p n := by
  have := h.txt
  rw [refT_none true h.le hno, List.append_nil, if_pos rfl, List.append_nil] at this
  exact this
theorem Pst.more {p : Nat → Bool} {n pos : Nat} {c : Bool} {bt bt2 : List UInt8} {fr : Int} {f t : Nat} (h : Pst p n pos c bt fr) (hn : n ≤ 4096) (hpf : pos ≤ f) (hno : ∀ e, pos ≤ e → e < f → p e = false) (hft : f ≤ t) (htn : t < n) (hall : ∀ e, f ≤ e → e ≤ t → p e = true) (hend : t + 1 = n ∨ p (t + 1) = false)
    (hbt : bt2 = bt ++ [if c = true then 44 else 58] ++ dd f ++ (if f < t then 45 :: dd t else [])) : bt2 ++ refT p n (n - (t + 1)) (t + 1) true = txtOf p n ∧ t + 1 ≤ n ∧ (t + 1 = n ∨ p (t + 1) = false) := by
  refine ⟨?_, htn, hend⟩
  have hf : p f = true := hall f (Nat.le_refl _) hft
  have h1 := h.txt
  rw [refT_skip p n c (show f ≤ n by omega) (f - pos) pos (by omega) hno, refT_run p n c hft htn hall hend] at h1
  · rw [← h1, hbt]
    cases c <;> simp
  · by_cases h0 : f = 0
    · exact .inl h0
    · refine .inr ?_
      by_cases h2 : pos = f
      · rcases h.ok with h3 | h3 | h3 | h3
        · omega
        · rw [← h2]; exact h3
        · omega
        · rw [h2, hf] at h3; cases h3
      · exact hno (f - 1) (by omega) (by omega)
theorem Pst.next_ {p : Nat → Bool} {n t : Nat} {bt2 : List UInt8} {ws : List Int} (hn : n ≤ 4096) (hw : Is n p ws) (h : bt2 ++ refT p n (n - (t + 1)) (t + 1) true = txtOf p n ∧ t + 1 ≤ n ∧ (t + 1 = n ∨ p (t + 1) = false)) :
    ∃ (fr : Int) (k : Nat), bitset_Next.f k (n : Int) ws ((t + 1 : Nat) : Int) = some fr ∧ Pst p n (t + 1) true bt2 fr := by
  obtain ⟨fr, ⟨k, hk⟩, h1⟩ := next_ev hn hw h.2.1
  refine ⟨fr, k, hk k (Nat.le_refl _), h.2.1, ?_, ?_, h1⟩
  · rcases h.2.2 with h2 | h2
    · exact .inr (.inr (.inl h2))
    · exact .inr (.inr (.inr h2))
  · rw [if_pos rfl, List.append_nil]
    exact h.1
def Psl (p : Nat → Bool) (n pos : Nat) (bt : List UInt8) (fr ld : Int) : Prop := ∃ c : Bool, Pst p n pos c bt fr ∧ ld = ((if c = true then 44 else 58 : UInt8).toNat : Int)
def pmeas (n : Nat) (v : Int) : Nat := if v < 0 then 0 else n + 1 - v.toNat
theorem Pst.dec {p : Nat → Bool} {n f pos : Nat} {c : Bool} {bt : List UInt8} {fr : Int} (h : Pst p n pos c bt fr) (hfn : f < n) (hf : f < pos) :
    pmeas n (intOf (.int .i64 fr)) < pmeas n (intOf (.int .i64 (f : Int))) := by
  show (if fr < 0 then 0 else n + 1 - fr.toNat) < (if (f : Int) < 0 then 0 else n + 1 - (f : Int).toNat)
  rw [if_neg (show ¬ (f : Int) < 0 by omega), Int.toNat_natCast]
  rcases h.nxt with ⟨h1, _⟩ | ⟨g, h1, h2, h3, _⟩
  · rw [h1, if_pos (by omega)]; omega
  · rw [h1, if_neg (by omega), Int.toNat_natCast]; omega
set_option maxHeartbeats 8000000 in
set_option maxRecDepth 100000 in
theorem Print_yes (kn n : Nat) (hn : n ≤ 4096) (p : Nat → Bool) (A0 : Option Addr) (c0 : Nat) (ws : List Int) (w : World) (hr0 : Kd.C (Kd.int .u64) w A0 ws.length ws) (hc0 : ws.length ≤ c0) (hG : Tz w) (hP : Pw w) (hIs : Is n p ws) (hM : bitset_May.f (n : Int) ws = some true)
    (fr0 : Int) (hN : bitset_Next.f kn (n : Int) ws 0 = some fr0) (hST : Pst p n 0 false (dd n) fr0) :
    Calls Tryd.prog 61 #[.agg #[.int .i64 n, .slice A0 ws.length c0]] w fun e w' => e = .returned (.tuple #[.string ⟨(txtOf p n).toArray⟩, .int .i64 0]) ∧ Below w.heap.size w w' := by
  have hu24 := Tryd.underlying24
  have HC := Aside0.mk hr0
  have HG := Aside0.mk hG
  have HP := Aside0.mk hP
  have HM := Aside0.mk hM
  have HN := Aside0.mk hN
  have HST := Aside0.mk hST
  have hHAS := Aside0.mk (fun (e : Nat) (he : e < n) => show bitset_has.f (n : Int) ws (e : Int) = some (p e) from by
    rw [has_eq hIs.wds (by have := hIs.len; omega) (by omega), hIs.has e]; simp [he])
  have hdn : (Lib.decDigits n).length ≤ 4 := dd_le hn
  clear hr0 hG hP hM hN hST
  have KA := Aside0.mk (blk_new w (.cells #[.int .i64 n, .slice A0 ws.length c0] 24 (0, 0)))
  have HB := Aside0.mk (below_alloc (Below.refl w.heap.size w) (.cells #[.int .i64 n, .slice A0 ws.length c0] 24 (0, 0)))
  refine (callsIn_wide (n := 6)).1 ?_
  refine callsIn_of_wp Tryd.func61 rfl trivial ?_ rfl
  simp only [Tryd.ntmps61, List.size_toArray, List.length_cons, List.length_nil, Nat.reduceAdd, Nat.reduceSub, Array.replicate_succ, Array.replicate_zero, List.push_toArray, List.append_toArray, List.nil_append, List.cons_append]
  have q0 := (blk_cell KA.out 0).trans rfl; have q1 := (blk_cell KA.out 1).trans rfl
  gi_wp2_with fail
  refine ⟨trivial, ?_⟩; gi_at_call 69
  refine (callsIn_wide.2 (bitset_May.calls (n : Nat) _ _ ws true _ (Kd.C_below HC.out HB.out) hc0 HM.out)).mono ?_
  rintro e_ w1 ⟨rfl, hb⟩
  have kA2 := Aside0.mk (blk_below KA.out hb); have hB2 := Aside0.mk (below_step HB.out hb); clear KA HB hb q0 q1; have KA := kA2; have HB := hB2; clear kA2 hB2
  have hlt1 : w.heap.size < w1.heap.size := blk_lt KA.out
  have hI0 := Aside0.mk (.inl ⟨Nat.le_refl _, .slice none 0 0, blk_new w1 _, World.ownsRow_nil _ _ _ _, by simp [Value.ownBlock]⟩ : Lib.IsBuilder BT U8 w1.heap.size w1.heap.size (Lib.byteCells []) (w1.alloc (.cells #[.pointer none, .slice none 0 0] BT (0, 0))))
  have kA2 := Aside0.mk (blk_alloc KA.out (.cells #[.pointer none, .slice none 0 0] BT (0, 0))); have hB2 := Aside0.mk (below_alloc HB.out (.cells #[.pointer none, .slice none 0 0] BT (0, 0))); clear KA HB; have KA := kA2; have HB := hB2; have HI := hI0; clear kA2 hB2 hI0
  have q0 := (blk_cell KA.out 0).trans rfl; have q1 := (blk_cell KA.out 1).trans rfl
  gi_wp2_with fail
  refine ⟨trivial, ?_⟩; gi_at_call 101
  refine (callsIn_wide.2 (itoa_calls n (by omega) _ (pw_at HP.out HB.out))).mono ?_
  rintro e_ w2 ⟨rfl, hb⟩
  have hI2 := Aside0.mk (IsBuilder.below HI.out hb); have kA2 := Aside0.mk (blk_below KA.out hb); have hB2 := Aside0.mk (below_step HB.out hb)
  clear HI KA HB hb; have HI := hI2; have KA := kA2; have HB := hB2; clear hI2 kA2 hB2
  clear q0 q1
  gi_wp2_with fail
  refine ⟨trivial, ?_⟩; gi_at_call 100
  refine (callsIn_wide.2 (writeString _ _ _ _ _ HI.out (by rw [bytes_len, str_size]; simp; omega) HI.out.size_le)).mono ?_
  rintro e_ w3 ⟨rfl, h1_, hb⟩
  have hI2 := Aside0.mk (show Lib.IsBuilder BT U8 w1.heap.size w1.heap.size (Lib.byteCells ([] ++ dd n)) w3 from .inr (by rw [← bytes_app]; first | exact h1_ | (rw [HLD.out] at h1_; exact h1_))); have kA2 := Aside0.mk ((hb.block _ hlt1).trans KA.out); have hB2 := Aside0.mk (below_more HB.out hb (Nat.le_of_lt hlt1))
  clear HI KA HB hb h1_; have HI := hI2; have KA := kA2; have HB := hB2; clear hI2 kA2 hB2
  have q0 := (blk_cell KA.out 0).trans rfl; have q1 := (blk_cell KA.out 1).trans rfl
  gi_wp2_with fail
  refine ⟨trivial, ?_⟩; gi_at_call 29
  refine (callsIn_wide.2 (bitset_Next.calls kn (n : Nat) _ _ ws 0 fr0 _ (Kd.C_below HC.out HB.out) hc0 (tz_at HG.out HB.out) HN.out)).mono ?_
  rintro e_ w4 ⟨rfl, hb⟩
  have hI2 := Aside0.mk (IsBuilder.below HI.out hb); have kA2 := Aside0.mk (blk_below KA.out hb); have hB2 := Aside0.mk (below_step HB.out hb)
  clear HI KA HB hb; have HI := hI2; have KA := kA2; have HB := hB2; clear hI2 kA2 hB2
  clear q0 q1
  gi_wp2_with fail
  refine wpIn_loop (fun a W => ∃ (pos : Nat) (bt : List UInt8) (fr ld : Int) (u7 u14 u16 u17 u18 u19 u20 u21 u22 u23 u24 u25 u26 u27 u28 u29 u30 u31 u32 u33 u34 u35 u36 u37 u38 u39 u40 u41 u42 u43 u44 u45 u46 u47 : Value), a = { tmps := #[.agg #[.int .i64 n, .slice A0 ws.length c0], .pointer (some ⟨w.heap.size, 0, none⟩), .string .empty, .int .i64 0, .pointer (some ⟨w1.heap.size, 0, none⟩), .int .u8 ld, .int .i64 fr, u7, .agg #[.int .i64 n, .slice A0 ws.length c0], .bool true, .bool false, .pointer (some ⟨w.heap.size, 0, none⟩), .int .i64 n, .string ⟨(dd n).toArray⟩, u14, .agg #[.int .i64 n, .slice A0 ws.length c0], u16, u17, u18, u19, u20, u21, u22, u23, u24, u25, u26, u27, u28, u29, u30, u31, u32, u33, u34, u35, u36, u37, u38, u39, u40, u41, u42, u43, u44, u45, u46, u47, undef, undef, undef, undef, undef], defers := [] } ∧ Aside0 (Psl p n pos bt fr ld) ∧ Aside0 (Lib.IsBuilder BT U8 w1.heap.size w1.heap.size (Lib.byteCells bt) W) ∧ Aside0 (W.heap[w.heap.size]? = some (.cells #[.int .i64 n, .slice A0 ws.length c0] 24 (0, 0))) ∧ Aside0 (Below w.heap.size w W))
    (fun a _ => pmeas n (intOf (a.tmps.getD 6 undef))) ?start ?round
  case start =>
    exact ⟨0, dd n, fr0, 58, _, _, _, _, _, _, _, _, _, _, _, _, _, _, _, _, _, _, _, _, _, _, _, _, _, _, _, _, _, _, _, _, _, _, rfl, ⟨⟨false, HST.out, rfl⟩⟩, HI, KA, HB⟩
  case round =>
    clear HI KA HB HST
    rintro a wr ⟨pos, bt, fr, ld, u7, u14, u16, u17, u18, u19, u20, u21, u22, u23, u24, u25, u26, u27, u28, u29, u30, u31, u32, u33, u34, u35, u36, u37, u38, u39, u40, u41, u42, u43, u44, u45, u46, u47, rfl, HSL, HI, KA, HB⟩
    obtain ⟨c, hst_, hld_⟩ := HSL.out
    have HST := Aside0.mk hst_; have HLD := Aside0.mk hld_; clear HSL hst_ hld_
    have hbt := HST.out.len hn
    rcases HST.out.nxt with ⟨hfr, hno⟩ | ⟨f, hfr, hpf, hfn, hpf2, hno⟩
    · skip
      subst hfr
      have hd : decide ((-1 : Int) ≥ 0) = false := by decide
      cases c with
      | false =>
        obtain rfl : ld = 58 := HLD.out
        gi_wp2_with fail
        refine ⟨trivial, ?_⟩; gi_at_call 102
        refine (callsIn_wide.2 (writeByte _ _ _ _ _ HI.out (by rw [bytes_len]; omega) HI.out.size_le)).mono ?_
        rintro e_ w5 ⟨rfl, h1_, hb⟩
        have hI2 := Aside0.mk (show Lib.IsBuilder BT U8 w1.heap.size w1.heap.size (Lib.byteCells (bt ++ [58])) w5 from .inr (by rw [← bytes_app]; first | exact h1_ | (rw [HLD.out] at h1_; exact h1_))); have kA2 := Aside0.mk ((hb.block _ hlt1).trans KA.out); have hB2 := Aside0.mk (below_more HB.out hb (Nat.le_of_lt hlt1))
        clear HI KA HB hb h1_; have HI := hI2; have KA := kA2; have HB := hB2; clear hI2 kA2 hB2
        gi_wp2_with fail
        refine ⟨trivial, ?_⟩; gi_at_call 103
        refine (callsIn_wide.2 (builderString _ _ _ _ HI.out HI.out.size_le)).mono ?_
        rintro e_ wf ⟨rfl, hb⟩
        have hBf := below_more HB.out hb (Nat.le_of_lt hlt1)
        gi_wp2_with fail
        refine bodyPost_ret (v := .tuple #[.string ⟨(txtOf p n).toArray⟩, .int .i64 0]) ?_ rfl ⟨rfl, hBf⟩
        simp [results, Tryd.f61, go_sem]
        exact HST.out.fin_no hno
      | true =>
        obtain rfl : ld = 44 := HLD.out
        gi_wp2_with fail
        refine ⟨trivial, ?_⟩; gi_at_call 103
        refine (callsIn_wide.2 (builderString _ _ _ _ HI.out HI.out.size_le)).mono ?_
        rintro e_ wf ⟨rfl, hb⟩
        have hBf := below_more HB.out hb (Nat.le_of_lt hlt1)
        gi_wp2_with fail
        refine bodyPost_ret (v := .tuple #[.string ⟨(txtOf p n).toArray⟩, .int .i64 0]) ?_ rfl ⟨rfl, hBf⟩
        simp [results, Tryd.f61, go_sem]
        exact HST.out.fin_yes hno
    · skip
      subst hfr
      have hd : decide ((f : Int) ≥ 0) = true := decide_eq_true (by omega)
      gi_wp2_with fail
      refine wpIn_loop (fun a W => ∃ (t : Nat) (y20 y21 y22 y23 y24 y25 y26 y27 y28 y29 y30 y31 : Value), a = { tmps := #[.agg #[.int .i64 n, .slice A0 ws.length c0], .pointer (some ⟨w.heap.size, 0, none⟩), .string .empty, .int .i64 0, .pointer (some ⟨w1.heap.size, 0, none⟩), .int .u8 ld, .int .i64 (f : Nat), .int .i64 (t : Nat), .agg #[.int .i64 n, .slice A0 ws.length c0], .bool true, .bool false, .pointer (some ⟨w.heap.size, 0, none⟩), .int .i64 n, .string ⟨(dd n).toArray⟩, u14, .agg #[.int .i64 n, .slice A0 ws.length c0], u16, .int .i64 (f : Nat), .bool true, .int .i64 (f : Nat), y20, y21, y22, y23, y24, y25, y26, y27, y28, y29, y30, y31, u32, u33, u34, u35, u36, u37, u38, u39, u40, u41, u42, u43, u44, u45, u46, u47, undef, undef, undef, undef, undef], defers := [] } ∧ Aside0 (f ≤ t ∧ t < n ∧ ∀ e, f ≤ e → e ≤ t → p e = true) ∧ Aside0 (Lib.IsBuilder BT U8 w1.heap.size w1.heap.size (Lib.byteCells bt) W) ∧ Aside0 (W.heap[w.heap.size]? = some (.cells #[.int .i64 n, .slice A0 ws.length c0] 24 (0, 0))) ∧ Aside0 (Below w.heap.size w W))
        (fun a _ => n - (intOf (a.tmps.getD 7 undef)).toNat) ?start2 ?round2
      case start2 =>
        exact ⟨f, _, _, _, _, _, _, _, _, _, _, _, _, rfl, ⟨⟨Nat.le_refl _, hfn, fun e h1 h2 => (show f = e by omega) ▸ hpf2⟩⟩, HI, KA, HB⟩
      case round2 =>
        clear HI KA HB
        rintro a wi ⟨t, y20, y21, y22, y23, y24, y25, y26, y27, y28, y29, y30, y31, rfl, HTT, HI, KA, HB⟩
        obtain ⟨hft, htn, hall⟩ := HTT.out
        have HW1 := Aside0.mk (show wrap64 ((t : Int) + 1) = ((t + 1 : Nat) : Int) from by rw [w64_nat (by omega) (by omega)]; omega)
        by_cases hin : t + 1 < n
        · skip
          have q0 := (blk_cell KA.out 0).trans rfl; have q1 := (blk_cell KA.out 1).trans rfl
          gi_wp2_with fail
          refine ⟨trivial, ?_⟩; gi_at_call 71
          refine (callsIn_wide.2 (bitset_within.calls (n : Nat) _ _ ws ((t : Nat) + 1) true _ (Kd.C_below HC.out HB.out) hc0 (by have := within_yes (n := n) ws hin; push_cast at this; exact this))).mono ?_
          rintro e_ w5 ⟨rfl, hb⟩
          have hI2 := Aside0.mk (IsBuilder.below HI.out hb); have kA2 := Aside0.mk (blk_below KA.out hb); have hB2 := Aside0.mk (below_step HB.out hb)
          clear HI KA HB hb; have HI := hI2; have KA := kA2; have HB := hB2; clear hI2 kA2 hB2
          clear q0 q1
          have q0 := (blk_cell KA.out 0).trans rfl; have q1 := (blk_cell KA.out 1).trans rfl
          gi_wp2_with fail
          refine ⟨trivial, ?_⟩; gi_at_call 77
          refine (callsIn_wide.2 (bitset_has.calls (n : Nat) _ _ ws ((t : Nat) + 1) (p (t + 1)) _ (Kd.C_below HC.out HB.out) hc0 (by have := hHAS.out (t + 1) hin; push_cast at this; exact this))).mono ?_
          rintro e_ w6 ⟨rfl, hb⟩
          have hI2 := Aside0.mk (IsBuilder.below HI.out hb); have kA2 := Aside0.mk (blk_below KA.out hb); have hB2 := Aside0.mk (below_step HB.out hb)
          clear HI KA HB hb; have HI := hI2; have KA := kA2; have HB := hB2; clear hI2 kA2 hB2
          clear q0 q1
          cases hp1 : p (t + 1) with
          | true =>
            gi_wp2_with fail
            rw [show ((t : Int) + 1) = ((t + 1 : Nat) : Int) from by omega]
            refine ⟨⟨t + 1, _, _, _, _, _, _, _, _, _, _, _, _, rfl, ⟨⟨by omega, hin, fun e h1 h2 => ?_⟩⟩, HI, KA, HB⟩, ?_⟩
            · by_cases he : e = t + 1
              · rw [he]; exact hp1
              · exact hall e h1 (by omega)
            · show n - (intOf (.int .i64 ((t + 1 : Nat) : Int))).toNat < n - (intOf (.int .i64 (t : Int))).toNat
              simp only [intOf, Int.toNat_natCast]
              omega
          | false =>
            have hend : t + 1 = n ∨ p (t + 1) = false := .inr hp1
            gi_wp2_with fail
            refine ⟨trivial, ?_⟩; gi_at_call 102
            refine (callsIn_wide.2 (writeByte _ _ _ _ _ HI.out (by rw [bytes_len]; omega) HI.out.size_le)).mono ?_
            rintro e_ w7 ⟨rfl, h1_, hb⟩
            have hI2 := Aside0.mk (show Lib.IsBuilder BT U8 w1.heap.size w1.heap.size (Lib.byteCells (bt ++ [if c = true then 44 else 58])) w7 from .inr (by rw [← bytes_app]; first | exact h1_ | (rw [HLD.out] at h1_; exact h1_))); have kA2 := Aside0.mk ((hb.block _ hlt1).trans KA.out); have hB2 := Aside0.mk (below_more HB.out hb (Nat.le_of_lt hlt1))
            clear HI KA HB hb h1_; have HI := hI2; have KA := kA2; have HB := hB2; clear hI2 kA2 hB2
            gi_wp2_with fail
            refine ⟨trivial, ?_⟩; gi_at_call 101
            refine (callsIn_wide.2 (itoa_calls f (by omega) _ (pw_at HP.out HB.out))).mono ?_
            rintro e_ w8 ⟨rfl, hb⟩
            have hI2 := Aside0.mk (IsBuilder.below HI.out hb); have kA2 := Aside0.mk (blk_below KA.out hb); have hB2 := Aside0.mk (below_step HB.out hb)
            clear HI KA HB hb; have HI := hI2; have KA := kA2; have HB := hB2; clear hI2 kA2 hB2
            have hdf : (Lib.decDigits f).length ≤ 4 := dd_le (u := f) (by omega); have hdt : (Lib.decDigits t).length ≤ 4 := dd_le (u := t) (by omega); have hdf2 : (dd f).length ≤ 4 := hdf; have hdt2 : (dd t).length ≤ 4 := hdt
            gi_wp2_with fail
            refine ⟨trivial, ?_⟩; gi_at_call 100
            refine (callsIn_wide.2 (writeString _ _ _ _ _ HI.out (by rw [bytes_len, str_size, List.length_append]; simp; omega) HI.out.size_le)).mono ?_
            rintro e_ w9 ⟨rfl, h1_, hb⟩
            have hI2 := Aside0.mk (show Lib.IsBuilder BT U8 w1.heap.size w1.heap.size (Lib.byteCells (bt ++ [if c = true then 44 else 58] ++ dd f)) w9 from .inr (by rw [← bytes_app]; first | exact h1_ | (rw [HLD.out] at h1_; exact h1_))); have kA2 := Aside0.mk ((hb.block _ hlt1).trans KA.out); have hB2 := Aside0.mk (below_more HB.out hb (Nat.le_of_lt hlt1))
            clear HI KA HB hb h1_; have HI := hI2; have KA := kA2; have HB := hB2; clear hI2 kA2 hB2
            by_cases hlt : f < t
            · have hd2 : decide ((t : Int) > (f : Int)) = true := decide_eq_true (by omega)
              gi_wp2_with fail
              refine ⟨trivial, ?_⟩; gi_at_call 101
              refine (callsIn_wide.2 (itoa_calls t (by omega) _ (pw_at HP.out HB.out))).mono ?_
              rintro e_ w10 ⟨rfl, hb⟩
              have hI2 := Aside0.mk (IsBuilder.below HI.out hb); have kA2 := Aside0.mk (blk_below KA.out hb); have hB2 := Aside0.mk (below_step HB.out hb)
              clear HI KA HB hb; have HI := hI2; have KA := kA2; have HB := hB2; clear hI2 kA2 hB2
              gi_wp2_with fail
              refine ⟨trivial, ?_⟩; gi_at_call 100
              refine (callsIn_wide.2 (writeString _ _ _ _ _ HI.out (by rw [bytes_len, str_size, List.length_append, List.length_append]; simp; omega) HI.out.size_le)).mono ?_
              rintro e_ w11 ⟨rfl, h1_, hb⟩
              have hI2 := Aside0.mk (show Lib.IsBuilder BT U8 w1.heap.size w1.heap.size (Lib.byteCells (bt ++ [if c = true then 44 else 58] ++ dd f ++ 45 :: dd t)) w11 from .inr (by rw [← bytes_app]; first | exact h1_ | (rw [HLD.out] at h1_; exact h1_))); have kA2 := Aside0.mk ((hb.block _ hlt1).trans KA.out); have hB2 := Aside0.mk (below_more HB.out hb (Nat.le_of_lt hlt1))
              clear HI KA HB hb h1_; have HI := hI2; have KA := kA2; have HB := hB2; clear hI2 kA2 hB2
              obtain ⟨fr2, kn2, hN2, hST2⟩ := Pst.next_ hn hIs (HST.out.more hn hpf hno hft htn hall hend (bt2 := _) (by rw [if_pos hlt]))
              have HN2 := Aside0.mk hN2; have HST2 := Aside0.mk hST2; clear hN2 hST2
              have q0 := (blk_cell KA.out 0).trans rfl; have q1 := (blk_cell KA.out 1).trans rfl
              gi_wp2_with fail
              refine ⟨trivial, ?_⟩; gi_at_call 29
              refine (callsIn_wide.2 (bitset_Next.calls kn2 (n : Nat) _ _ ws ((t : Nat) + 1) fr2 _ (Kd.C_below HC.out HB.out) hc0 (tz_at HG.out HB.out) (by have := HN2.out; push_cast at this; exact this))).mono ?_
              rintro e_ w12 ⟨rfl, hb⟩
              have hI2 := Aside0.mk (IsBuilder.below HI.out hb); have kA2 := Aside0.mk (blk_below KA.out hb); have hB2 := Aside0.mk (below_step HB.out hb)
              clear HI KA HB hb; have HI := hI2; have KA := kA2; have HB := hB2; clear hI2 kA2 hB2
              clear q0 q1
              gi_wp2_with fail
              have HS2 := Aside0.mk (show Psl p n (t + 1) (bt ++ [if c = true then 44 else 58] ++ dd f ++ 45 :: dd t) fr2 44 from ⟨true, HST2.out, rfl⟩)
              first | refine ⟨⟨t + 1, _, fr2, 44, _, _, _, _, _, _, _, _, _, _, _, _, _, _, _, _, _, _, _, _, _, _, _, _, _, _, _, _, _, _, _, _, _, _, rfl, HS2, HI, KA, HB⟩, ?_⟩ | refine ⟨⟨_, fr2, 44, ⟨rfl, rfl⟩, HS2, HI⟩, ?_⟩
              exact HST2.out.dec hfn (by omega)
            · have hd2 : decide ((t : Int) > (f : Int)) = false := decide_eq_false (by omega)
              obtain ⟨fr2, kn2, hN2, hST2⟩ := Pst.next_ hn hIs (HST.out.more hn hpf hno hft htn hall hend (bt2 := _) (by rw [if_neg hlt, List.append_nil]))
              have HN2 := Aside0.mk hN2; have HST2 := Aside0.mk hST2; clear hN2 hST2
              have q0 := (blk_cell KA.out 0).trans rfl; have q1 := (blk_cell KA.out 1).trans rfl
              gi_wp2_with fail
              refine ⟨trivial, ?_⟩; gi_at_call 29
              refine (callsIn_wide.2 (bitset_Next.calls kn2 (n : Nat) _ _ ws ((t : Nat) + 1) fr2 _ (Kd.C_below HC.out HB.out) hc0 (tz_at HG.out HB.out) (by have := HN2.out; push_cast at this; exact this))).mono ?_
              rintro e_ w10 ⟨rfl, hb⟩
              have hI2 := Aside0.mk (IsBuilder.below HI.out hb); have kA2 := Aside0.mk (blk_below KA.out hb); have hB2 := Aside0.mk (below_step HB.out hb)
              clear HI KA HB hb; have HI := hI2; have KA := kA2; have HB := hB2; clear hI2 kA2 hB2
              clear q0 q1
              gi_wp2_with fail
              have HS2 := Aside0.mk (show Psl p n (t + 1) (bt ++ [if c = true then 44 else 58] ++ dd f) fr2 44 from ⟨true, HST2.out, rfl⟩)
              first | refine ⟨⟨t + 1, _, fr2, 44, _, _, _, _, _, _, _, _, _, _, _, _, _, _, _, _, _, _, _, _, _, _, _, _, _, _, _, _, _, _, _, _, _, _, rfl, HS2, HI, KA, HB⟩, ?_⟩ | refine ⟨⟨_, fr2, 44, ⟨rfl, rfl⟩, HS2, HI⟩, ?_⟩
              exact HST2.out.dec hfn (by omega)
        · skip
          have q0 := (blk_cell KA.out 0).trans rfl; have q1 := (blk_cell KA.out 1).trans rfl
          gi_wp2_with fail
          refine ⟨trivial, ?_⟩; gi_at_call 71
          refine (callsIn_wide.2 (bitset_within.calls (n : Nat) _ _ ws ((t : Nat) + 1) false _ (Kd.C_below HC.out HB.out) hc0 (within_no ws (.inr (by omega))))).mono ?_
          rintro e_ w5 ⟨rfl, hb⟩
          have hI2 := Aside0.mk (IsBuilder.below HI.out hb); have kA2 := Aside0.mk (blk_below KA.out hb); have hB2 := Aside0.mk (below_step HB.out hb)
          clear HI KA HB hb; have HI := hI2; have KA := kA2; have HB := hB2; clear hI2 kA2 hB2
          clear q0 q1
          gi_wp2_with fail
          refine ⟨trivial, ?_⟩
          have hend : t + 1 = n ∨ p (t + 1) = false := .inl (by omega)
          gi_wp2_with fail
          refine ⟨trivial, ?_⟩; gi_at_call 102
          refine (callsIn_wide.2 (writeByte _ _ _ _ _ HI.out (by rw [bytes_len]; omega) HI.out.size_le)).mono ?_
          rintro e_ w6 ⟨rfl, h1_, hb⟩
          have hI2 := Aside0.mk (show Lib.IsBuilder BT U8 w1.heap.size w1.heap.size (Lib.byteCells (bt ++ [if c = true then 44 else 58])) w6 from .inr (by rw [← bytes_app]; first | exact h1_ | (rw [HLD.out] at h1_; exact h1_))); have kA2 := Aside0.mk ((hb.block _ hlt1).trans KA.out); have hB2 := Aside0.mk (below_more HB.out hb (Nat.le_of_lt hlt1))
          clear HI KA HB hb h1_; have HI := hI2; have KA := kA2; have HB := hB2; clear hI2 kA2 hB2
          gi_wp2_with fail
          refine ⟨trivial, ?_⟩; gi_at_call 101
          refine (callsIn_wide.2 (itoa_calls f (by omega) _ (pw_at HP.out HB.out))).mono ?_
          rintro e_ w7 ⟨rfl, hb⟩
          have hI2 := Aside0.mk (IsBuilder.below HI.out hb); have kA2 := Aside0.mk (blk_below KA.out hb); have hB2 := Aside0.mk (below_step HB.out hb)
          clear HI KA HB hb; have HI := hI2; have KA := kA2; have HB := hB2; clear hI2 kA2 hB2
          have hdf : (Lib.decDigits f).length ≤ 4 := dd_le (u := f) (by omega); have hdt : (Lib.decDigits t).length ≤ 4 := dd_le (u := t) (by omega); have hdf2 : (dd f).length ≤ 4 := hdf; have hdt2 : (dd t).length ≤ 4 := hdt
          gi_wp2_with fail
          refine ⟨trivial, ?_⟩; gi_at_call 100
          refine (callsIn_wide.2 (writeString _ _ _ _ _ HI.out (by rw [bytes_len, str_size, List.length_append]; simp; omega) HI.out.size_le)).mono ?_
          rintro e_ w8 ⟨rfl, h1_, hb⟩
          have hI2 := Aside0.mk (show Lib.IsBuilder BT U8 w1.heap.size w1.heap.size (Lib.byteCells (bt ++ [if c = true then 44 else 58] ++ dd f)) w8 from .inr (by rw [← bytes_app]; first | exact h1_ | (rw [HLD.out] at h1_; exact h1_))); have kA2 := Aside0.mk ((hb.block _ hlt1).trans KA.out); have hB2 := Aside0.mk (below_more HB.out hb (Nat.le_of_lt hlt1))
          clear HI KA HB hb h1_; have HI := hI2; have KA := kA2; have HB := hB2; clear hI2 kA2 hB2
          by_cases hlt : f < t
          · have hd2 : decide ((t : Int) > (f : Int)) = true := decide_eq_true (by omega)
            gi_wp2_with fail
            refine ⟨trivial, ?_⟩; gi_at_call 101
            refine (callsIn_wide.2 (itoa_calls t (by omega) _ (pw_at HP.out HB.out))).mono ?_
            rintro e_ w9 ⟨rfl, hb⟩
            have hI2 := Aside0.mk (IsBuilder.below HI.out hb); have kA2 := Aside0.mk (blk_below KA.out hb); have hB2 := Aside0.mk (below_step HB.out hb)
            clear HI KA HB hb; have HI := hI2; have KA := kA2; have HB := hB2; clear hI2 kA2 hB2
            gi_wp2_with fail
            refine ⟨trivial, ?_⟩; gi_at_call 100
            refine (callsIn_wide.2 (writeString _ _ _ _ _ HI.out (by rw [bytes_len, str_size, List.length_append, List.length_append]; simp; omega) HI.out.size_le)).mono ?_
            rintro e_ w10 ⟨rfl, h1_, hb⟩
            have hI2 := Aside0.mk (show Lib.IsBuilder BT U8 w1.heap.size w1.heap.size (Lib.byteCells (bt ++ [if c = true then 44 else 58] ++ dd f ++ 45 :: dd t)) w10 from .inr (by rw [← bytes_app]; first | exact h1_ | (rw [HLD.out] at h1_; exact h1_))); have kA2 := Aside0.mk ((hb.block _ hlt1).trans KA.out); have hB2 := Aside0.mk (below_more HB.out hb (Nat.le_of_lt hlt1))
            clear HI KA HB hb h1_; have HI := hI2; have KA := kA2; have HB := hB2; clear hI2 kA2 hB2
            obtain ⟨fr2, kn2, hN2, hST2⟩ := Pst.next_ hn hIs (HST.out.more hn hpf hno hft htn hall hend (bt2 := _) (by rw [if_pos hlt]))
            have HN2 := Aside0.mk hN2; have HST2 := Aside0.mk hST2; clear hN2 hST2
            have q0 := (blk_cell KA.out 0).trans rfl; have q1 := (blk_cell KA.out 1).trans rfl
            gi_wp2_with fail
            refine ⟨trivial, ?_⟩; gi_at_call 29
            refine (callsIn_wide.2 (bitset_Next.calls kn2 (n : Nat) _ _ ws ((t : Nat) + 1) fr2 _ (Kd.C_below HC.out HB.out) hc0 (tz_at HG.out HB.out) (by have := HN2.out; push_cast at this; exact this))).mono ?_
            rintro e_ w11 ⟨rfl, hb⟩
            have hI2 := Aside0.mk (IsBuilder.below HI.out hb); have kA2 := Aside0.mk (blk_below KA.out hb); have hB2 := Aside0.mk (below_step HB.out hb)
            clear HI KA HB hb; have HI := hI2; have KA := kA2; have HB := hB2; clear hI2 kA2 hB2
            clear q0 q1
            gi_wp2_with fail
            have HS2 := Aside0.mk (show Psl p n (t + 1) (bt ++ [if c = true then 44 else 58] ++ dd f ++ 45 :: dd t) fr2 44 from ⟨true, HST2.out, rfl⟩)
            first | refine ⟨⟨t + 1, _, fr2, 44, _, _, _, _, _, _, _, _, _, _, _, _, _, _, _, _, _, _, _, _, _, _, _, _, _, _, _, _, _, _, _, _, _, _, rfl, HS2, HI, KA, HB⟩, ?_⟩ | refine ⟨⟨_, fr2, 44, ⟨rfl, rfl⟩, HS2, HI⟩, ?_⟩
            exact HST2.out.dec hfn (by omega)
          · have hd2 : decide ((t : Int) > (f : Int)) = false := decide_eq_false (by omega)
            obtain ⟨fr2, kn2, hN2, hST2⟩ := Pst.next_ hn hIs (HST.out.more hn hpf hno hft htn hall hend (bt2 := _) (by rw [if_neg hlt, List.append_nil]))
            have HN2 := Aside0.mk hN2; have HST2 := Aside0.mk hST2; clear hN2 hST2
            have q0 := (blk_cell KA.out 0).trans rfl; have q1 := (blk_cell KA.out 1).trans rfl
            gi_wp2_with fail
            refine ⟨trivial, ?_⟩; gi_at_call 29
            refine (callsIn_wide.2 (bitset_Next.calls kn2 (n : Nat) _ _ ws ((t : Nat) + 1) fr2 _ (Kd.C_below HC.out HB.out) hc0 (tz_at HG.out HB.out) (by have := HN2.out; push_cast at this; exact this))).mono ?_
            rintro e_ w9 ⟨rfl, hb⟩
            have hI2 := Aside0.mk (IsBuilder.below HI.out hb); have kA2 := Aside0.mk (blk_below KA.out hb); have hB2 := Aside0.mk (below_step HB.out hb)
            clear HI KA HB hb; have HI := hI2; have KA := kA2; have HB := hB2; clear hI2 kA2 hB2
            clear q0 q1
            gi_wp2_with fail
            have HS2 := Aside0.mk (show Psl p n (t + 1) (bt ++ [if c = true then 44 else 58] ++ dd f) fr2 44 from ⟨true, HST2.out, rfl⟩)
            first | refine ⟨⟨t + 1, _, fr2, 44, _, _, _, _, _, _, _, _, _, _, _, _, _, _, _, _, _, _, _, _, _, _, _, _, _, _, _, _, _, _, _, _, _, _, rfl, HS2, HI, KA, HB⟩, ?_⟩ | refine ⟨⟨_, fr2, 44, ⟨rfl, rfl⟩, HS2, HI⟩, ?_⟩
            exact HST2.out.dec hfn (by omega)
end Go.Proofs.YtjmkhdhffmlhiaaDoor.PAll
end
section
namespace Go.Proofs.YtjmkhdhffmlhiaaDoor.PAll
open Go.RowKit Go.Proofs.YtjmkhdhffmlhiaaDoorW.PrintWords Go.Proofs.YtjmkhdhffmlhiaaDoorW.PrintLast Go.Proofs.YtjmkhdhffmlhiaaDoorW.PrintMore
attribute [local go_sem] max2_int min2_int max_two min_two max_three min_three max_four min_four w64_u8 w64_mod256   -- for this text's walks alone
set_option linter.unusedVariables false
set_option linter.unusedSimpArgs false
end Go.Proofs.YtjmkhdhffmlhiaaDoor.PAll
end
section
namespace Go.Proofs.YtjmkhdhffmlhiaaDoor.PAll
open Go.RowKit Go.Proofs.YtjmkhdhffmlhiaaDoorW.PrintWords Go.Proofs.YtjmkhdhffmlhiaaDoorW.PrintLast Go.Proofs.YtjmkhdhffmlhiaaDoorW.PrintMore
end Go.Proofs.YtjmkhdhffmlhiaaDoor.PAll
end
section
namespace Go.Proofs.YtjmkhdhffmlhiaaDoor.PAll
open Go.RowKit Go.Proofs.YtjmkhdhffmlhiaaDoorW.PrintWords Go.Proofs.YtjmkhdhffmlhiaaDoorW.PrintLast Go.Proofs.YtjmkhdhffmlhiaaDoorW.PrintMore
end Go.Proofs.YtjmkhdhffmlhiaaDoor.PAll
end
section
namespace Go.Proofs.YtjmkhdhffmlhiaaDoor.PAll
open Go.RowKit Go.Proofs.YtjmkhdhffmlhiaaDoorW.PrintWords Go.Proofs.YtjmkhdhffmlhiaaDoorW.PrintLast Go.Proofs.YtjmkhdhffmlhiaaDoorW.PrintMore
end Go.Proofs.YtjmkhdhffmlhiaaDoor.PAll
end
section
namespace Go.Proofs.YtjmkhdhffmlhiaaDoor.PAll
open Go.RowKit Go.Proofs.YtjmkhdhffmlhiaaDoorW.PrintWords Go.Proofs.YtjmkhdhffmlhiaaDoorW.PrintLast Go.Proofs.YtjmkhdhffmlhiaaDoorW.PrintMore
end Go.Proofs.YtjmkhdhffmlhiaaDoor.PAll
end
section
namespace Go.Proofs.YtjmkhdhffmlhiaaDoor.PAll
set_option linter.unusedVariables false
set_option linter.unusedSimpArgs false
open Go.RowKit Go.Shelf Go.Proofs.YtjmkhdhffmlhiaaDoorW.PrintWords Go.Proofs.YtjmkhdhffmlhiaaDoorW.PrintLast Go.Proofs.YtjmkhdhffmlhiaaDoorW.PrintMore
attribute [local go_sem] Oper.semAt_some
set_option maxHeartbeats 8000000 in
set_option maxRecDepth 100000 in
theorem Print_no (n0 : Int) (A0 : Option Addr) (c0 : Nat) (ws : List Int) (w : World) (hr0 : Kd.C (Kd.int .u64) w A0 ws.length ws) (hc0 : ws.length ≤ c0) (hM : bitset_May.f n0 ws = some false) :
    Calls Tryd.prog 61 #[.agg #[.int .i64 n0, .slice A0 ws.length c0]] w fun e w' => e = .returned (.tuple #[.string (ba []), .int .i64 61]) ∧ Below w.heap.size w w' := by
  have hu24 := Tryd.underlying24
  have HC := Aside0.mk hr0
  have HM := Aside0.mk hM
  clear hr0 hM
  have KA := Aside0.mk (blk_new w (.cells #[.int .i64 n0, .slice A0 ws.length c0] 24 (0, 0)))
  have HB := Aside0.mk (below_alloc (Below.refl w.heap.size w) (.cells #[.int .i64 n0, .slice A0 ws.length c0] 24 (0, 0)))
  refine (callsIn_wide (n := 6)).1 ?_
  refine callsIn_of_wp Tryd.func61 rfl trivial ?_ rfl
  simp only [Tryd.ntmps61, List.size_toArray, List.length_cons, List.length_nil, Nat.reduceAdd, Nat.reduceSub, Array.replicate_succ, Array.replicate_zero, List.push_toArray, List.append_toArray, List.nil_append, List.cons_append]
  have q0 := (blk_cell KA.out 0).trans rfl; have q1 := (blk_cell KA.out 1).trans rfl
  gi_wp2_with fail
  refine ⟨trivial, ?_⟩; gi_at_call 69
  refine (callsIn_wide.2 (bitset_May.calls n0 _ _ ws false _ (Kd.C_below HC.out HB.out) hc0 HM.out)).mono ?_
  rintro e w1 ⟨rfl, hb⟩
  have hBf := below_step HB.out hb
  gi_wp2_with fail
  refine bodyPost_ret (v := .tuple #[.string (ba []), .int .i64 61]) ?_ rfl ⟨rfl, hBf⟩
  simp [results, Tryd.f61, go_sem, ba]
end Go.Proofs.YtjmkhdhffmlhiaaDoor.PAll
end
section
namespace Go.Proofs.YtjmkhdhffmlhiaaDoor.PAll
set_option linter.unusedVariables false
set_option linter.unusedSimpArgs false
open Go.RowKit Go.Shelf Go.Proofs.YtjmkhdhffmlhiaaDoorW.PrintWords Go.Proofs.YtjmkhdhffmlhiaaDoorW.PrintLast Go.Proofs.YtjmkhdhffmlhiaaDoorW.PrintMore
attribute [local go_sem] Oper.semAt_some
def PrintIs (n0 : Int) (l0 : List Int) (r : ByteArray) (e1 : Int) : Prop := ∀ (A0 : Option Addr) (c0 : Nat) (w : World), Kd.C (Kd.int .u64) w A0 l0.length l0 → l0.length ≤ c0 → Tz w → Pw w → Calls Tryd.prog 61 #[.agg #[.int .i64 n0, .slice A0 l0.length c0]] w fun x w' => x = .returned (.tuple #[.string r, .int .i64 e1]) ∧ Below w.heap.size w w'
def ParseIs (t : ByteArray) (n : Int) (ws : List Int) (a c : Int) : Prop := ∀ (w : World), Calls Tryd.prog 64 #[.string t] w fun e w' => ∃ v : Value, e = .returned (.tuple #[.agg #[.int .i64 n, v], .int .i64 a, .int .i64 c]) ∧ Kd.R (Kd.int .u64) 87 w' w.heap.size (fun _ => True) v ws ∧ Below w.heap.size w w'
theorem parse_is {t : ByteArray} {n a c : Int} {ws : List Int} (h : ∀ r, ParseSays t r → r = (n, ws, a, c)) : ParseIs t n ws a c := by
  intro w
  obtain ⟨r, h1, h2⟩ := Parse_says t w
  obtain rfl := h r h1
  exact h2
theorem ParseSays.one {t : ByteArray} {r s : Int × List Int × Int × Int} (hr : ParseSays t r) (hs : ParseSays t s) : s = r := by
  unfold ParseSays at hr hs
  by_cases hz : 65536 < t.size
  · rw [if_pos hz] at hr hs
    rw [hr, hs]
  · rw [if_neg hz] at hr hs
    by_cases hq : 0 ≤ (nums t).2
    · rw [if_pos hq] at hr hs
      rw [hr, hs]
    · rw [if_neg hq] at hr hs
      obtain ⟨x0, l, g1, g2⟩ := hr
      obtain ⟨y0, m, f1, f2⟩ := hs
      rw [g1] at f1
      injection f1 with f1 _
      injection f1 with f3 f4
      subst f3 f4
      rcases g2 with ⟨g5, g6⟩ | ⟨n, g5, g6, g7⟩
      · rcases f2 with ⟨f5, f6⟩ | ⟨m, f5, f6, f7⟩
        · rw [g6, f6]
        · exact absurd ⟨by omega, by omega⟩ g5
      · rcases f2 with ⟨f5, f6⟩ | ⟨m, f5, f6, f7⟩
        · exact absurd ⟨by omega, by omega⟩ f5
        · obtain rfl : m = n := by omega
          rcases g7 with ⟨q, ws, g8, g9, g10⟩ | ⟨a, c, g8, g9⟩ <;> rcases f7 with ⟨q', ws', f8, f9, f10⟩ | ⟨a', c', f8, f9⟩
          · rw [g8] at f8
            injection f8 with f8
            subst f8
            obtain rfl := g9.eq f9 (fun _ _ => rfl)
            rw [g10, f10]
          · rw [g8] at f8; cases f8
          · rw [g8] at f8; cases f8
          · rw [g8] at f8
            injection f8 with f8
            injection f8 with f8 f11
            subst f8 f11
            rw [g9, f9]
set_option maxHeartbeats 8000000 in
set_option maxRecDepth 100000 in
theorem BitRound_may_ok (ka k2 s1 : Nat) (n0 : Int) (A0 : Option Addr) (c0 : Nat) (l0 : List Int) (tt tx : ByteArray) (w : World) (hr0 : Kd.C (Kd.int .u64) w A0 l0.length l0) (hc0 : l0.length ≤ c0) (hG : Tz w) (hP : Pw w) (n a c : Int) (ws : List Int) (hal : slopelaw3_alive.f ka = some true)
    (h1 : PrintIs n0 l0 tx 0)
    (h2 : sloperef3_May.f k2 n0 l0 = some true)
    (h3 : ParseIs tx n0 l0 0 0) (t1 : slopelaw3_same.f s1 n0 l0 n0 l0 = some true)
    (h4 : ParseIs tt n ws 0 0) (h5 : PrintIs n ws tt 0) :
    Calls Tryd.prog 12 #[.agg #[.int .i64 n0, .slice A0 l0.length c0], .string tt] w fun e w' => e = .returned (.bool true) ∧ Below w.heap.size w w' := by
  have hu24 := Tryd.underlying24
  have HC := Aside0.mk hr0
  have HG := Aside0.mk hG
  have HP := Aside0.mk hP
  have HAl := Aside0.mk hal
  have H1 := Aside0.mk h1
  have H2 := Aside0.mk h2
  have H3 := Aside0.mk h3
  have H4 := Aside0.mk h4
  have H5 := Aside0.mk h5
  have S1 := Aside0.mk t1
  clear hr0 hG hP hal h1 h2 h3 h4 h5 t1
  have KA := Aside0.mk (blk_new w (.cells #[.int .i64 n0, .slice A0 l0.length c0] 24 (0, 0)))
  have HB := Aside0.mk (below_alloc (Below.refl w.heap.size w) (.cells #[.int .i64 n0, .slice A0 l0.length c0] 24 (0, 0)))
  refine (callsIn_wide (n := 6)).1 ?_
  refine callsIn_of_wp Tryd.func12 rfl trivial ?_ rfl
  simp only [Tryd.ntmps12, List.size_toArray, List.length_cons, List.length_nil, Nat.reduceAdd, Nat.reduceSub, Array.replicate_succ, Array.replicate_zero, List.push_toArray, List.append_toArray, List.nil_append, List.cons_append]
  gi_wp2_with fail
  refine ⟨trivial, ?_⟩; gi_at_call 31
  refine (callsIn_wide.2 (slopelaw3_alive.calls ka true _ HAl.out)).mono ?_
  rintro e w1 ⟨rfl, hb⟩
  have nKA_ := Aside0.mk (blk_below KA.out hb)
  have nHB_ := Aside0.mk (below_step HB.out hb)
  clear KA HB
  have KA := nKA_; have HB := nHB_
  clear nKA_ nHB_
  clear hb
  have qKA0 := (blk_cell KA.out 0).trans rfl; have qKA1 := (blk_cell KA.out 1).trans rfl
  gi_wp2_with fail
  refine ⟨trivial, ?_⟩; gi_at_call 61
  refine (callsIn_wide.2 (H1.out _ _ _ (Kd.C_below HC.out HB.out) hc0 (tz_at HG.out HB.out) (pw_at HP.out HB.out))).mono ?_
  rintro e w2 ⟨rfl, hb⟩
  have nKA_ := Aside0.mk (blk_below KA.out hb)
  have nHB_ := Aside0.mk (below_step HB.out hb)
  clear KA HB
  have KA := nKA_; have HB := nHB_
  clear nKA_ nHB_
  clear hb
  clear qKA0 qKA1
  have qKA0 := (blk_cell KA.out 0).trans rfl; have qKA1 := (blk_cell KA.out 1).trans rfl
  gi_wp2_with fail
  refine ⟨trivial, ?_⟩; gi_at_call 63
  refine (callsIn_wide.2 (sloperef3_May.calls k2 n0 _ _ l0 true _ (Kd.C_below HC.out HB.out) hc0 H2.out)).mono ?_
  rintro e w3 ⟨rfl, hb⟩
  have nKA_ := Aside0.mk (blk_below KA.out hb)
  have nHB_ := Aside0.mk (below_step HB.out hb)
  clear KA HB
  have KA := nKA_; have HB := nHB_
  clear nKA_ nHB_
  clear hb
  clear qKA0 qKA1
  gi_wp2_with fail
  refine ⟨trivial, ?_⟩; gi_at_call 21
  refine (callsIn_wide.2 (slopelaw3_num.calls 0 0 _ rfl)).mono ?_
  rintro e w4 ⟨rfl, hd⟩
  have hb := hd.below; clear hd
  have nKA_ := Aside0.mk (blk_below KA.out hb)
  have nHB_ := Aside0.mk (below_step HB.out hb)
  clear KA HB
  have KA := nKA_; have HB := nHB_
  clear nKA_ nHB_
  clear hb
  gi_wp2_with fail
  refine ⟨trivial, ?_⟩; gi_at_call 21
  refine (callsIn_wide.2 (slopelaw3_num.calls 0 0 _ rfl)).mono ?_
  rintro e w5 ⟨rfl, hd⟩
  have hb := hd.below; clear hd
  have nKA_ := Aside0.mk (blk_below KA.out hb)
  have nHB_ := Aside0.mk (below_step HB.out hb)
  clear KA HB
  have KA := nKA_; have HB := nHB_
  clear nKA_ nHB_
  clear hb
  gi_wp2_with fail
  refine ⟨trivial, ?_⟩; gi_at_call 64
  refine (callsIn_wide.2 (H3.out _)).mono ?_
  rintro e w6 ⟨v1, rfl, ho, hb⟩
  obtain ⟨AQ1, cQ1, et⟩ := Kd.R_slice ho
  subst et
  have lQ1 := Aside0.mk (Kd.R_reads' ho).2.1; have mQ1 := Aside0.mk (Kd.R_reads' ho).2.2
  clear ho
  have nKA_ := Aside0.mk (blk_below KA.out hb)
  have nHB_ := Aside0.mk (below_step HB.out hb)
  clear KA HB
  have KA := nKA_; have HB := nHB_
  clear nKA_ nHB_
  have Q1 := mQ1; clear mQ1
  have xK1 := Aside0.mk (blk_new w6 (.cells #[.int .i64 n0, .slice AQ1 l0.length cQ1] 24 (0, 0)))
  clear hb
  have nKA_ := Aside0.mk (blk_alloc KA.out (.cells #[.int .i64 n0, .slice AQ1 l0.length cQ1] 24 (0, 0)))
  have nHB_ := Aside0.mk (below_alloc HB.out (.cells #[.int .i64 n0, .slice AQ1 l0.length cQ1] 24 (0, 0)))
  have nQ1_ := Aside0.mk (Kd.C_alloc Q1.out (.cells #[.int .i64 n0, .slice AQ1 l0.length cQ1] 24 (0, 0)))
  clear KA HB Q1
  have KA := nKA_; have HB := nHB_; have Q1 := nQ1_
  clear nKA_ nHB_ nQ1_
  have K1 := xK1; clear xK1
  gi_wp2_with fail
  refine ⟨trivial, ?_⟩; gi_at_call 21
  refine (callsIn_wide.2 (slopelaw3_num.calls 0 0 _ rfl)).mono ?_
  rintro e w7 ⟨rfl, hd⟩
  have hb := hd.below; clear hd
  have nKA_ := Aside0.mk (blk_below KA.out hb)
  have nHB_ := Aside0.mk (below_step HB.out hb)
  have nQ1_ := Aside0.mk (Kd.C_below Q1.out hb)
  have nK1_ := Aside0.mk (blk_below K1.out hb)
  clear KA HB Q1 K1
  have KA := nKA_; have HB := nHB_; have Q1 := nQ1_; have K1 := nK1_
  clear nKA_ nHB_ nQ1_ nK1_
  clear hb
  have qKA0 := (blk_cell KA.out 0).trans rfl; have qKA1 := (blk_cell KA.out 1).trans rfl
  have qK10 := (blk_cell K1.out 0).trans rfl; have qK11 := (blk_cell K1.out 1).trans rfl
  gi_wp2_with fail
  refine ⟨trivial, ?_⟩; gi_at_call 20
  refine (callsIn_wide.2 (slopelaw3_same.calls s1 n0 _ _ l0 n0 _ _ l0 true _ Q1.out lQ1.out (Kd.C_below HC.out HB.out) hc0 S1.out)).mono ?_
  rintro e w8 ⟨rfl, hb⟩
  clear qKA0 qKA1 qK10 qK11
  have nKA_ := Aside0.mk (blk_below KA.out hb)
  have nHB_ := Aside0.mk (below_step HB.out hb)
  clear KA HB K1 Q1
  have KA := nKA_; have HB := nHB_
  clear nKA_ nHB_
  clear hb
  gi_wp2_with fail
  refine ⟨trivial, ?_⟩; gi_at_call 64
  refine (callsIn_wide.2 (H4.out _)).mono ?_
  rintro e w9 ⟨v2, rfl, ho, hb⟩
  obtain ⟨AQ2, cQ2, et⟩ := Kd.R_slice ho
  subst et
  have lQ2 := Aside0.mk (Kd.R_reads' ho).2.1; have mQ2 := Aside0.mk (Kd.R_reads' ho).2.2
  clear ho
  have nKA_ := Aside0.mk (blk_below KA.out hb)
  have nHB_ := Aside0.mk (below_step HB.out hb)
  clear KA HB
  have KA := nKA_; have HB := nHB_
  clear nKA_ nHB_
  have Q2 := mQ2; clear mQ2
  have xK2 := Aside0.mk (blk_new w9 (.cells #[.int .i64 n, .slice AQ2 ws.length cQ2] 24 (0, 0)))
  clear hb
  have nKA_ := Aside0.mk (blk_alloc KA.out (.cells #[.int .i64 n, .slice AQ2 ws.length cQ2] 24 (0, 0)))
  have nHB_ := Aside0.mk (below_alloc HB.out (.cells #[.int .i64 n, .slice AQ2 ws.length cQ2] 24 (0, 0)))
  have nQ2_ := Aside0.mk (Kd.C_alloc Q2.out (.cells #[.int .i64 n, .slice AQ2 ws.length cQ2] 24 (0, 0)))
  clear KA HB Q2
  have KA := nKA_; have HB := nHB_; have Q2 := nQ2_
  clear nKA_ nHB_ nQ2_
  have K2 := xK2; clear xK2
  gi_wp2_with fail
  refine ⟨trivial, ?_⟩; gi_at_call 21
  refine (callsIn_wide.2 (slopelaw3_num.calls 0 0 _ rfl)).mono ?_
  rintro e w10 ⟨rfl, hd⟩
  have hb := hd.below; clear hd
  have nKA_ := Aside0.mk (blk_below KA.out hb)
  have nHB_ := Aside0.mk (below_step HB.out hb)
  have nQ2_ := Aside0.mk (Kd.C_below Q2.out hb)
  have nK2_ := Aside0.mk (blk_below K2.out hb)
  clear KA HB Q2 K2
  have KA := nKA_; have HB := nHB_; have Q2 := nQ2_; have K2 := nK2_
  clear nKA_ nHB_ nQ2_ nK2_
  clear hb
  have qK20 := (blk_cell K2.out 0).trans rfl; have qK21 := (blk_cell K2.out 1).trans rfl
  gi_wp2_with fail
  refine ⟨trivial, ?_⟩; gi_at_call 61
  refine (callsIn_wide.2 (H5.out _ _ _ Q2.out lQ2.out (tz_at HG.out HB.out) (pw_at HP.out HB.out))).mono ?_
  rintro e w11 ⟨rfl, hb⟩
  clear qK20 qK21
  have nKA_ := Aside0.mk (blk_below KA.out hb)
  have nHB_ := Aside0.mk (below_step HB.out hb)
  have nQ2_ := Aside0.mk (Kd.C_below Q2.out hb)
  have nK2_ := Aside0.mk (blk_below K2.out hb)
  clear KA HB Q2 K2
  have KA := nKA_; have HB := nHB_; have Q2 := nQ2_; have K2 := nK2_
  clear nKA_ nHB_ nQ2_ nK2_
  clear hb
  gi_wp2_with fail
  refine ⟨trivial, ?_⟩; gi_at_call 21
  refine (callsIn_wide.2 (slopelaw3_num.calls 0 0 _ rfl)).mono ?_
  rintro e w12 ⟨rfl, hd⟩
  have hb := hd.below; clear hd
  have nKA_ := Aside0.mk (blk_below KA.out hb)
  have nHB_ := Aside0.mk (below_step HB.out hb)
  have nQ2_ := Aside0.mk (Kd.C_below Q2.out hb)
  have nK2_ := Aside0.mk (blk_below K2.out hb)
  clear KA HB Q2 K2
  have KA := nKA_; have HB := nHB_; have Q2 := nQ2_; have K2 := nK2_
  clear nKA_ nHB_ nQ2_ nK2_
  clear hb
  gi_wp2_with fail
  refine bodyPost_ret (v := .bool true) ?_ rfl ⟨rfl, HB.out⟩
  simp [results, Tryd.f12, go_sem]
set_option maxHeartbeats 8000000 in
set_option maxRecDepth 100000 in
theorem BitRound_may_no (ka k2 s1 : Nat) (n0 : Int) (A0 : Option Addr) (c0 : Nat) (l0 : List Int) (tt tx : ByteArray) (w : World) (hr0 : Kd.C (Kd.int .u64) w A0 l0.length l0) (hc0 : l0.length ≤ c0) (hG : Tz w) (hP : Pw w) (n a c : Int) (ws : List Int) (hal : slopelaw3_alive.f ka = some true)
    (h1 : PrintIs n0 l0 tx 0)
    (h2 : sloperef3_May.f k2 n0 l0 = some true)
    (h3 : ParseIs tx n0 l0 0 0) (t1 : slopelaw3_same.f s1 n0 l0 n0 l0 = some true)
    (h4 : ParseIs tt 0 [] a c) (hc1 : (c != 0) = true) (hc2 : (c == 0) = false) (hca : decide (0 ≤ a) = true) (hcb : decide (a ≤ (tt.size : Int)) = true) :
    Calls Tryd.prog 12 #[.agg #[.int .i64 n0, .slice A0 l0.length c0], .string tt] w fun e w' => e = .returned (.bool true) ∧ Below w.heap.size w w' := by
  have hu24 := Tryd.underlying24
  have HC := Aside0.mk hr0
  have HG := Aside0.mk hG
  have HP := Aside0.mk hP
  have HAl := Aside0.mk hal
  have H1 := Aside0.mk h1
  have H2 := Aside0.mk h2
  have H3 := Aside0.mk h3
  have H4 := Aside0.mk h4
  have S1 := Aside0.mk t1
  clear hr0 hG hP hal h1 h2 h3 h4 t1
  have KA := Aside0.mk (blk_new w (.cells #[.int .i64 n0, .slice A0 l0.length c0] 24 (0, 0)))
  have HB := Aside0.mk (below_alloc (Below.refl w.heap.size w) (.cells #[.int .i64 n0, .slice A0 l0.length c0] 24 (0, 0)))
  refine (callsIn_wide (n := 6)).1 ?_
  refine callsIn_of_wp Tryd.func12 rfl trivial ?_ rfl
  simp only [Tryd.ntmps12, List.size_toArray, List.length_cons, List.length_nil, Nat.reduceAdd, Nat.reduceSub, Array.replicate_succ, Array.replicate_zero, List.push_toArray, List.append_toArray, List.nil_append, List.cons_append]
  gi_wp2_with fail
  refine ⟨trivial, ?_⟩; gi_at_call 31
  refine (callsIn_wide.2 (slopelaw3_alive.calls ka true _ HAl.out)).mono ?_
  rintro e w1 ⟨rfl, hb⟩
  have nKA_ := Aside0.mk (blk_below KA.out hb)
  have nHB_ := Aside0.mk (below_step HB.out hb)
  clear KA HB
  have KA := nKA_; have HB := nHB_
  clear nKA_ nHB_
  clear hb
  have qKA0 := (blk_cell KA.out 0).trans rfl; have qKA1 := (blk_cell KA.out 1).trans rfl
  gi_wp2_with fail
  refine ⟨trivial, ?_⟩; gi_at_call 61
  refine (callsIn_wide.2 (H1.out _ _ _ (Kd.C_below HC.out HB.out) hc0 (tz_at HG.out HB.out) (pw_at HP.out HB.out))).mono ?_
  rintro e w2 ⟨rfl, hb⟩
  have nKA_ := Aside0.mk (blk_below KA.out hb)
  have nHB_ := Aside0.mk (below_step HB.out hb)
  clear KA HB
  have KA := nKA_; have HB := nHB_
  clear nKA_ nHB_
  clear hb
  clear qKA0 qKA1
  have qKA0 := (blk_cell KA.out 0).trans rfl; have qKA1 := (blk_cell KA.out 1).trans rfl
  gi_wp2_with fail
  refine ⟨trivial, ?_⟩; gi_at_call 63
  refine (callsIn_wide.2 (sloperef3_May.calls k2 n0 _ _ l0 true _ (Kd.C_below HC.out HB.out) hc0 H2.out)).mono ?_
  rintro e w3 ⟨rfl, hb⟩
  have nKA_ := Aside0.mk (blk_below KA.out hb)
  have nHB_ := Aside0.mk (below_step HB.out hb)
  clear KA HB
  have KA := nKA_; have HB := nHB_
  clear nKA_ nHB_
  clear hb
  clear qKA0 qKA1
  gi_wp2_with fail
  refine ⟨trivial, ?_⟩; gi_at_call 21
  refine (callsIn_wide.2 (slopelaw3_num.calls 0 0 _ rfl)).mono ?_
  rintro e w4 ⟨rfl, hd⟩
  have hb := hd.below; clear hd
  have nKA_ := Aside0.mk (blk_below KA.out hb)
  have nHB_ := Aside0.mk (below_step HB.out hb)
  clear KA HB
  have KA := nKA_; have HB := nHB_
  clear nKA_ nHB_
  clear hb
  gi_wp2_with fail
  refine ⟨trivial, ?_⟩; gi_at_call 21
  refine (callsIn_wide.2 (slopelaw3_num.calls 0 0 _ rfl)).mono ?_
  rintro e w5 ⟨rfl, hd⟩
  have hb := hd.below; clear hd
  have nKA_ := Aside0.mk (blk_below KA.out hb)
  have nHB_ := Aside0.mk (below_step HB.out hb)
  clear KA HB
  have KA := nKA_; have HB := nHB_
  clear nKA_ nHB_
  clear hb
  gi_wp2_with fail
  refine ⟨trivial, ?_⟩; gi_at_call 64
  refine (callsIn_wide.2 (H3.out _)).mono ?_
  rintro e w6 ⟨v1, rfl, ho, hb⟩
  obtain ⟨AQ1, cQ1, et⟩ := Kd.R_slice ho
  subst et
  have lQ1 := Aside0.mk (Kd.R_reads' ho).2.1; have mQ1 := Aside0.mk (Kd.R_reads' ho).2.2
  clear ho
  have nKA_ := Aside0.mk (blk_below KA.out hb)
  have nHB_ := Aside0.mk (below_step HB.out hb)
  clear KA HB
  have KA := nKA_; have HB := nHB_
  clear nKA_ nHB_
  have Q1 := mQ1; clear mQ1
  have xK1 := Aside0.mk (blk_new w6 (.cells #[.int .i64 n0, .slice AQ1 l0.length cQ1] 24 (0, 0)))
  clear hb
  have nKA_ := Aside0.mk (blk_alloc KA.out (.cells #[.int .i64 n0, .slice AQ1 l0.length cQ1] 24 (0, 0)))
  have nHB_ := Aside0.mk (below_alloc HB.out (.cells #[.int .i64 n0, .slice AQ1 l0.length cQ1] 24 (0, 0)))
  have nQ1_ := Aside0.mk (Kd.C_alloc Q1.out (.cells #[.int .i64 n0, .slice AQ1 l0.length cQ1] 24 (0, 0)))
  clear KA HB Q1
  have KA := nKA_; have HB := nHB_; have Q1 := nQ1_
  clear nKA_ nHB_ nQ1_
  have K1 := xK1; clear xK1
  gi_wp2_with fail
  refine ⟨trivial, ?_⟩; gi_at_call 21
  refine (callsIn_wide.2 (slopelaw3_num.calls 0 0 _ rfl)).mono ?_
  rintro e w7 ⟨rfl, hd⟩
  have hb := hd.below; clear hd
  have nKA_ := Aside0.mk (blk_below KA.out hb)
  have nHB_ := Aside0.mk (below_step HB.out hb)
  have nQ1_ := Aside0.mk (Kd.C_below Q1.out hb)
  have nK1_ := Aside0.mk (blk_below K1.out hb)
  clear KA HB Q1 K1
  have KA := nKA_; have HB := nHB_; have Q1 := nQ1_; have K1 := nK1_
  clear nKA_ nHB_ nQ1_ nK1_
  clear hb
  have qKA0 := (blk_cell KA.out 0).trans rfl; have qKA1 := (blk_cell KA.out 1).trans rfl
  have qK10 := (blk_cell K1.out 0).trans rfl; have qK11 := (blk_cell K1.out 1).trans rfl
  gi_wp2_with fail
  refine ⟨trivial, ?_⟩; gi_at_call 20
  refine (callsIn_wide.2 (slopelaw3_same.calls s1 n0 _ _ l0 n0 _ _ l0 true _ Q1.out lQ1.out (Kd.C_below HC.out HB.out) hc0 S1.out)).mono ?_
  rintro e w8 ⟨rfl, hb⟩
  clear qKA0 qKA1 qK10 qK11
  have nKA_ := Aside0.mk (blk_below KA.out hb)
  have nHB_ := Aside0.mk (below_step HB.out hb)
  clear KA HB K1 Q1
  have KA := nKA_; have HB := nHB_
  clear nKA_ nHB_
  clear hb
  gi_wp2_with fail
  refine ⟨trivial, ?_⟩; gi_at_call 64
  refine (callsIn_wide.2 (H4.out _)).mono ?_
  rintro e w9 ⟨v2, rfl, ho, hb⟩
  obtain ⟨AQ2, cQ2, et⟩ := Kd.R_slice ho
  subst et
  have lQ2 := Aside0.mk (Kd.R_reads' ho).2.1; have mQ2 := Aside0.mk (Kd.R_reads' ho).2.2
  clear ho
  have nKA_ := Aside0.mk (blk_below KA.out hb)
  have nHB_ := Aside0.mk (below_step HB.out hb)
  clear KA HB
  have KA := nKA_; have HB := nHB_
  clear nKA_ nHB_
  have Q2 := mQ2; clear mQ2
  have xK2 := Aside0.mk (blk_new w9 (.cells #[.int .i64 0, .slice AQ2 ([] : List Int).length cQ2] 24 (0, 0)))
  clear hb
  have nKA_ := Aside0.mk (blk_alloc KA.out (.cells #[.int .i64 0, .slice AQ2 ([] : List Int).length cQ2] 24 (0, 0)))
  have nHB_ := Aside0.mk (below_alloc HB.out (.cells #[.int .i64 0, .slice AQ2 ([] : List Int).length cQ2] 24 (0, 0)))
  have nQ2_ := Aside0.mk (Kd.C_alloc Q2.out (.cells #[.int .i64 0, .slice AQ2 ([] : List Int).length cQ2] 24 (0, 0)))
  clear KA HB Q2
  have KA := nKA_; have HB := nHB_; have Q2 := nQ2_
  clear nKA_ nHB_ nQ2_
  have K2 := xK2; clear xK2
  gi_wp2_with fail
  refine ⟨trivial, ?_⟩; gi_at_call 21
  refine (callsIn_wide.2 (slopelaw3_num.calls c c _ rfl)).mono ?_
  rintro e w10 ⟨rfl, hd⟩
  have hb := hd.below; clear hd
  have nKA_ := Aside0.mk (blk_below KA.out hb)
  have nHB_ := Aside0.mk (below_step HB.out hb)
  have nQ2_ := Aside0.mk (Kd.C_below Q2.out hb)
  have nK2_ := Aside0.mk (blk_below K2.out hb)
  clear KA HB Q2 K2
  have KA := nKA_; have HB := nHB_; have Q2 := nQ2_; have K2 := nK2_
  clear nKA_ nHB_ nQ2_ nK2_
  clear hb
  have qK20 := (blk_cell K2.out 0).trans rfl; have qK21 := (blk_cell K2.out 1).trans rfl
  gi_wp2_with fail
  refine bodyPost_ret (v := .bool true) ?_ rfl ⟨rfl, HB.out⟩
  simp [results, Tryd.f12, go_sem]
set_option maxHeartbeats 8000000 in
set_option maxRecDepth 100000 in
theorem BitRound_not_ok (ka k2 s1 : Nat) (n0 : Int) (A0 : Option Addr) (c0 : Nat) (l0 : List Int) (tt tx : ByteArray) (w : World) (hr0 : Kd.C (Kd.int .u64) w A0 l0.length l0) (hc0 : l0.length ≤ c0) (hG : Tz w) (hP : Pw w) (n a c : Int) (ws : List Int) (hal : slopelaw3_alive.f ka = some true)
    (h1 : PrintIs n0 l0 tx 61)
    (h2 : sloperef3_May.f k2 n0 l0 = some false)
    (h4 : ParseIs tt n ws 0 0) (h5 : PrintIs n ws tt 0) :
    Calls Tryd.prog 12 #[.agg #[.int .i64 n0, .slice A0 l0.length c0], .string tt] w fun e w' => e = .returned (.bool true) ∧ Below w.heap.size w w' := by
  have hu24 := Tryd.underlying24
  have HC := Aside0.mk hr0
  have HG := Aside0.mk hG
  have HP := Aside0.mk hP
  have HAl := Aside0.mk hal
  have H1 := Aside0.mk h1
  have H2 := Aside0.mk h2
  have H4 := Aside0.mk h4
  have H5 := Aside0.mk h5
  clear hr0 hG hP hal h1 h2 h4 h5
  have KA := Aside0.mk (blk_new w (.cells #[.int .i64 n0, .slice A0 l0.length c0] 24 (0, 0)))
  have HB := Aside0.mk (below_alloc (Below.refl w.heap.size w) (.cells #[.int .i64 n0, .slice A0 l0.length c0] 24 (0, 0)))
  refine (callsIn_wide (n := 6)).1 ?_
  refine callsIn_of_wp Tryd.func12 rfl trivial ?_ rfl
  simp only [Tryd.ntmps12, List.size_toArray, List.length_cons, List.length_nil, Nat.reduceAdd, Nat.reduceSub, Array.replicate_succ, Array.replicate_zero, List.push_toArray, List.append_toArray, List.nil_append, List.cons_append]
  gi_wp2_with fail
  refine ⟨trivial, ?_⟩; gi_at_call 31
  refine (callsIn_wide.2 (slopelaw3_alive.calls ka true _ HAl.out)).mono ?_
  rintro e w1 ⟨rfl, hb⟩
  have nKA_ := Aside0.mk (blk_below KA.out hb)
  have nHB_ := Aside0.mk (below_step HB.out hb)
  clear KA HB
  have KA := nKA_; have HB := nHB_
  clear nKA_ nHB_
  clear hb
  have qKA0 := (blk_cell KA.out 0).trans rfl; have qKA1 := (blk_cell KA.out 1).trans rfl
  gi_wp2_with fail
  refine ⟨trivial, ?_⟩; gi_at_call 61
  refine (callsIn_wide.2 (H1.out _ _ _ (Kd.C_below HC.out HB.out) hc0 (tz_at HG.out HB.out) (pw_at HP.out HB.out))).mono ?_
  rintro e w2 ⟨rfl, hb⟩
  have nKA_ := Aside0.mk (blk_below KA.out hb)
  have nHB_ := Aside0.mk (below_step HB.out hb)
  clear KA HB
  have KA := nKA_; have HB := nHB_
  clear nKA_ nHB_
  clear hb
  clear qKA0 qKA1
  have qKA0 := (blk_cell KA.out 0).trans rfl; have qKA1 := (blk_cell KA.out 1).trans rfl
  gi_wp2_with fail
  refine ⟨trivial, ?_⟩; gi_at_call 63
  refine (callsIn_wide.2 (sloperef3_May.calls k2 n0 _ _ l0 false _ (Kd.C_below HC.out HB.out) hc0 H2.out)).mono ?_
  rintro e w3 ⟨rfl, hb⟩
  have nKA_ := Aside0.mk (blk_below KA.out hb)
  have nHB_ := Aside0.mk (below_step HB.out hb)
  clear KA HB
  have KA := nKA_; have HB := nHB_
  clear nKA_ nHB_
  clear hb
  clear qKA0 qKA1
  gi_wp2_with fail
  refine ⟨trivial, ?_⟩; gi_at_call 21
  refine (callsIn_wide.2 (slopelaw3_num.calls 61 61 _ rfl)).mono ?_
  rintro e w4 ⟨rfl, hd⟩
  have hb := hd.below; clear hd
  have nKA_ := Aside0.mk (blk_below KA.out hb)
  have nHB_ := Aside0.mk (below_step HB.out hb)
  clear KA HB
  have KA := nKA_; have HB := nHB_
  clear nKA_ nHB_
  clear hb
  gi_wp2_with fail
  refine ⟨trivial, ?_⟩; gi_at_call 21
  refine (callsIn_wide.2 (slopelaw3_num.calls 61 61 _ rfl)).mono ?_
  rintro e w5 ⟨rfl, hd⟩
  have hb := hd.below; clear hd
  have nKA_ := Aside0.mk (blk_below KA.out hb)
  have nHB_ := Aside0.mk (below_step HB.out hb)
  clear KA HB
  have KA := nKA_; have HB := nHB_
  clear nKA_ nHB_
  clear hb
  gi_wp2_with fail
  refine ⟨trivial, ?_⟩; gi_at_call 64
  refine (callsIn_wide.2 (H4.out _)).mono ?_
  rintro e w6 ⟨v2, rfl, ho, hb⟩
  obtain ⟨AQ2, cQ2, et⟩ := Kd.R_slice ho
  subst et
  have lQ2 := Aside0.mk (Kd.R_reads' ho).2.1; have mQ2 := Aside0.mk (Kd.R_reads' ho).2.2
  clear ho
  have nKA_ := Aside0.mk (blk_below KA.out hb)
  have nHB_ := Aside0.mk (below_step HB.out hb)
  clear KA HB
  have KA := nKA_; have HB := nHB_
  clear nKA_ nHB_
  have Q2 := mQ2; clear mQ2
  have xK2 := Aside0.mk (blk_new w6 (.cells #[.int .i64 n, .slice AQ2 ws.length cQ2] 24 (0, 0)))
  clear hb
  have nKA_ := Aside0.mk (blk_alloc KA.out (.cells #[.int .i64 n, .slice AQ2 ws.length cQ2] 24 (0, 0)))
  have nHB_ := Aside0.mk (below_alloc HB.out (.cells #[.int .i64 n, .slice AQ2 ws.length cQ2] 24 (0, 0)))
  have nQ2_ := Aside0.mk (Kd.C_alloc Q2.out (.cells #[.int .i64 n, .slice AQ2 ws.length cQ2] 24 (0, 0)))
  clear KA HB Q2
  have KA := nKA_; have HB := nHB_; have Q2 := nQ2_
  clear nKA_ nHB_ nQ2_
  have K2 := xK2; clear xK2
  gi_wp2_with fail
  refine ⟨trivial, ?_⟩; gi_at_call 21
  refine (callsIn_wide.2 (slopelaw3_num.calls 0 0 _ rfl)).mono ?_
  rintro e w7 ⟨rfl, hd⟩
  have hb := hd.below; clear hd
  have nKA_ := Aside0.mk (blk_below KA.out hb)
  have nHB_ := Aside0.mk (below_step HB.out hb)
  have nQ2_ := Aside0.mk (Kd.C_below Q2.out hb)
  have nK2_ := Aside0.mk (blk_below K2.out hb)
  clear KA HB Q2 K2
  have KA := nKA_; have HB := nHB_; have Q2 := nQ2_; have K2 := nK2_
  clear nKA_ nHB_ nQ2_ nK2_
  clear hb
  have qK20 := (blk_cell K2.out 0).trans rfl; have qK21 := (blk_cell K2.out 1).trans rfl
  gi_wp2_with fail
  refine ⟨trivial, ?_⟩; gi_at_call 61
  refine (callsIn_wide.2 (H5.out _ _ _ Q2.out lQ2.out (tz_at HG.out HB.out) (pw_at HP.out HB.out))).mono ?_
  rintro e w8 ⟨rfl, hb⟩
  clear qK20 qK21
  have nKA_ := Aside0.mk (blk_below KA.out hb)
  have nHB_ := Aside0.mk (below_step HB.out hb)
  have nQ2_ := Aside0.mk (Kd.C_below Q2.out hb)
  have nK2_ := Aside0.mk (blk_below K2.out hb)
  clear KA HB Q2 K2
  have KA := nKA_; have HB := nHB_; have Q2 := nQ2_; have K2 := nK2_
  clear nKA_ nHB_ nQ2_ nK2_
  clear hb
  gi_wp2_with fail
  refine ⟨trivial, ?_⟩; gi_at_call 21
  refine (callsIn_wide.2 (slopelaw3_num.calls 0 0 _ rfl)).mono ?_
  rintro e w9 ⟨rfl, hd⟩
  have hb := hd.below; clear hd
  have nKA_ := Aside0.mk (blk_below KA.out hb)
  have nHB_ := Aside0.mk (below_step HB.out hb)
  have nQ2_ := Aside0.mk (Kd.C_below Q2.out hb)
  have nK2_ := Aside0.mk (blk_below K2.out hb)
  clear KA HB Q2 K2
  have KA := nKA_; have HB := nHB_; have Q2 := nQ2_; have K2 := nK2_
  clear nKA_ nHB_ nQ2_ nK2_
  clear hb
  gi_wp2_with fail
  refine bodyPost_ret (v := .bool true) ?_ rfl ⟨rfl, HB.out⟩
  simp [results, Tryd.f12, go_sem]
set_option maxHeartbeats 8000000 in
set_option maxRecDepth 100000 in
theorem BitRound_not_no (ka k2 s1 : Nat) (n0 : Int) (A0 : Option Addr) (c0 : Nat) (l0 : List Int) (tt tx : ByteArray) (w : World) (hr0 : Kd.C (Kd.int .u64) w A0 l0.length l0) (hc0 : l0.length ≤ c0) (hG : Tz w) (hP : Pw w) (n a c : Int) (ws : List Int) (hal : slopelaw3_alive.f ka = some true)
    (h1 : PrintIs n0 l0 tx 61)
    (h2 : sloperef3_May.f k2 n0 l0 = some false)
    (h4 : ParseIs tt 0 [] a c) (hc1 : (c != 0) = true) (hc2 : (c == 0) = false) (hca : decide (0 ≤ a) = true) (hcb : decide (a ≤ (tt.size : Int)) = true) :
    Calls Tryd.prog 12 #[.agg #[.int .i64 n0, .slice A0 l0.length c0], .string tt] w fun e w' => e = .returned (.bool true) ∧ Below w.heap.size w w' := by
  have hu24 := Tryd.underlying24
  have HC := Aside0.mk hr0
  have HG := Aside0.mk hG
  have HP := Aside0.mk hP
  have HAl := Aside0.mk hal
  have H1 := Aside0.mk h1
  have H2 := Aside0.mk h2
  have H4 := Aside0.mk h4
  clear hr0 hG hP hal h1 h2 h4
  have KA := Aside0.mk (blk_new w (.cells #[.int .i64 n0, .slice A0 l0.length c0] 24 (0, 0)))
  have HB := Aside0.mk (below_alloc (Below.refl w.heap.size w) (.cells #[.int .i64 n0, .slice A0 l0.length c0] 24 (0, 0)))
  refine (callsIn_wide (n := 6)).1 ?_
  refine callsIn_of_wp Tryd.func12 rfl trivial ?_ rfl
  simp only [Tryd.ntmps12, List.size_toArray, List.length_cons, List.length_nil, Nat.reduceAdd, Nat.reduceSub, Array.replicate_succ, Array.replicate_zero, List.push_toArray, List.append_toArray, List.nil_append, List.cons_append]
  gi_wp2_with fail
  refine ⟨trivial, ?_⟩; gi_at_call 31
  refine (callsIn_wide.2 (slopelaw3_alive.calls ka true _ HAl.out)).mono ?_
  rintro e w1 ⟨rfl, hb⟩
  have nKA_ := Aside0.mk (blk_below KA.out hb)
  have nHB_ := Aside0.mk (below_step HB.out hb)
  clear KA HB
  have KA := nKA_; have HB := nHB_
  clear nKA_ nHB_
  clear hb
  have qKA0 := (blk_cell KA.out 0).trans rfl; have qKA1 := (blk_cell KA.out 1).trans rfl
  gi_wp2_with fail
  refine ⟨trivial, ?_⟩; gi_at_call 61
  refine (callsIn_wide.2 (H1.out _ _ _ (Kd.C_below HC.out HB.out) hc0 (tz_at HG.out HB.out) (pw_at HP.out HB.out))).mono ?_
  rintro e w2 ⟨rfl, hb⟩
  have nKA_ := Aside0.mk (blk_below KA.out hb)
  have nHB_ := Aside0.mk (below_step HB.out hb)
  clear KA HB
  have KA := nKA_; have HB := nHB_
  clear nKA_ nHB_
  clear hb
  clear qKA0 qKA1
  have qKA0 := (blk_cell KA.out 0).trans rfl; have qKA1 := (blk_cell KA.out 1).trans rfl
  gi_wp2_with fail
  refine ⟨trivial, ?_⟩; gi_at_call 63
  refine (callsIn_wide.2 (sloperef3_May.calls k2 n0 _ _ l0 false _ (Kd.C_below HC.out HB.out) hc0 H2.out)).mono ?_
  rintro e w3 ⟨rfl, hb⟩
  have nKA_ := Aside0.mk (blk_below KA.out hb)
  have nHB_ := Aside0.mk (below_step HB.out hb)
  clear KA HB
  have KA := nKA_; have HB := nHB_
  clear nKA_ nHB_
  clear hb
  clear qKA0 qKA1
  gi_wp2_with fail
  refine ⟨trivial, ?_⟩; gi_at_call 21
  refine (callsIn_wide.2 (slopelaw3_num.calls 61 61 _ rfl)).mono ?_
  rintro e w4 ⟨rfl, hd⟩
  have hb := hd.below; clear hd
  have nKA_ := Aside0.mk (blk_below KA.out hb)
  have nHB_ := Aside0.mk (below_step HB.out hb)
  clear KA HB
  have KA := nKA_; have HB := nHB_
  clear nKA_ nHB_
  clear hb
  gi_wp2_with fail
  refine ⟨trivial, ?_⟩; gi_at_call 21
  refine (callsIn_wide.2 (slopelaw3_num.calls 61 61 _ rfl)).mono ?_
  rintro e w5 ⟨rfl, hd⟩
  have hb := hd.below; clear hd
  have nKA_ := Aside0.mk (blk_below KA.out hb)
  have nHB_ := Aside0.mk (below_step HB.out hb)
  clear KA HB
  have KA := nKA_; have HB := nHB_
  clear nKA_ nHB_
  clear hb
  gi_wp2_with fail
  refine ⟨trivial, ?_⟩; gi_at_call 64
  refine (callsIn_wide.2 (H4.out _)).mono ?_
  rintro e w6 ⟨v2, rfl, ho, hb⟩
  obtain ⟨AQ2, cQ2, et⟩ := Kd.R_slice ho
  subst et
  have lQ2 := Aside0.mk (Kd.R_reads' ho).2.1; have mQ2 := Aside0.mk (Kd.R_reads' ho).2.2
  clear ho
  have nKA_ := Aside0.mk (blk_below KA.out hb)
  have nHB_ := Aside0.mk (below_step HB.out hb)
  clear KA HB
  have KA := nKA_; have HB := nHB_
  clear nKA_ nHB_
  have Q2 := mQ2; clear mQ2
  have xK2 := Aside0.mk (blk_new w6 (.cells #[.int .i64 0, .slice AQ2 ([] : List Int).length cQ2] 24 (0, 0)))
  clear hb
  have nKA_ := Aside0.mk (blk_alloc KA.out (.cells #[.int .i64 0, .slice AQ2 ([] : List Int).length cQ2] 24 (0, 0)))
  have nHB_ := Aside0.mk (below_alloc HB.out (.cells #[.int .i64 0, .slice AQ2 ([] : List Int).length cQ2] 24 (0, 0)))
  have nQ2_ := Aside0.mk (Kd.C_alloc Q2.out (.cells #[.int .i64 0, .slice AQ2 ([] : List Int).length cQ2] 24 (0, 0)))
  clear KA HB Q2
  have KA := nKA_; have HB := nHB_; have Q2 := nQ2_
  clear nKA_ nHB_ nQ2_
  have K2 := xK2; clear xK2
  gi_wp2_with fail
  refine ⟨trivial, ?_⟩; gi_at_call 21
  refine (callsIn_wide.2 (slopelaw3_num.calls c c _ rfl)).mono ?_
  rintro e w7 ⟨rfl, hd⟩
  have hb := hd.below; clear hd
  have nKA_ := Aside0.mk (blk_below KA.out hb)
  have nHB_ := Aside0.mk (below_step HB.out hb)
  have nQ2_ := Aside0.mk (Kd.C_below Q2.out hb)
  have nK2_ := Aside0.mk (blk_below K2.out hb)
  clear KA HB Q2 K2
  have KA := nKA_; have HB := nHB_; have Q2 := nQ2_; have K2 := nK2_
  clear nKA_ nHB_ nQ2_ nK2_
  clear hb
  have qK20 := (blk_cell K2.out 0).trans rfl; have qK21 := (blk_cell K2.out 1).trans rfl
  gi_wp2_with fail
  refine bodyPost_ret (v := .bool true) ?_ rfl ⟨rfl, HB.out⟩
  simp [results, Tryd.f12, go_sem]
theorem print_of {n : Nat} (hn : n ≤ 4096) {p : Nat → Bool} {ws : List Int} (h : Is n p ws) : PrintIs (n : Int) ws (ba (txtOf p n)) 0 := by
  have hM := May_eq (n : Int) ws h.wds (by have := h.len; omega)
  rw [may_true.2 (h.may hn)] at hM
  obtain ⟨fr, ⟨kn, hk⟩, h1⟩ := next_ev hn h (pos := 0) (Nat.zero_le _)
  intro A0 c0 w hr0 hc0 hG hP
  exact Print_yes kn n hn p A0 c0 ws w hr0 hc0 hG hP h hM fr (hk kn (Nat.le_refl _)) ⟨Nat.zero_le _, .inl rfl, by simp [txtOf], h1⟩
theorem BitRound_calls (n0 : Int) (A0 : Option Addr) (c0 : Nat) (l0 : List Int) (tt : ByteArray) (w : World) (hr0 : Kd.C (Kd.int .u64) w A0 l0.length l0) (hc0 : l0.length ≤ c0) (hl : l0.length ≤ 9223372036854775807) (hw : Wds l0) (hG : Tz w) (hP : Pw w) :
    Calls Tryd.prog 12 #[.agg #[.int .i64 n0, .slice A0 l0.length c0], .string tt] w fun e w' => e = .returned (.bool true) ∧ Below w.heap.size w w' := by
  obtain ⟨ka, hka⟩ := alive_ev
  obtain ⟨k2, hk2⟩ := rMay_eq n0 l0 hw hl
  obtain ⟨s1, hs1⟩ := same_ev n0 l0 hl
  have e1 := hka ka (Nat.le_refl _)
  have e2 := hk2 k2 (Nat.le_refl _)
  have e3 := hs1 s1 (Nat.le_refl _)
  obtain ⟨r, r1, _⟩ := Parse_says tt w
  have r2 : ∀ s, ParseSays tt s → s = r := fun s hs => r1.one hs
  have hM := May_eq n0 l0 hw hl
  by_cases hm : MayP n0 l0
  · obtain ⟨n, rfl⟩ := Int.eq_ofNat_of_zero_le hm.1
    have hn : n ≤ 4096 := by have := hm.2.1; omega
    have hIs : Is n (hb l0) l0 := hm.is hw
    rw [may_true.2 hm] at e2
    have h3 : ParseIs (ba (txtOf (hb l0) n)) (n : Int) l0 0 0 := parse_is fun r hr => round_back hn hIs hr
    rcases round_text r1 with ⟨g1, g2, g3, g4, g5⟩ | ⟨m, q, ws, g1, g2, g3, g4⟩
    · obtain ⟨x1, x2, x3, x4⟩ := r
      simp only at g1 g2 g3 g4 g5
      subst g2 g3
      exact BitRound_may_no ka k2 s1 n A0 c0 l0 tt _ w hr0 hc0 hG hP 0 x3 x4 [] e1 (print_of hn hIs) e2 h3 e3 (parse_is r2) (bne_iff_ne.2 g1) (beq_eq_false_iff_ne.2 g1) (decide_eq_true g4) (decide_eq_true g5)
    · subst g3
      have h5 := print_of g1 g2
      rw [← g4] at h5
      exact BitRound_may_ok ka k2 s1 n A0 c0 l0 tt _ w hr0 hc0 hG hP m 0 0 ws e1 (print_of hn hIs) e2 h3 e3 (parse_is r2) h5
  · rw [may_false.2 hm] at e2 hM
    have h1 : PrintIs n0 l0 (ba []) 61 := fun A0 c0 w hr0 hc0 _ _ => Print_no n0 A0 c0 l0 w hr0 hc0 hM
    rcases round_text r1 with ⟨g1, g2, g3, g4, g5⟩ | ⟨m, q, ws, g1, g2, g3, g4⟩
    · obtain ⟨x1, x2, x3, x4⟩ := r
      simp only at g1 g2 g3 g4 g5
      subst g2 g3
      exact BitRound_not_no ka k2 s1 n0 A0 c0 l0 tt _ w hr0 hc0 hG hP 0 x3 x4 [] e1 h1 e2 (parse_is r2) (bne_iff_ne.2 g1) (beq_eq_false_iff_ne.2 g1) (decide_eq_true g4) (decide_eq_true g5)
    · subst g3
      have h5 := print_of g1 g2
      rw [← g4] at h5
      exact BitRound_not_ok ka k2 s1 n0 A0 c0 l0 tt _ w hr0 hc0 hG hP m 0 0 ws e1 h1 e2 (parse_is r2) h5
end Go.Proofs.YtjmkhdhffmlhiaaDoor.PAll
end
