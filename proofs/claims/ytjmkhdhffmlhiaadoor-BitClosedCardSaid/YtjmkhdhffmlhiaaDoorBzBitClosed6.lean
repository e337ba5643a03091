import Derived.Test.YtjmkhdhffmlhiaaDoorBzBitClosed5
import Derived.Sort.CutIn
section
namespace Go.Proofs.YtjmkhdhffmlhiaaDoor.PAll
set_option linter.unusedVariables false
set_option linter.unusedSimpArgs false
open Go.RowKit Go.Shelf Go.Proofs.YtjmkhdhffmlhiaaDoorW.PrintWords Go.Proofs.YtjmkhdhffmlhiaaDoorW.PrintLast Go.Proofs.YtjmkhdhffmlhiaaDoorW.PrintMore
attribute [local go_sem] Oper.semAt_some
theorem stored {W4 w' X : World} {g : Nat} {n : Int} {A : Option Addr} {c : Nat} {ws : List Int} (hb : Below W4.heap.size W4 w') (hg : W4.heap.size ≤ g) (hK : w'.heap[g]? = some (.cells #[.int .i64 0, .slice none 0 0] 24 (0, 0)))
    (hR : Kd.R (Kd.int .u64) 87 w' W4.heap.size (fun k => k ≠ g) (.slice A ws.length c) ws) (hX : (w'.setCell ⟨g, 0, none⟩ (.int .i64 n)).setCell ⟨g, 1, none⟩ (.slice A ws.length c) = X) :
    Kd.R (Kd.int .u64) 87 X W4.heap.size (fun k => k ≠ g ∧ W4.heap.size ≤ k) (.slice A ws.length c) ws ∧ Below W4.heap.size W4 X ∧ X.heap[g]? = some (.cells #[.int .i64 n, .slice A ws.length c] 24 (0, 0)) ∧ ws.length ≤ c ∧ Kd.C (Kd.int .u64) X A ws.length ws := by
  have hKX : Kept w' X (fun k_ => k_ = g) := by
    refine ⟨by rw [← hX, World.size_setCell, World.size_setCell]; exact Nat.le_refl _, fun k_ hk_ hn_ => ?_⟩
    rw [← hX, Below.heap_setCell _ _ _ _ hn_, Below.heap_setCell _ _ _ _ hn_]
  exact ⟨Kd.R_kept (Kd.R_mono (Kd.R_bound hR) (fun k_ hk_ => ⟨hk_.1, hk_.2.1⟩)) hKX (fun k_ hk_ e => hk_.1 e), hX ▸ below_set (below_set hb hg) hg, hX ▸ blk_put (blk_put hK 0 (Value.int IntKind.i64 n) rfl) 1 (Value.slice A ws.length c) rfl, (Kd.R_reads' hR).2.1, (Kd.R_reads' (Kd.R_kept hR hKX (fun k_ hk_ e => hk_ e))).2.2⟩
theorem own_lt {α : Type} {d : Kd α} {e : Nat} {W : World} {base : Nat} {ok : Nat → Prop} {v : Value} {xs : List α} (h : Kd.N d e W base ok v xs) : ∀ k, some k = v.ownBlock → k < W.heap.size := by
  intro k hk
  obtain ⟨_, _, _, hR, _⟩ := h
  exact ((Kd.R_bound hR).1 k hk.symm).2.2.1
set_option maxHeartbeats 8000000 in
set_option maxRecDepth 100000 in
theorem BitClosed_walk (k0 k1 k2 k3 k4 k5 k6 : Nat) (m : Int) (A0 : Option Addr) (c0 : Nat) (l0 : List S24) (B0 : Option Addr) (d0 : Nat) (lb : List S24) (x2 x3 : Int) (w : World) (hr0 : Kd.C k24 w A0 l0.length l0) (hc0 : l0.length ≤ c0) (hr1 : Kd.C k24 w B0 lb.length lb) (hc1 : lb.length ≤ d0) (hG : Tz w)
    (p : Nat → Nat → Bool) (hN : l0.length ≤ 4096) (ht : RowsAre l0.length l0.length p l0) (cr pr qr : List S24) (hcr : RowsAre l0.length l0.length (way p l0.length) cr) (hpr : RowsAre l0.length l0.length (prodP l0.length p (way p l0.length)) pr) (hqr : RowsAre l0.length l0.length (prodP l0.length (way p l0.length) (way p l0.length)) qr)
    (h0 : slopelaw3_alive.f k0 = some true) (h1 : bitset_Closure.f k1 (l0.length : Int) l0 = some ((l0.length : Int), cr, 0)) (h2 : sloperef3_MayTable.f k2 (l0.length : Int) l0 = some true) (h3 : bitset_Product.f k3 (l0.length : Int) l0 (l0.length : Int) cr = some ((l0.length : Int), pr, 0)) (h4 : bitset_Product.f k4 (l0.length : Int) cr (l0.length : Int) cr = some ((l0.length : Int), qr, 0)) (h5 : bitset_Closure.f k5 (l0.length : Int) cr = some ((l0.length : Int), cr, 0)) (h6 : slopelaw3_sameTable.f k6 (l0.length : Int) cr (l0.length : Int) cr = some true) (k7 : Nat) (bm : Bool) (h7 : sloperef3_MayTable.f k7 m lb = some bm) (o : Nat → Nat → Bool) (ho2 : bm = true → m = (l0.length : Int) → lb.length = l0.length → RowsAre l0.length l0.length o lb) :
    Calls Tryd.prog 10 #[.agg #[.int .i64 l0.length, .slice A0 l0.length c0], .agg #[.int .i64 m, .slice B0 lb.length d0], .int .i64 x2, .int .i64 x3] w fun e w' => e = .returned (.bool true) ∧ Below w.heap.size w w' := by
  have hu24 := Tryd.underlying24
  have hu56 := Tryd.underlying56
  have HC := Aside0.mk hr0
  have HO := Aside0.mk hr1
  have HG := Aside0.mk hG
  have RT := Aside0.mk ht; have RC := Aside0.mk hcr; have RP := Aside0.mk hpr; have RQ := Aside0.mk hqr; have HN := Aside0.mk hN
  have H0 := Aside0.mk h0; have H1 := Aside0.mk h1; have H2 := Aside0.mk h2; have H3 := Aside0.mk h3; have H4 := Aside0.mk h4; have H5 := Aside0.mk h5; have H6 := Aside0.mk h6; have H7 := Aside0.mk h7; have HO2 := Aside0.mk ho2
  clear hr0 hr1 hG ht hcr hpr hqr hN h0 h1 h2 h3 h4 h5 h6 h7 ho2
  obtain ⟨o1, ho1⟩ : ∃ o1 : Obj, o1 = .cells #[.int .i64 l0.length, .slice A0 l0.length c0] 56 (0, 0) := ⟨_, rfl⟩
  obtain ⟨o2, ho2⟩ : ∃ o2 : Obj, o2 = .cells #[.int .i64 m, .slice B0 lb.length d0] 56 (0, 0) := ⟨_, rfl⟩
  have K0 : ((w.alloc o1).alloc o2).heap[w.heap.size]? = some o1 := blk_alloc (blk_new w o1) _
  have K1 : ((w.alloc o1).alloc o2).heap[w.heap.size + 1]? = some o2 := by have := blk_new (w.alloc o1) o2; rwa [World.size_alloc] at this
  have HB0 : Below w.heap.size w ((w.alloc o1).alloc o2) := below_alloc (below_alloc (Below.refl _ _) _) _
  rw [ho1, ho2] at K0 K1 HB0
  clear ho1 ho2 o1 o2
  have KA := Aside0.mk K0
  have KO := Aside0.mk K1
  have HB := Aside0.mk HB0
  clear K0 K1 HB0
  refine (callsIn_wide (n := 6)).1 ?_
  refine callsIn_of_wp Tryd.func10 rfl trivial ?_ rfl
  simp only [Tryd.ntmps10, List.size_toArray, List.length_cons, List.length_nil, Nat.reduceAdd, Nat.reduceSub, Array.replicate_succ, Array.replicate_zero, List.push_toArray, List.append_toArray, List.nil_append, List.cons_append]
  gi_wp2_with fail
  refine ⟨trivial, ?_⟩; gi_at_call 31
  refine (callsIn_wide.2 (slopelaw3_alive.calls k0 true _ H0.out)).mono ?_
  rintro e w1 ⟨rfl, hb⟩
  have nKA_ := Aside0.mk (blk_below KA.out hb)
  have nKO_ := Aside0.mk (blk_below KO.out hb)
  have nHB_ := Aside0.mk (below_step HB.out hb)
  clear KA KO HB
  have KA := nKA_; have KO := nKO_; have HB := nHB_
  clear nKA_ nKO_ nHB_
  clear hb
  have qKA0 := (blk_cell KA.out 0).trans rfl; have qKA1 := (blk_cell KA.out 1).trans rfl
  gi_wp2_with fail
  refine ⟨trivial, ?_⟩; gi_at_call 56
  refine (callsIn_wide.2 (bitset_Closure.calls k1 l0.length _ _ l0 _ _ _ _ (Kd.C_below HC.out HB.out) hc0 H1.out)).mono ?_
  rintro e w2 ⟨vt, rfl, ho, hb⟩
  clear qKA0 qKA1
  obtain ⟨AHc, cHc, et⟩ := Kd.S_slice ho
  subst et
  have lHc := Aside0.mk (Kd.S_reads' ho).2.1; have mHc := Aside0.mk (Kd.S_reads' ho).2.2
  clear ho
  have nKA_ := Aside0.mk (blk_below KA.out hb)
  have nKO_ := Aside0.mk (blk_below KO.out hb)
  have nHB_ := Aside0.mk (below_step HB.out hb)
  clear KA KO HB
  have KA := nKA_; have KO := nKO_; have HB := nHB_
  clear nKA_ nKO_ nHB_
  have Hc := mHc; clear mHc
  have xKC := Aside0.mk (blk_new w2 (.cells #[.int .i64 l0.length, .slice AHc cr.length cHc] 56 (0, 0)))
  clear hb
  have nKA_ := Aside0.mk (blk_alloc KA.out (.cells #[.int .i64 l0.length, .slice AHc cr.length cHc] 56 (0, 0)))
  have nKO_ := Aside0.mk (blk_alloc KO.out (.cells #[.int .i64 l0.length, .slice AHc cr.length cHc] 56 (0, 0)))
  have nHB_ := Aside0.mk (below_alloc HB.out (.cells #[.int .i64 l0.length, .slice AHc cr.length cHc] 56 (0, 0)))
  have nHc_ := Aside0.mk (Kd.C_alloc Hc.out (.cells #[.int .i64 l0.length, .slice AHc cr.length cHc] 56 (0, 0)))
  clear KA KO HB Hc
  have KA := nKA_; have KO := nKO_; have HB := nHB_; have Hc := nHc_
  clear nKA_ nKO_ nHB_ nHc_
  have KC := xKC; clear xKC
  have qKA0 := (blk_cell KA.out 0).trans rfl; have qKA1 := (blk_cell KA.out 1).trans rfl
  gi_wp2_with fail
  refine ⟨trivial, ?_⟩; gi_at_call 43
  refine (callsIn_wide.2 (sloperef3_MayTable.calls k2 l0.length _ _ l0 _ _ (Kd.C_below HC.out HB.out) hc0 H2.out)).mono ?_
  rintro e w3 ⟨rfl, hb⟩
  clear qKA0 qKA1
  have nKA_ := Aside0.mk (blk_below KA.out hb)
  have nKO_ := Aside0.mk (blk_below KO.out hb)
  have nHB_ := Aside0.mk (below_step HB.out hb)
  have nHc_ := Aside0.mk (Kd.C_below Hc.out hb)
  have nKC_ := Aside0.mk (blk_below KC.out hb)
  clear KA KO HB Hc KC
  have KA := nKA_; have KO := nKO_; have HB := nHB_; have Hc := nHc_; have KC := nKC_
  clear nKA_ nKO_ nHB_ nHc_ nKC_
  clear hb
  have qKA0 := (blk_cell KA.out 0).trans rfl; have qKA1 := (blk_cell KA.out 1).trans rfl
  have qKC0 := (blk_cell KC.out 0).trans rfl; have qKC1 := (blk_cell KC.out 1).trans rfl
  gi_wp2_with fail
  refine ⟨trivial, ?_⟩; gi_at_call 46
  refine (callsIn_wide.2 (bitset_Product.calls k3 l0.length _ _ l0 l0.length _ _ cr _ _ _ _ (Kd.C_below HC.out HB.out) hc0 Hc.out lHc.out (tz_at HG.out HB.out) H3.out)).mono ?_
  rintro e w4 ⟨vt, rfl, ho, hb⟩
  clear qKA0 qKA1 qKC0 qKC1
  obtain ⟨AHp, cHp, et⟩ := Kd.S_slice ho
  subst et
  have lHp := Aside0.mk (Kd.S_reads' ho).2.1; have mHp := Aside0.mk (Kd.S_reads' ho).2.2
  clear ho
  have nKA_ := Aside0.mk (blk_below KA.out hb)
  have nKO_ := Aside0.mk (blk_below KO.out hb)
  have nHB_ := Aside0.mk (below_step HB.out hb)
  have nHc_ := Aside0.mk (Kd.C_below Hc.out hb)
  have nKC_ := Aside0.mk (blk_below KC.out hb)
  clear KA KO HB Hc KC
  have KA := nKA_; have KO := nKO_; have HB := nHB_; have Hc := nHc_; have KC := nKC_
  clear nKA_ nKO_ nHB_ nHc_ nKC_
  have Hp := mHp; clear mHp
  have xKP := Aside0.mk (blk_new w4 (.cells #[.int .i64 l0.length, .slice AHp pr.length cHp] 56 (0, 0)))
  clear hb
  have nKA_ := Aside0.mk (blk_alloc KA.out (.cells #[.int .i64 l0.length, .slice AHp pr.length cHp] 56 (0, 0)))
  have nKO_ := Aside0.mk (blk_alloc KO.out (.cells #[.int .i64 l0.length, .slice AHp pr.length cHp] 56 (0, 0)))
  have nHB_ := Aside0.mk (below_alloc HB.out (.cells #[.int .i64 l0.length, .slice AHp pr.length cHp] 56 (0, 0)))
  have nHc_ := Aside0.mk (Kd.C_alloc Hc.out (.cells #[.int .i64 l0.length, .slice AHp pr.length cHp] 56 (0, 0)))
  have nKC_ := Aside0.mk (blk_alloc KC.out (.cells #[.int .i64 l0.length, .slice AHp pr.length cHp] 56 (0, 0)))
  have nHp_ := Aside0.mk (Kd.C_alloc Hp.out (.cells #[.int .i64 l0.length, .slice AHp pr.length cHp] 56 (0, 0)))
  clear KA KO HB Hc KC Hp
  have KA := nKA_; have KO := nKO_; have HB := nHB_; have Hc := nHc_; have KC := nKC_; have Hp := nHp_
  clear nKA_ nKO_ nHB_ nHc_ nKC_ nHp_
  have KP := xKP; clear xKP
  have qKC0 := (blk_cell KC.out 0).trans rfl; have qKC1 := (blk_cell KC.out 1).trans rfl
  gi_wp2_with fail
  refine ⟨trivial, ?_⟩; gi_at_call 46
  refine (callsIn_wide.2 (bitset_Product.calls k4 l0.length _ _ cr l0.length _ _ cr _ _ _ _ Hc.out lHc.out Hc.out lHc.out (tz_at HG.out HB.out) H4.out)).mono ?_
  rintro e w5 ⟨vt, rfl, ho, hb⟩
  clear qKC0 qKC1
  obtain ⟨AHq, cHq, et⟩ := Kd.S_slice ho
  subst et
  have lHq := Aside0.mk (Kd.S_reads' ho).2.1; have mHq := Aside0.mk (Kd.S_reads' ho).2.2
  clear ho
  have nKA_ := Aside0.mk (blk_below KA.out hb)
  have nKO_ := Aside0.mk (blk_below KO.out hb)
  have nHB_ := Aside0.mk (below_step HB.out hb)
  have nHc_ := Aside0.mk (Kd.C_below Hc.out hb)
  have nKC_ := Aside0.mk (blk_below KC.out hb)
  have nHp_ := Aside0.mk (Kd.C_below Hp.out hb)
  have nKP_ := Aside0.mk (blk_below KP.out hb)
  clear KA KO HB Hc KC Hp KP
  have KA := nKA_; have KO := nKO_; have HB := nHB_; have Hc := nHc_; have KC := nKC_; have Hp := nHp_; have KP := nKP_
  clear nKA_ nKO_ nHB_ nHc_ nKC_ nHp_ nKP_
  have Hq := mHq; clear mHq
  have xKQ := Aside0.mk (blk_new w5 (.cells #[.int .i64 l0.length, .slice AHq qr.length cHq] 56 (0, 0)))
  clear hb
  have nKA_ := Aside0.mk (blk_alloc KA.out (.cells #[.int .i64 l0.length, .slice AHq qr.length cHq] 56 (0, 0)))
  have nKO_ := Aside0.mk (blk_alloc KO.out (.cells #[.int .i64 l0.length, .slice AHq qr.length cHq] 56 (0, 0)))
  have nHB_ := Aside0.mk (below_alloc HB.out (.cells #[.int .i64 l0.length, .slice AHq qr.length cHq] 56 (0, 0)))
  have nHc_ := Aside0.mk (Kd.C_alloc Hc.out (.cells #[.int .i64 l0.length, .slice AHq qr.length cHq] 56 (0, 0)))
  have nKC_ := Aside0.mk (blk_alloc KC.out (.cells #[.int .i64 l0.length, .slice AHq qr.length cHq] 56 (0, 0)))
  have nHp_ := Aside0.mk (Kd.C_alloc Hp.out (.cells #[.int .i64 l0.length, .slice AHq qr.length cHq] 56 (0, 0)))
  have nKP_ := Aside0.mk (blk_alloc KP.out (.cells #[.int .i64 l0.length, .slice AHq qr.length cHq] 56 (0, 0)))
  have nHq_ := Aside0.mk (Kd.C_alloc Hq.out (.cells #[.int .i64 l0.length, .slice AHq qr.length cHq] 56 (0, 0)))
  clear KA KO HB Hc KC Hp KP Hq
  have KA := nKA_; have KO := nKO_; have HB := nHB_; have Hc := nHc_; have KC := nKC_; have Hp := nHp_; have KP := nKP_; have Hq := nHq_
  clear nKA_ nKO_ nHB_ nHc_ nKC_ nHp_ nKP_ nHq_
  have KQ := xKQ; clear xKQ
  have qKC0 := (blk_cell KC.out 0).trans rfl; have qKC1 := (blk_cell KC.out 1).trans rfl
  gi_wp2_with fail
  refine ⟨trivial, ?_⟩; gi_at_call 56
  refine (callsIn_wide.2 (bitset_Closure.calls k5 l0.length _ _ cr _ _ _ _ Hc.out lHc.out H5.out)).mono ?_
  rintro e w6 ⟨vt, rfl, ho, hb⟩
  clear qKC0 qKC1
  obtain ⟨AHd, cHd, et⟩ := Kd.S_slice ho
  subst et
  have lHd := Aside0.mk (Kd.S_reads' ho).2.1; have mHd := Aside0.mk (Kd.S_reads' ho).2.2
  clear ho
  have nKA_ := Aside0.mk (blk_below KA.out hb)
  have nKO_ := Aside0.mk (blk_below KO.out hb)
  have nHB_ := Aside0.mk (below_step HB.out hb)
  have nHc_ := Aside0.mk (Kd.C_below Hc.out hb)
  have nKC_ := Aside0.mk (blk_below KC.out hb)
  have nHp_ := Aside0.mk (Kd.C_below Hp.out hb)
  have nKP_ := Aside0.mk (blk_below KP.out hb)
  have nHq_ := Aside0.mk (Kd.C_below Hq.out hb)
  have nKQ_ := Aside0.mk (blk_below KQ.out hb)
  clear KA KO HB Hc KC Hp KP Hq KQ
  have KA := nKA_; have KO := nKO_; have HB := nHB_; have Hc := nHc_; have KC := nKC_; have Hp := nHp_; have KP := nKP_; have Hq := nHq_; have KQ := nKQ_
  clear nKA_ nKO_ nHB_ nHc_ nKC_ nHp_ nKP_ nHq_ nKQ_
  have Hd := mHd; clear mHd
  have xKD := Aside0.mk (blk_new w6 (.cells #[.int .i64 l0.length, .slice AHd cr.length cHd] 56 (0, 0)))
  clear hb
  have nKA_ := Aside0.mk (blk_alloc KA.out (.cells #[.int .i64 l0.length, .slice AHd cr.length cHd] 56 (0, 0)))
  have nKO_ := Aside0.mk (blk_alloc KO.out (.cells #[.int .i64 l0.length, .slice AHd cr.length cHd] 56 (0, 0)))
  have nHB_ := Aside0.mk (below_alloc HB.out (.cells #[.int .i64 l0.length, .slice AHd cr.length cHd] 56 (0, 0)))
  have nHc_ := Aside0.mk (Kd.C_alloc Hc.out (.cells #[.int .i64 l0.length, .slice AHd cr.length cHd] 56 (0, 0)))
  have nKC_ := Aside0.mk (blk_alloc KC.out (.cells #[.int .i64 l0.length, .slice AHd cr.length cHd] 56 (0, 0)))
  have nHp_ := Aside0.mk (Kd.C_alloc Hp.out (.cells #[.int .i64 l0.length, .slice AHd cr.length cHd] 56 (0, 0)))
  have nKP_ := Aside0.mk (blk_alloc KP.out (.cells #[.int .i64 l0.length, .slice AHd cr.length cHd] 56 (0, 0)))
  have nHq_ := Aside0.mk (Kd.C_alloc Hq.out (.cells #[.int .i64 l0.length, .slice AHd cr.length cHd] 56 (0, 0)))
  have nKQ_ := Aside0.mk (blk_alloc KQ.out (.cells #[.int .i64 l0.length, .slice AHd cr.length cHd] 56 (0, 0)))
  have nHd_ := Aside0.mk (Kd.C_alloc Hd.out (.cells #[.int .i64 l0.length, .slice AHd cr.length cHd] 56 (0, 0)))
  clear KA KO HB Hc KC Hp KP Hq KQ Hd
  have KA := nKA_; have KO := nKO_; have HB := nHB_; have Hc := nHc_; have KC := nKC_; have Hp := nHp_; have KP := nKP_; have Hq := nHq_; have KQ := nKQ_; have Hd := nHd_
  clear nKA_ nKO_ nHB_ nHc_ nKC_ nHp_ nKP_ nHq_ nKQ_ nHd_
  have KD := xKD; clear xKD
  gi_wp2_with fail
  refine ⟨trivial, ?_⟩; gi_at_call 21
  refine (callsIn_wide.2 (slopelaw3_num.calls 0 0 _ rfl)).mono ?_
  rintro e w7 ⟨rfl, hd⟩
  have hb := hd.below; clear hd
  have nKA_ := Aside0.mk (blk_below KA.out hb)
  have nKO_ := Aside0.mk (blk_below KO.out hb)
  have nHB_ := Aside0.mk (below_step HB.out hb)
  have nHc_ := Aside0.mk (Kd.C_below Hc.out hb)
  have nKC_ := Aside0.mk (blk_below KC.out hb)
  have nHp_ := Aside0.mk (Kd.C_below Hp.out hb)
  have nKP_ := Aside0.mk (blk_below KP.out hb)
  have nHq_ := Aside0.mk (Kd.C_below Hq.out hb)
  have nKQ_ := Aside0.mk (blk_below KQ.out hb)
  have nHd_ := Aside0.mk (Kd.C_below Hd.out hb)
  have nKD_ := Aside0.mk (blk_below KD.out hb)
  clear KA KO HB Hc KC Hp KP Hq KQ Hd KD
  have KA := nKA_; have KO := nKO_; have HB := nHB_; have Hc := nHc_; have KC := nKC_; have Hp := nHp_; have KP := nKP_; have Hq := nHq_; have KQ := nKQ_; have Hd := nHd_; have KD := nKD_
  clear nKA_ nKO_ nHB_ nHc_ nKC_ nHp_ nKP_ nHq_ nKQ_ nHd_ nKD_
  clear hb
  gi_wp2_with fail
  refine ⟨trivial, ?_⟩; gi_at_call 21
  refine (callsIn_wide.2 (slopelaw3_num.calls 0 0 _ rfl)).mono ?_
  rintro e w8 ⟨rfl, hd⟩
  have hb := hd.below; clear hd
  have nKA_ := Aside0.mk (blk_below KA.out hb)
  have nKO_ := Aside0.mk (blk_below KO.out hb)
  have nHB_ := Aside0.mk (below_step HB.out hb)
  have nHc_ := Aside0.mk (Kd.C_below Hc.out hb)
  have nKC_ := Aside0.mk (blk_below KC.out hb)
  have nHp_ := Aside0.mk (Kd.C_below Hp.out hb)
  have nKP_ := Aside0.mk (blk_below KP.out hb)
  have nHq_ := Aside0.mk (Kd.C_below Hq.out hb)
  have nKQ_ := Aside0.mk (blk_below KQ.out hb)
  have nHd_ := Aside0.mk (Kd.C_below Hd.out hb)
  have nKD_ := Aside0.mk (blk_below KD.out hb)
  clear KA KO HB Hc KC Hp KP Hq KQ Hd KD
  have KA := nKA_; have KO := nKO_; have HB := nHB_; have Hc := nHc_; have KC := nKC_; have Hp := nHp_; have KP := nKP_; have Hq := nHq_; have KQ := nKQ_; have Hd := nHd_; have KD := nKD_
  clear nKA_ nKO_ nHB_ nHc_ nKC_ nHp_ nKP_ nHq_ nKQ_ nHd_ nKD_
  clear hb
  gi_wp2_with fail
  refine ⟨trivial, ?_⟩; gi_at_call 21
  refine (callsIn_wide.2 (slopelaw3_num.calls 0 0 _ rfl)).mono ?_
  rintro e w9 ⟨rfl, hd⟩
  have hb := hd.below; clear hd
  have nKA_ := Aside0.mk (blk_below KA.out hb)
  have nKO_ := Aside0.mk (blk_below KO.out hb)
  have nHB_ := Aside0.mk (below_step HB.out hb)
  have nHc_ := Aside0.mk (Kd.C_below Hc.out hb)
  have nKC_ := Aside0.mk (blk_below KC.out hb)
  have nHp_ := Aside0.mk (Kd.C_below Hp.out hb)
  have nKP_ := Aside0.mk (blk_below KP.out hb)
  have nHq_ := Aside0.mk (Kd.C_below Hq.out hb)
  have nKQ_ := Aside0.mk (blk_below KQ.out hb)
  have nHd_ := Aside0.mk (Kd.C_below Hd.out hb)
  have nKD_ := Aside0.mk (blk_below KD.out hb)
  clear KA KO HB Hc KC Hp KP Hq KQ Hd KD
  have KA := nKA_; have KO := nKO_; have HB := nHB_; have Hc := nHc_; have KC := nKC_; have Hp := nHp_; have KP := nKP_; have Hq := nHq_; have KQ := nKQ_; have Hd := nHd_; have KD := nKD_
  clear nKA_ nKO_ nHB_ nHc_ nKC_ nHp_ nKP_ nHq_ nKQ_ nHd_ nKD_
  clear hb
  gi_wp2_with fail
  refine ⟨trivial, ?_⟩; gi_at_call 21
  refine (callsIn_wide.2 (slopelaw3_num.calls 0 0 _ rfl)).mono ?_
  rintro e w10 ⟨rfl, hd⟩
  have hb := hd.below; clear hd
  have nKA_ := Aside0.mk (blk_below KA.out hb)
  have nKO_ := Aside0.mk (blk_below KO.out hb)
  have nHB_ := Aside0.mk (below_step HB.out hb)
  have nHc_ := Aside0.mk (Kd.C_below Hc.out hb)
  have nKC_ := Aside0.mk (blk_below KC.out hb)
  have nHp_ := Aside0.mk (Kd.C_below Hp.out hb)
  have nKP_ := Aside0.mk (blk_below KP.out hb)
  have nHq_ := Aside0.mk (Kd.C_below Hq.out hb)
  have nKQ_ := Aside0.mk (blk_below KQ.out hb)
  have nHd_ := Aside0.mk (Kd.C_below Hd.out hb)
  have nKD_ := Aside0.mk (blk_below KD.out hb)
  clear KA KO HB Hc KC Hp KP Hq KQ Hd KD
  have KA := nKA_; have KO := nKO_; have HB := nHB_; have Hc := nHc_; have KC := nKC_; have Hp := nHp_; have KP := nKP_; have Hq := nHq_; have KQ := nKQ_; have Hd := nHd_; have KD := nKD_
  clear nKA_ nKO_ nHB_ nHc_ nKC_ nHp_ nKP_ nHq_ nKQ_ nHd_ nKD_
  clear hb
  have qKC0 := (blk_cell KC.out 0).trans rfl; have qKC1 := (blk_cell KC.out 1).trans rfl
  have qKD0 := (blk_cell KD.out 0).trans rfl; have qKD1 := (blk_cell KD.out 1).trans rfl
  gi_wp2_with fail
  refine ⟨trivial, ?_⟩; gi_at_call 44
  refine (callsIn_wide.2 (slopelaw3_sameTable.calls k6 l0.length _ _ cr l0.length _ _ cr _ _ Hc.out lHc.out Hd.out lHd.out H6.out)).mono ?_
  rintro e w11 ⟨rfl, hb⟩
  clear qKC0 qKC1 qKD0 qKD1
  have nKA_ := Aside0.mk (blk_below KA.out hb)
  have nKO_ := Aside0.mk (blk_below KO.out hb)
  have nHB_ := Aside0.mk (below_step HB.out hb)
  have nHc_ := Aside0.mk (Kd.C_below Hc.out hb)
  have nKC_ := Aside0.mk (blk_below KC.out hb)
  have nHp_ := Aside0.mk (Kd.C_below Hp.out hb)
  have nKP_ := Aside0.mk (blk_below KP.out hb)
  have nHq_ := Aside0.mk (Kd.C_below Hq.out hb)
  have nKQ_ := Aside0.mk (blk_below KQ.out hb)
  clear KA KO HB Hc KC Hp KP Hq KQ KD Hd
  have KA := nKA_; have KO := nKO_; have HB := nHB_; have Hc := nHc_; have KC := nKC_; have Hp := nHp_; have KP := nKP_; have Hq := nHq_; have KQ := nKQ_
  clear nKA_ nKO_ nHB_ nHc_ nKC_ nHp_ nKP_ nHq_ nKQ_
  clear hb lHd
  have qKA0 := (blk_cell KA.out 0).trans rfl; have qKA1 := (blk_cell KA.out 1).trans rfl
  have qKC0 := (blk_cell KC.out 0).trans rfl; have qKC1 := (blk_cell KC.out 1).trans rfl
  have hd : ((cr.length : Int) != (l0.length : Int)) = false := by rw [RC.out.1]; exact bne_self_eq_false _
  gi_wp2_with fail
  clear qKA0 qKA1 qKC0 qKC1 hd
  refine wpIn_loop (fun a W => ∃ (j : Nat) (u18 u19 u91 u92 u93 u94 u95 u96 u97 u98 u99 u100 u101 u102 u103 u104 u105 u106 u107 u108 u109 u110 u111 u112 u113 u114 u115 u116 u117 u118 u119 u120 u121 u122 u123 u124 u125 u126 u127 u128 u129 u130 u131 u132 u133 u134 u135 u136 u137 u138 u139 u140 : Value), a = { tmps := #[.agg #[.int .i64 l0.length, .slice A0 l0.length c0], .agg #[.int .i64 m, .slice B0 lb.length d0], .int .i64 x2, .int .i64 x3, .pointer (some ⟨w.heap.size, 0, none⟩), .pointer (some ⟨w.heap.size + 1, 0, none⟩), undef, undef, .bool false, .pointer (some ⟨w2.heap.size, 0, none⟩), .int .i64 0, .pointer (some ⟨w4.heap.size, 0, none⟩), .int .i64 0, .pointer (some ⟨w5.heap.size, 0, none⟩), .int .i64 0, .pointer (some ⟨w6.heap.size, 0, none⟩), .int .i64 0, .int .i64 j, u18, u19, undef, undef, undef, undef, undef, undef, undef, .bool true, .bool false, .tuple #[.agg #[.int .i64 l0.length, .slice AHc cr.length cHc], .int .i64 0], .agg #[.int .i64 l0.length, .slice A0 l0.length c0], .tuple #[.agg #[.int .i64 l0.length, .slice AHc cr.length cHc], .int .i64 0], .agg #[.int .i64 l0.length, .slice AHc cr.length cHc], .int .i64 0, .agg #[.int .i64 l0.length, .slice A0 l0.length c0], .bool true, .bool false, .bool false, .pointer (some ⟨w.heap.size, 0, none⟩), .int .i64 l0.length, .pointer (some ⟨w.heap.size, 1, none⟩), .slice A0 l0.length c0, .int .i64 l0.length, .bool false, .bool false, undef, undef, undef, .tuple #[.agg #[.int .i64 l0.length, .slice AHp pr.length cHp], .int .i64 0], .agg #[.int .i64 l0.length, .slice A0 l0.length c0], .agg #[.int .i64 l0.length, .slice AHc cr.length cHc], .tuple #[.agg #[.int .i64 l0.length, .slice AHp pr.length cHp], .int .i64 0], .agg #[.int .i64 l0.length, .slice AHp pr.length cHp], .int .i64 0, .tuple #[.agg #[.int .i64 l0.length, .slice AHq qr.length cHq], .int .i64 0], .agg #[.int .i64 l0.length, .slice AHc cr.length cHc], .agg #[.int .i64 l0.length, .slice AHc cr.length cHc], .tuple #[.agg #[.int .i64 l0.length, .slice AHq qr.length cHq], .int .i64 0], .agg #[.int .i64 l0.length, .slice AHq qr.length cHq], .int .i64 0, .tuple #[.agg #[.int .i64 l0.length, .slice AHd cr.length cHd], .int .i64 0], .agg #[.int .i64 l0.length, .slice AHc cr.length cHc], .tuple #[.agg #[.int .i64 l0.length, .slice AHd cr.length cHd], .int .i64 0], .agg #[.int .i64 l0.length, .slice AHd cr.length cHd], .int .i64 0, .int .i64 0, .int .i64 0, .int .i64 0, .int .i64 0, .int .i64 0, .int .i64 0, .int .i64 0, .int .i64 0, .int .i64 0, .int .i64 0, .int .i64 0, .bool false, .bool false, .agg #[.int .i64 l0.length, .slice AHc cr.length cHc], .agg #[.int .i64 l0.length, .slice AHd cr.length cHd], .bool true, .bool false, .bool false, .bool false, .pointer (some ⟨w2.heap.size, 1, none⟩), .slice AHc cr.length cHc, .int .i64 cr.length, .pointer (some ⟨w.heap.size, 0, none⟩), .int .i64 l0.length, .bool false, .bool false, u91, u92, u93, u94, u95, u96, u97, u98, u99, u100, u101, u102, u103, u104, u105, u106, u107, u108, u109, u110, u111, u112, u113, u114, u115, u116, u117, u118, u119, u120, u121, u122, u123, u124, u125, u126, u127, u128, u129, u130, u131, u132, u133, u134, u135, u136, u137, u138, u139, u140, undef, undef, undef, undef, undef, undef, undef, undef, undef, undef, undef, undef, undef, undef, undef, undef, undef, undef, undef, undef, undef, undef, undef, undef, undef, undef, undef, undef, undef, undef, undef, undef, undef, undef, undef, undef, undef, undef, undef, undef, undef, undef, undef, undef, undef, undef, undef, undef, undef, undef, undef, undef, undef, undef, undef, undef, undef, undef, undef, undef, undef, undef, undef, undef, undef, undef, undef, undef, undef, undef, undef, undef, undef, undef, undef, undef, undef, undef, undef], defers := [] } ∧ Aside0 (j ≤ l0.length) ∧ Aside0 (W.heap[w.heap.size]? = some (.cells #[.int .i64 l0.length, .slice A0 l0.length c0] 56 (0, 0))) ∧ Aside0 (W.heap[w.heap.size + 1]? = some (.cells #[.int .i64 m, .slice B0 lb.length d0] 56 (0, 0))) ∧ Aside0 (W.heap[w2.heap.size]? = some (.cells #[.int .i64 l0.length, .slice AHc cr.length cHc] 56 (0, 0))) ∧ Aside0 (W.heap[w4.heap.size]? = some (.cells #[.int .i64 l0.length, .slice AHp pr.length cHp] 56 (0, 0))) ∧ Aside0 (W.heap[w5.heap.size]? = some (.cells #[.int .i64 l0.length, .slice AHq qr.length cHq] 56 (0, 0))) ∧ Aside0 (Kd.C k24 W AHc cr.length cr) ∧ Aside0 (Kd.C k24 W AHp pr.length pr) ∧ Aside0 (Kd.C k24 W AHq qr.length qr) ∧ Aside0 (Below w.heap.size w W))
    (fun a _ => l0.length - (intOf (a.tmps.getD 17 undef)).toNat) ?start ?round
  case start =>
    exact ⟨0, undef, undef, undef, undef, undef, undef, undef, undef, undef, undef, undef, undef, undef, undef, undef, undef, undef, undef, undef, undef, undef, undef, undef, undef, undef, undef, undef, undef, undef, undef, undef, undef, undef, undef, undef, undef, undef, undef, undef, undef, undef, undef, undef, undef, undef, undef, undef, undef, undef, undef, undef, undef, rfl, ⟨Nat.zero_le _⟩, KA, KO, KC, KP, KQ, Hc, Hp, Hq, HB⟩
  case round =>
    clear KA KO KC KP KQ Hc Hp Hq HB
    rintro a wr ⟨j, u18, u19, u91, u92, u93, u94, u95, u96, u97, u98, u99, u100, u101, u102, u103, u104, u105, u106, u107, u108, u109, u110, u111, u112, u113, u114, u115, u116, u117, u118, u119, u120, u121, u122, u123, u124, u125, u126, u127, u128, u129, u130, u131, u132, u133, u134, u135, u136, u137, u138, u139, u140, rfl, hj, KA, KO, KC, KP, KQ, Hc, Hp, Hq, HB⟩
    by_cases hlt : j < l0.length
    · skip
      have hn4 : l0.length ≤ 4096 := HN.out
      obtain ⟨adt, At, ct, et, q0t, q1t, hmt, hCt⟩ := at_T24 (Kd.C_below HC.out HB.out) (j : Int) (by omega) (by first | omega | (rw [RT.out.1]; omega))
      subst et
      simp only [Int.toNat_natCast] at q0t q1t
      obtain ⟨r0t, rIt⟩ := RowsAre.row RT.out hlt
      obtain ⟨st, hst⟩ : ∃ s, rd_T24 l0 (j : Int) = s := ⟨_, rfl⟩
      rw [hst] at q0t q1t hmt hCt r0t rIt
      obtain ⟨ft, wst⟩ := st
      simp only at q0t q1t hmt hCt r0t rIt
      subst r0t
      obtain ⟨adp, Ap, cp, ep, q0p, q1p, hmp, hCp⟩ := at_T24 Hp.out (j : Int) (by omega) (by first | omega | (rw [RP.out.1]; omega))
      subst ep
      simp only [Int.toNat_natCast] at q0p q1p
      obtain ⟨r0p, rIp⟩ := RowsAre.row RP.out hlt
      obtain ⟨sp, hsp⟩ : ∃ s, rd_T24 pr (j : Int) = s := ⟨_, rfl⟩
      rw [hsp] at q0p q1p hmp hCp r0p rIp
      obtain ⟨fp, wsp⟩ := sp
      simp only at q0p q1p hmp hCp r0p rIp
      subst r0p
      obtain ⟨ws, hw, ku, hU0⟩ := union_rows HN.out (a := ⟨(l0.length : Int), wst⟩) (b := ⟨(l0.length : Int), wsp⟩) rfl rfl rIt rIp
      have hU := Aside0.mk (hU0 ku (Nat.le_refl _)); dsimp only at hU; clear hU0
      have HFt := Aside0.mk (Kd.C_F (Kd.heap_int .u64) (Kd.C_drew hCt)); have HFp := Aside0.mk (Kd.C_F (Kd.heap_int .u64) (Kd.C_drew hCp)); clear hCt hCp
      have hd : decide (j < l0.length) = true := decide_eq_true hlt
      have hjp : j < pr.length := by rw [RP.out.1]; exact hlt
      have qKA0 := (blk_cell KA.out 0).trans rfl; have qKA1 := (blk_cell KA.out 1).trans rfl
      gi_wp2_with fail
      clear qKA0 qKA1
      have nKA_ := Aside0.mk (blk_drew KA.out)
      have nKO_ := Aside0.mk (blk_drew KO.out)
      have nKC_ := Aside0.mk (blk_drew KC.out)
      have nKP_ := Aside0.mk (blk_drew KP.out)
      have nKQ_ := Aside0.mk (blk_drew KQ.out)
      have nHc_ := Aside0.mk (Kd.C_drew Hc.out)
      have nHp_ := Aside0.mk (Kd.C_drew Hp.out)
      have nHq_ := Aside0.mk (Kd.C_drew Hq.out)
      have nHB_ := Aside0.mk (below_drew1 HB.out)
      clear KA KO KC KP KQ Hc Hp Hq HB
      have KA := nKA_; have KO := nKO_; have KC := nKC_; have KP := nKP_; have KQ := nKQ_; have Hc := nHc_; have Hp := nHp_; have Hq := nHq_; have HB := nHB_
      clear nKA_ nKO_ nKC_ nKP_ nKQ_ nHc_ nHp_ nHq_ nHB_
      refine wpIn_wide.2 ?_
      refine start_ (n := 20) (S := fun w' => w'.cell? ⟨w.heap.size, 0, none⟩ = some (.int .i64 l0.length) ∧ w'.cell? ⟨w.heap.size, 1, none⟩ = some (.slice (some adt) l0.length c0) ∧ w'.cell? ⟨w4.heap.size, 1, none⟩ = some (.slice (some adp) pr.length cHp) ∧ w'.cell? (adt.add (j * 2)) = some (.int .i64 l0.length) ∧ w'.cell? ⟨(adt.add (j * 2)).block, (adt.add (j * 2)).off + 1, none⟩ = some (.slice At wst.length ct) ∧ w'.cell? (adp.add (j * 2)) = some (.int .i64 l0.length) ∧ w'.cell? ⟨(adp.add (j * 2)).block, (adp.add (j * 2)).off + 1, none⟩ = some (.slice Ap wsp.length cp)) (ds := []) #[false, false, false, false, false, false, false, false, false, false, false, false, false, false, false, false, false, false, false, false] (by kernel_rfl) (by kernel_rfl) rfl ⟨(blk_cell KA.out 0).trans rfl, (blk_cell KA.out 1).trans rfl, (blk_cell KP.out 1).trans rfl, q0t, q1t, q0p, q1p⟩ (fun hHeld => ?_)
      clear q0t q1t q0p q1p
      generalize wr.drew = W4 at KA KO KC KP KQ Hc Hp Hq HB HFt HFp hHeld ⊢
      have hH0 := hHeld
      refine pure_ (i := 0) (N := some 98) (v := ?_) (a' := ?_) #[true, false, false, false, false, false, false, false, false, false, false, false, false, false, false, false, false, false, false, false] rfl rfl (by kernel_rfl) (fun _ _ _ h => h) (Or.inl ⟨by rfl, ?_⟩) ?_ ?_
      rotate_left
      · intro w'
        go_simp
        with_reducible rfl
      rotate_left
      · simp only [Act.put, List.setIfInBounds_toArray, List.set_cons_zero, List.set_cons_succ, i64_w, i32_w]
        rfl
      refine pure_ (i := 2) (N := some 100) (v := ?_) (a' := ?_) #[true, false, true, false, false, false, false, false, false, false, false, false, false, false, false, false, false, false, false, false] rfl rfl (by kernel_rfl) (fun _ _ _ h => h) (Or.inl ⟨by rfl, ?_⟩) ?_ ?_
      rotate_left
      · intro w'
        go_simp
        with_reducible rfl
      rotate_left
      · simp only [Act.put, List.setIfInBounds_toArray, List.set_cons_zero, List.set_cons_succ, i64_w, i32_w]
        rfl
      refine pure_ (i := 4) (N := some 102) (v := ?_) (a' := ?_) #[true, false, true, false, true, false, false, false, false, false, false, false, false, false, false, false, false, false, false, false] rfl rfl (by kernel_rfl) (fun _ _ _ h => h) (Or.inl ⟨by rfl, ?_⟩) ?_ ?_
      rotate_left
      · intro w'
        go_simp
        with_reducible rfl
      rotate_left
      · simp only [Act.put, List.setIfInBounds_toArray, List.set_cons_zero, List.set_cons_succ, i64_w, i32_w]
        rfl
      refine pure_ (i := 7) (N := some 105) (v := ?_) (a' := ?_) #[true, false, true, false, true, false, false, true, false, false, false, false, false, false, false, false, false, false, false, false] rfl rfl (by kernel_rfl) (fun _ _ _ h => h) (Or.inl ⟨by rfl, ?_⟩) ?_ ?_
      rotate_left
      · intro w'
        go_simp
        with_reducible rfl
      rotate_left
      · simp only [Act.put, List.setIfInBounds_toArray, List.set_cons_zero, List.set_cons_succ, i64_w, i32_w]
        rfl
      refine pure_ (i := 9) (N := some 107) (v := ?_) (a' := ?_) #[true, false, true, false, true, false, false, true, false, true, false, false, false, false, false, false, false, false, false, false] rfl rfl (by kernel_rfl) (fun _ _ _ h => h) (Or.inl ⟨by rfl, ?_⟩) ?_ ?_
      rotate_left
      · intro w'
        go_simp
        with_reducible rfl
      rotate_left
      · simp only [Act.put, List.setIfInBounds_toArray, List.set_cons_zero, List.set_cons_succ, i64_w, i32_w]
        rfl
      refine take_ (i := 1) (N := some 99) (v := ?_) (a' := ?_) #[true, true, true, false, true, false, false, true, false, true, false, false, false, false, false, false, false, false, false, false] rfl rfl (by kernel_rfl) (fun _ _ _ h => h) (Or.inl ⟨by rfl, ?_⟩) hHeld ?_ ?_
      rotate_left
      · rintro w' ⟨s0, s1, s2, s3, s4, s5, s6⟩
        go_simp
        with_reducible rfl
      rotate_left
      · simp only [Act.put, List.setIfInBounds_toArray, List.set_cons_zero, List.set_cons_succ, i64_w, i32_w]
        rfl
      refine take_ (i := 3) (N := some 101) (v := ?_) (a' := ?_) #[true, true, true, true, true, false, false, true, false, true, false, false, false, false, false, false, false, false, false, false] rfl rfl (by kernel_rfl) (fun _ _ _ h => h) (Or.inl ⟨by rfl, ?_⟩) hHeld ?_ ?_
      rotate_left
      · rintro w' ⟨s0, s1, s2, s3, s4, s5, s6⟩
        go_simp
        with_reducible rfl
      rotate_left
      · simp only [Act.put, List.setIfInBounds_toArray, List.set_cons_zero, List.set_cons_succ, i64_w, i32_w]
        rfl
      refine pure_ (i := 5) (N := some 103) (v := ?_) (a' := ?_) #[true, true, true, true, true, true, false, true, false, true, false, false, false, false, false, false, false, false, false, false] rfl rfl (by kernel_rfl) (fun _ _ _ h => h) (Or.inl ⟨by rfl, ?_⟩) ?_ ?_
      rotate_left
      · intro w'
        go_simp
        with_reducible rfl
      rotate_left
      · simp only [Act.put, List.setIfInBounds_toArray, List.set_cons_zero, List.set_cons_succ, i64_w, i32_w]
        rfl
      refine take_ (i := 6) (N := some 104) (v := ?_) (a' := ?_) #[true, true, true, true, true, true, true, true, false, true, false, false, false, false, false, false, false, false, false, false] rfl rfl (by kernel_rfl) (fun _ _ _ h => h) (Or.inl ⟨by rfl, ?_⟩) hHeld ?_ ?_
      rotate_left
      · rintro w' ⟨s0, s1, s2, s3, s4, s5, s6⟩
        go_simp
        with_reducible rfl
      rotate_left
      · simp only [Act.put, List.setIfInBounds_toArray, List.set_cons_zero, List.set_cons_succ, i64_w, i32_w]
        rfl
      refine take_ (i := 8) (N := some 106) (v := ?_) (a' := ?_) #[true, true, true, true, true, true, true, true, true, true, false, false, false, false, false, false, false, false, false, false] rfl rfl (by kernel_rfl) (fun _ _ _ h => h) (Or.inl ⟨by rfl, ?_⟩) hHeld ?_ ?_
      rotate_left
      · rintro w' ⟨s0, s1, s2, s3, s4, s5, s6⟩
        go_simp
        with_reducible rfl
      rotate_left
      · simp only [Act.put, List.setIfInBounds_toArray, List.set_cons_zero, List.set_cons_succ, i64_w, i32_w]
        rfl
      refine pure_ (i := 10) (N := some 108) (v := ?_) (a' := ?_) #[true, true, true, true, true, true, true, true, true, true, true, false, false, false, false, false, false, false, false, false] rfl rfl (by kernel_rfl) (fun _ _ _ h => h) (Or.inl ⟨by rfl, ?_⟩) ?_ ?_
      rotate_left
      · intro w'
        go_simp
        with_reducible rfl
      rotate_left
      · simp only [Act.put, List.setIfInBounds_toArray, List.set_cons_zero, List.set_cons_succ, i64_w, i32_w]
        rfl
      refine take_ (i := 11) (N := some 109) (v := ?_) (a' := ?_) #[true, true, true, true, true, true, true, true, true, true, true, true, false, false, false, false, false, false, false, false] rfl rfl (by kernel_rfl) (fun _ _ _ h => h) (Or.inl ⟨by rfl, ?_⟩) hHeld ?_ ?_
      rotate_left
      · rintro w' ⟨s0, s1, s2, s3, s4, s5, s6⟩
        go_simp
        with_reducible rfl
      rotate_left
      · simp only [Act.put, List.setIfInBounds_toArray, List.set_cons_zero, List.set_cons_succ, i64_w, i32_w]
        rfl
      refine join_ (σ := Value × Value × Nat) 2 #[true, true, true, true, true, true, true, true, true, true, true, true, true, true, true, true, true, true, false, false] (fun s_ => [(110, s_.1), (111, .tuple #[.agg #[.int .i64 l0.length, s_.2.1], .int .i64 0]), (18, .pointer (some ⟨s_.2.2, 0, none⟩)), (97, .tuple #[.agg #[.int .i64 l0.length, s_.2.1], .int .i64 0]), (112, .agg #[.int .i64 l0.length, s_.2.1]), (113, .int .i64 0)]) (fun s_ w' => Below W4.heap.size W4 w' ∧ W4.heap.size ≤ s_.2.2 ∧ w'.heap[s_.2.2]? = some (.cells #[.int .i64 0, .slice none 0 0] 24 (0, 0)) ∧ Kd.R (Kd.int .u64) 87 w' W4.heap.size (fun k_ => k_ ≠ s_.2.2) s_.2.1 ws) (fun s_ w' hF => ?_) (fun hCont => ?_)
      rotate_left
      · skip
        refine two_ (i := 12) (j := 17) (Ni := some 110) (Nj := some 18) #[true, true, true, true, true, true, true, true, true, true, true, true, true, false, false, false, false, false, false, false] #[true, true, true, true, true, true, true, true, true, true, true, true, false, false, false, false, false, true, false, false] rfl rfl rfl rfl (by kernel_rfl) (by decide) (by decide) (fun K hK => ?_) (fun K hK => ?_)
        · skip
          refine Kd.N_lit_step k24 (w0 := W4) W4.heap.size 24 ?hg (N' := 110) ?hd (xs := [(⟨(l0.length : Int), wst⟩ : S24), (⟨(l0.length : Int), wsp⟩ : S24)]) (inner := [.int .i64 l0.length, .slice At wst.length ct, .int .i64 l0.length, .slice Ap wsp.length cp]) (ok := fun _ => True) (okp := fun _ => True) ?hr ?hp (fun _ hk => hk) trivial (Below.refl _ _) (Nat.le_refl _) (by simp) ?_
          case hd => rfl
          case hg => rfl
          case hr => first | (go_simp; done) | (go_simp; rfl)
          case hp => exact Reps.c2 (k24_mkF _ _ (⟨(l0.length : Int), wst⟩ : S24) hmt (Kd.F_mono HFt.out (fun _ _ => trivial))) (Reps.c2 (k24_mkF _ _ (⟨(l0.length : Int), wsp⟩ : S24) hmp (Kd.F_mono HFp.out (fun _ _ => trivial))) (Reps.none _ _))
          intro vl wa hN hb _ _
          obtain ⟨Al, cl, rfl⟩ := Kd.N_slice hN
          refine hK.out _ _ ⟨(hb.cell (World.block_lt_of_cell? _ _ hHeld.1)).trans hHeld.1, (hb.cell (World.block_lt_of_cell? _ _ hHeld.2.1)).trans hHeld.2.1, (hb.cell (World.block_lt_of_cell? _ _ hHeld.2.2.1)).trans hHeld.2.2.1, (hb.cell (World.block_lt_of_cell? _ _ hHeld.2.2.2.1)).trans hHeld.2.2.2.1, (hb.cell (World.block_lt_of_cell? _ _ hHeld.2.2.2.2.1)).trans hHeld.2.2.2.2.1, (hb.cell (World.block_lt_of_cell? _ _ hHeld.2.2.2.2.2.1)).trans hHeld.2.2.2.2.2.1, (hb.cell (World.block_lt_of_cell? _ _ hHeld.2.2.2.2.2.2)).trans hHeld.2.2.2.2.2.2⟩ (fun hHeld => ?_)
          clear hK K
          refine norm_ (a' := ?_) ?_ ?_
          rotate_left
          · show Act.put _ (some 110) _ = _
            simp only [Act.put, List.setIfInBounds_toArray, List.set_cons_zero, List.set_cons_succ, i64_w, i32_w]
            rfl
          have hCl := (Kd.N_reads' hN).2.2; have hlen := (Kd.N_reads' hN).2.1; have hB := hb; clear hb
          refine two_ (i := 13) (j := 17) (Ni := some 111) (Nj := some 18) #[true, true, true, true, true, true, true, true, true, true, true, true, true, true, false, false, false, false, false, false] #[true, true, true, true, true, true, true, true, true, true, true, true, true, false, false, false, false, true, false, false] rfl rfl rfl rfl (by kernel_rfl) (by decide) (by decide) (fun K hK => ?_) (fun K hK => ?_)
          · skip
            have hsz := below_size hB
            refine goes_ Tryd.func58 (by kernel_rfl) rfl #[.int .i64 l0.length, .slice Al 2 cl] (by rfl) rfl rfl (by (try simp only [List.map_toArray, List.map_cons, List.map_nil]); first | done | rfl) ?_
            refine (bitset_Union.calls ku l0.length _ _ [(⟨(l0.length : Int), wst⟩ : S24), (⟨(l0.length : Int), wsp⟩ : S24)] l0.length ws 0 _ hCl hlen hU.out).mono ?_
            rintro e wb_ ⟨va, rfl, ho, hb⟩
            refine ⟨_, rfl, ?_⟩
            refine hK.out _ _ ⟨(hb.cell (World.block_lt_of_cell? _ _ hHeld.1)).trans hHeld.1, (hb.cell (World.block_lt_of_cell? _ _ hHeld.2.1)).trans hHeld.2.1, (hb.cell (World.block_lt_of_cell? _ _ hHeld.2.2.1)).trans hHeld.2.2.1, (hb.cell (World.block_lt_of_cell? _ _ hHeld.2.2.2.1)).trans hHeld.2.2.2.1, (hb.cell (World.block_lt_of_cell? _ _ hHeld.2.2.2.2.1)).trans hHeld.2.2.2.2.1, (hb.cell (World.block_lt_of_cell? _ _ hHeld.2.2.2.2.2.1)).trans hHeld.2.2.2.2.2.1, (hb.cell (World.block_lt_of_cell? _ _ hHeld.2.2.2.2.2.2)).trans hHeld.2.2.2.2.2.2⟩ (fun hHeld => ?_)
            clear hK K
            refine norm_ (a' := ?_) ?_ ?_
            rotate_left
            · show Act.put _ (some 111) _ = _
              simp only [Act.put, List.setIfInBounds_toArray, List.set_cons_zero, List.set_cons_succ, i64_w, i32_w]
              rfl
            refine pure_ (i := 14) (N := some 97) (v := ?_) (a' := ?_) #[true, true, true, true, true, true, true, true, true, true, true, true, true, true, true, false, false, false, false, false] rfl rfl (by kernel_rfl) (fun _ _ _ h => h) (Or.inl ⟨by rfl, ?_⟩) ?_ ?_
            rotate_left
            · intro w'
              go_simp
              with_reducible rfl
            rotate_left
            · simp only [Act.put, List.setIfInBounds_toArray, List.set_cons_zero, List.set_cons_succ, i64_w, i32_w]
              rfl
            refine pure_ (i := 15) (N := some 112) (v := ?_) (a' := ?_) #[true, true, true, true, true, true, true, true, true, true, true, true, true, true, true, true, false, false, false, false] rfl rfl (by kernel_rfl) (fun _ _ _ h => h) (Or.inl ⟨by rfl, ?_⟩) ?_ ?_
            rotate_left
            · intro w'
              go_simp
              with_reducible rfl
            rotate_left
            · simp only [Act.put, List.setIfInBounds_toArray, List.set_cons_zero, List.set_cons_succ, i64_w, i32_w]
              rfl
            refine pure_ (i := 16) (N := some 113) (v := ?_) (a' := ?_) #[true, true, true, true, true, true, true, true, true, true, true, true, true, true, true, true, true, false, false, false] rfl rfl (by kernel_rfl) (fun _ _ _ h => h) (Or.inl ⟨by rfl, ?_⟩) ?_ ?_
            rotate_left
            · intro w'
              go_simp
              with_reducible rfl
            rotate_left
            · simp only [Act.put, List.setIfInBounds_toArray, List.set_cons_zero, List.set_cons_succ, i64_w, i32_w]
              rfl
            have hB2 := below_step hB hb; clear hb hB
            refine one_ (i := 17) (N := some 18) #[true, true, true, true, true, true, true, true, true, true, true, true, true, true, true, true, true, true, false, false] rfl rfl (by kernel_rfl) (by decide) (fun K hK => ?_)
            refine box_step ?hg (N := 18) ?hd (cs := #[.int .i64 0, .slice none 0 0]) (t := 24) ?hr ?_; (case hd => rfl); (case hg => rfl); (case hr => first | (go_simp; done) | (go_simp; rfl))
            intro g hg wc hbox hb
            refine hK.out _ _ ⟨(hb.cell (World.block_lt_of_cell? _ _ hHeld.1)).trans hHeld.1, (hb.cell (World.block_lt_of_cell? _ _ hHeld.2.1)).trans hHeld.2.1, (hb.cell (World.block_lt_of_cell? _ _ hHeld.2.2.1)).trans hHeld.2.2.1, (hb.cell (World.block_lt_of_cell? _ _ hHeld.2.2.2.1)).trans hHeld.2.2.2.1, (hb.cell (World.block_lt_of_cell? _ _ hHeld.2.2.2.2.1)).trans hHeld.2.2.2.2.1, (hb.cell (World.block_lt_of_cell? _ _ hHeld.2.2.2.2.2.1)).trans hHeld.2.2.2.2.2.1, (hb.cell (World.block_lt_of_cell? _ _ hHeld.2.2.2.2.2.2)).trans hHeld.2.2.2.2.2.2⟩ (fun hHeld => ?_)
            clear hK K
            refine norm_ (a' := ?_) ?_ ?_
            rotate_left
            · show Act.put _ (some 18) _ = _
              simp only [Act.put, List.setIfInBounds_toArray, List.set_cons_zero, List.set_cons_succ, i64_w, i32_w]
              rfl
            have hge : W4.heap.size ≤ g := by rw [hg]; exact below_size hB2
            have hB := below_step hB2 hb; have hbx := hbox
            have hRR : Kd.R (Kd.int .u64) 87 wc W4.heap.size (fun k_ => k_ ≠ g) va ws := Kd.R_lower (Kd.R_mono (Kd.R_below (Kd.R_bound ho) hb) (fun k_ hk_ => by have := hk_.2.2.1; omega)) hsz
            exact norm_ (by (try simp only [putAll, Act.put, List.setIfInBounds_toArray, List.set_cons_zero, List.set_cons_succ]); first | done | rfl) (hCont (.slice Al 2 cl, va, g) _ ⟨hB, hge, hbx, hRR⟩)
          · skip
            refine box_step ?hg (N := 18) ?hd (cs := #[.int .i64 0, .slice none 0 0]) (t := 24) ?hr ?_; (case hd => rfl); (case hg => rfl); (case hr => first | (go_simp; done) | (go_simp; rfl))
            intro g hg wb_ hbox hb
            refine hK.out _ _ ⟨(hb.cell (World.block_lt_of_cell? _ _ hHeld.1)).trans hHeld.1, (hb.cell (World.block_lt_of_cell? _ _ hHeld.2.1)).trans hHeld.2.1, (hb.cell (World.block_lt_of_cell? _ _ hHeld.2.2.1)).trans hHeld.2.2.1, (hb.cell (World.block_lt_of_cell? _ _ hHeld.2.2.2.1)).trans hHeld.2.2.2.1, (hb.cell (World.block_lt_of_cell? _ _ hHeld.2.2.2.2.1)).trans hHeld.2.2.2.2.1, (hb.cell (World.block_lt_of_cell? _ _ hHeld.2.2.2.2.2.1)).trans hHeld.2.2.2.2.2.1, (hb.cell (World.block_lt_of_cell? _ _ hHeld.2.2.2.2.2.2)).trans hHeld.2.2.2.2.2.2⟩ (fun hHeld => ?_)
            clear hK K
            refine norm_ (a' := ?_) ?_ ?_
            rotate_left
            · show Act.put _ (some 18) _ = _
              simp only [Act.put, List.setIfInBounds_toArray, List.set_cons_zero, List.set_cons_succ, i64_w, i32_w]
              rfl
            have hge : W4.heap.size ≤ g := by rw [hg]; exact below_size hB
            have hB1 := below_step hB hb; have hCl1 := Kd.C_below hCl hb; have hgl := blk_lt hbox; clear hB hCl hb hg
            have hCl := hCl1; have hB := hB1; clear hCl1 hB1
            refine one_ (i := 13) (N := some 111) #[true, true, true, true, true, true, true, true, true, true, true, true, true, true, false, false, false, true, false, false] rfl rfl (by kernel_rfl) (by decide) (fun K hK => ?_)
            refine goes_ Tryd.func58 (by kernel_rfl) rfl #[.int .i64 l0.length, .slice Al 2 cl] (by rfl) rfl rfl (by (try simp only [List.map_toArray, List.map_cons, List.map_nil]); first | done | rfl) ?_
            refine (bitset_Union.calls ku l0.length _ _ [(⟨(l0.length : Int), wst⟩ : S24), (⟨(l0.length : Int), wsp⟩ : S24)] l0.length ws 0 _ hCl hlen hU.out).mono ?_
            rintro e wc ⟨va, rfl, ho, hb⟩
            refine ⟨_, rfl, ?_⟩
            refine hK.out _ _ ⟨(hb.cell (World.block_lt_of_cell? _ _ hHeld.1)).trans hHeld.1, (hb.cell (World.block_lt_of_cell? _ _ hHeld.2.1)).trans hHeld.2.1, (hb.cell (World.block_lt_of_cell? _ _ hHeld.2.2.1)).trans hHeld.2.2.1, (hb.cell (World.block_lt_of_cell? _ _ hHeld.2.2.2.1)).trans hHeld.2.2.2.1, (hb.cell (World.block_lt_of_cell? _ _ hHeld.2.2.2.2.1)).trans hHeld.2.2.2.2.1, (hb.cell (World.block_lt_of_cell? _ _ hHeld.2.2.2.2.2.1)).trans hHeld.2.2.2.2.2.1, (hb.cell (World.block_lt_of_cell? _ _ hHeld.2.2.2.2.2.2)).trans hHeld.2.2.2.2.2.2⟩ (fun hHeld => ?_)
            clear hK K
            refine norm_ (a' := ?_) ?_ ?_
            rotate_left
            · show Act.put _ (some 111) _ = _
              simp only [Act.put, List.setIfInBounds_toArray, List.set_cons_zero, List.set_cons_succ, i64_w, i32_w]
              rfl
            refine pure_ (i := 14) (N := some 97) (v := ?_) (a' := ?_) #[true, true, true, true, true, true, true, true, true, true, true, true, true, true, true, false, false, true, false, false] rfl rfl (by kernel_rfl) (fun _ _ _ h => h) (Or.inl ⟨by rfl, ?_⟩) ?_ ?_
            rotate_left
            · intro w'
              go_simp
              with_reducible rfl
            rotate_left
            · simp only [Act.put, List.setIfInBounds_toArray, List.set_cons_zero, List.set_cons_succ, i64_w, i32_w]
              rfl
            refine pure_ (i := 15) (N := some 112) (v := ?_) (a' := ?_) #[true, true, true, true, true, true, true, true, true, true, true, true, true, true, true, true, false, true, false, false] rfl rfl (by kernel_rfl) (fun _ _ _ h => h) (Or.inl ⟨by rfl, ?_⟩) ?_ ?_
            rotate_left
            · intro w'
              go_simp
              with_reducible rfl
            rotate_left
            · simp only [Act.put, List.setIfInBounds_toArray, List.set_cons_zero, List.set_cons_succ, i64_w, i32_w]
              rfl
            refine pure_ (i := 16) (N := some 113) (v := ?_) (a' := ?_) #[true, true, true, true, true, true, true, true, true, true, true, true, true, true, true, true, true, true, false, false] rfl rfl (by kernel_rfl) (fun _ _ _ h => h) (Or.inl ⟨by rfl, ?_⟩) ?_ ?_
            rotate_left
            · intro w'
              go_simp
              with_reducible rfl
            rotate_left
            · simp only [Act.put, List.setIfInBounds_toArray, List.set_cons_zero, List.set_cons_succ, i64_w, i32_w]
              rfl
            have hB2 := below_step hB hb; have hbx := blk_below hbox hb; clear hB; have hB := hB2
            have hRR : Kd.R (Kd.int .u64) 87 wc W4.heap.size (fun k_ => k_ ≠ g) va ws := Kd.R_lower (Kd.R_mono (Kd.R_bound ho) (fun k_ hk_ => by have := hk_.2.1; omega)) (by omega)
            exact norm_ (by (try simp only [putAll, Act.put, List.setIfInBounds_toArray, List.set_cons_zero, List.set_cons_succ]); first | done | rfl) (hCont (.slice Al 2 cl, va, g) _ ⟨hB, hge, hbx, hRR⟩)
        · skip
          refine box_step ?hg (N := 18) ?hd (cs := #[.int .i64 0, .slice none 0 0]) (t := 24) ?hr ?_; (case hd => rfl); (case hg => rfl); (case hr => first | (go_simp; done) | (go_simp; rfl))
          intro g hg wa hbox hb
          refine hK.out _ _ ⟨(hb.cell (World.block_lt_of_cell? _ _ hHeld.1)).trans hHeld.1, (hb.cell (World.block_lt_of_cell? _ _ hHeld.2.1)).trans hHeld.2.1, (hb.cell (World.block_lt_of_cell? _ _ hHeld.2.2.1)).trans hHeld.2.2.1, (hb.cell (World.block_lt_of_cell? _ _ hHeld.2.2.2.1)).trans hHeld.2.2.2.1, (hb.cell (World.block_lt_of_cell? _ _ hHeld.2.2.2.2.1)).trans hHeld.2.2.2.2.1, (hb.cell (World.block_lt_of_cell? _ _ hHeld.2.2.2.2.2.1)).trans hHeld.2.2.2.2.2.1, (hb.cell (World.block_lt_of_cell? _ _ hHeld.2.2.2.2.2.2)).trans hHeld.2.2.2.2.2.2⟩ (fun hHeld => ?_)
          clear hK K
          refine norm_ (a' := ?_) ?_ ?_
          rotate_left
          · show Act.put _ (some 18) _ = _
            simp only [Act.put, List.setIfInBounds_toArray, List.set_cons_zero, List.set_cons_succ, i64_w, i32_w]
            rfl
          have hge : W4.heap.size ≤ g := Nat.le_of_eq hg.symm
          have hB0 := hb; have hgl0 := blk_lt hbox; clear hb hg
          refine one_ (i := 12) (N := some 110) #[true, true, true, true, true, true, true, true, true, true, true, true, true, false, false, false, false, true, false, false] rfl rfl (by kernel_rfl) (by decide) (fun K hK => ?_)
          refine Kd.N_lit_step k24 (w0 := wa) wa.heap.size 24 ?hg (N' := 110) ?hd (xs := [(⟨(l0.length : Int), wst⟩ : S24), (⟨(l0.length : Int), wsp⟩ : S24)]) (inner := [.int .i64 l0.length, .slice At wst.length ct, .int .i64 l0.length, .slice Ap wsp.length cp]) (ok := fun _ => True) (okp := fun _ => True) ?hr ?hp (fun _ hk => hk) trivial (Below.refl _ _) (Nat.le_refl _) (by simp) ?_
          case hd => rfl
          case hg => rfl
          case hr => first | (go_simp; done) | (go_simp; rfl)
          case hp => exact Reps.c2 (k24_mkF _ _ (⟨(l0.length : Int), wst⟩ : S24) hmt (Kd.F_mono (Kd.F_below HFt.out hB0) (fun _ _ => trivial))) (Reps.c2 (k24_mkF _ _ (⟨(l0.length : Int), wsp⟩ : S24) hmp (Kd.F_mono (Kd.F_below HFp.out hB0) (fun _ _ => trivial))) (Reps.none _ _))
          intro vl wb_ hN hb _ _
          obtain ⟨Al, cl, rfl⟩ := Kd.N_slice hN
          refine hK.out _ _ ⟨(hb.cell (World.block_lt_of_cell? _ _ hHeld.1)).trans hHeld.1, (hb.cell (World.block_lt_of_cell? _ _ hHeld.2.1)).trans hHeld.2.1, (hb.cell (World.block_lt_of_cell? _ _ hHeld.2.2.1)).trans hHeld.2.2.1, (hb.cell (World.block_lt_of_cell? _ _ hHeld.2.2.2.1)).trans hHeld.2.2.2.1, (hb.cell (World.block_lt_of_cell? _ _ hHeld.2.2.2.2.1)).trans hHeld.2.2.2.2.1, (hb.cell (World.block_lt_of_cell? _ _ hHeld.2.2.2.2.2.1)).trans hHeld.2.2.2.2.2.1, (hb.cell (World.block_lt_of_cell? _ _ hHeld.2.2.2.2.2.2)).trans hHeld.2.2.2.2.2.2⟩ (fun hHeld => ?_)
          clear hK K
          refine norm_ (a' := ?_) ?_ ?_
          rotate_left
          · show Act.put _ (some 110) _ = _
            simp only [Act.put, List.setIfInBounds_toArray, List.set_cons_zero, List.set_cons_succ, i64_w, i32_w]
            rfl
          have hCl := (Kd.N_reads' hN).2.2; have hlen := (Kd.N_reads' hN).2.1; have hB := below_step hB0 hb; have hbox1 := blk_below hbox hb; clear hbox hb hB0; have hbox := hbox1; have hgl := blk_lt hbox
          refine one_ (i := 13) (N := some 111) #[true, true, true, true, true, true, true, true, true, true, true, true, true, true, false, false, false, true, false, false] rfl rfl (by kernel_rfl) (by decide) (fun K hK => ?_)
          refine goes_ Tryd.func58 (by kernel_rfl) rfl #[.int .i64 l0.length, .slice Al 2 cl] (by rfl) rfl rfl (by (try simp only [List.map_toArray, List.map_cons, List.map_nil]); first | done | rfl) ?_
          refine (bitset_Union.calls ku l0.length _ _ [(⟨(l0.length : Int), wst⟩ : S24), (⟨(l0.length : Int), wsp⟩ : S24)] l0.length ws 0 _ hCl hlen hU.out).mono ?_
          rintro e wc ⟨va, rfl, ho, hb⟩
          refine ⟨_, rfl, ?_⟩
          refine hK.out _ _ ⟨(hb.cell (World.block_lt_of_cell? _ _ hHeld.1)).trans hHeld.1, (hb.cell (World.block_lt_of_cell? _ _ hHeld.2.1)).trans hHeld.2.1, (hb.cell (World.block_lt_of_cell? _ _ hHeld.2.2.1)).trans hHeld.2.2.1, (hb.cell (World.block_lt_of_cell? _ _ hHeld.2.2.2.1)).trans hHeld.2.2.2.1, (hb.cell (World.block_lt_of_cell? _ _ hHeld.2.2.2.2.1)).trans hHeld.2.2.2.2.1, (hb.cell (World.block_lt_of_cell? _ _ hHeld.2.2.2.2.2.1)).trans hHeld.2.2.2.2.2.1, (hb.cell (World.block_lt_of_cell? _ _ hHeld.2.2.2.2.2.2)).trans hHeld.2.2.2.2.2.2⟩ (fun hHeld => ?_)
          clear hK K
          refine norm_ (a' := ?_) ?_ ?_
          rotate_left
          · show Act.put _ (some 111) _ = _
            simp only [Act.put, List.setIfInBounds_toArray, List.set_cons_zero, List.set_cons_succ, i64_w, i32_w]
            rfl
          refine pure_ (i := 14) (N := some 97) (v := ?_) (a' := ?_) #[true, true, true, true, true, true, true, true, true, true, true, true, true, true, true, false, false, true, false, false] rfl rfl (by kernel_rfl) (fun _ _ _ h => h) (Or.inl ⟨by rfl, ?_⟩) ?_ ?_
          rotate_left
          · intro w'
            go_simp
            with_reducible rfl
          rotate_left
          · simp only [Act.put, List.setIfInBounds_toArray, List.set_cons_zero, List.set_cons_succ, i64_w, i32_w]
            rfl
          refine pure_ (i := 15) (N := some 112) (v := ?_) (a' := ?_) #[true, true, true, true, true, true, true, true, true, true, true, true, true, true, true, true, false, true, false, false] rfl rfl (by kernel_rfl) (fun _ _ _ h => h) (Or.inl ⟨by rfl, ?_⟩) ?_ ?_
          rotate_left
          · intro w'
            go_simp
            with_reducible rfl
          rotate_left
          · simp only [Act.put, List.setIfInBounds_toArray, List.set_cons_zero, List.set_cons_succ, i64_w, i32_w]
            rfl
          refine pure_ (i := 16) (N := some 113) (v := ?_) (a' := ?_) #[true, true, true, true, true, true, true, true, true, true, true, true, true, true, true, true, true, true, false, false] rfl rfl (by kernel_rfl) (fun _ _ _ h => h) (Or.inl ⟨by rfl, ?_⟩) ?_ ?_
          rotate_left
          · intro w'
            go_simp
            with_reducible rfl
          rotate_left
          · simp only [Act.put, List.setIfInBounds_toArray, List.set_cons_zero, List.set_cons_succ, i64_w, i32_w]
            rfl
          have hB2 := below_step hB hb; have hbx := blk_below hbox hb; clear hB; have hB := hB2
          have hRR : Kd.R (Kd.int .u64) 87 wc W4.heap.size (fun k_ => k_ ≠ g) va ws := Kd.R_lower (Kd.R_mono (Kd.R_bound ho) (fun k_ hk_ => by have := hk_.2.1; omega)) (by omega)
          exact norm_ (by (try simp only [putAll, Act.put, List.setIfInBounds_toArray, List.set_cons_zero, List.set_cons_succ]); first | done | rfl) (hCont (.slice Al 2 cl, va, g) _ ⟨hB, hge, hbx, hRR⟩)
      obtain ⟨hB, hge, hbx, hRR⟩ := hF
      obtain ⟨vl, va, g⟩ := s_
      obtain ⟨As, cs_, rfl⟩ := Kd.R_slice hRR
      simp only at hge hbx hRR
      have hH2 : w'.cell? ⟨w.heap.size, 0, none⟩ = some (.int .i64 l0.length) ∧ w'.cell? ⟨w.heap.size, 1, none⟩ = some (.slice (some adt) l0.length c0) ∧ w'.cell? ⟨w4.heap.size, 1, none⟩ = some (.slice (some adp) pr.length cHp) ∧ w'.cell? (adt.add (j * 2)) = some (.int .i64 l0.length) ∧ w'.cell? ⟨(adt.add (j * 2)).block, (adt.add (j * 2)).off + 1, none⟩ = some (.slice At wst.length ct) ∧ w'.cell? (adp.add (j * 2)) = some (.int .i64 l0.length) ∧ w'.cell? ⟨(adp.add (j * 2)).block, (adp.add (j * 2)).off + 1, none⟩ = some (.slice Ap wsp.length cp) := ⟨(hB.cell (World.block_lt_of_cell? _ _ hHeld.1)).trans hHeld.1, (hB.cell (World.block_lt_of_cell? _ _ hHeld.2.1)).trans hHeld.2.1, (hB.cell (World.block_lt_of_cell? _ _ hHeld.2.2.1)).trans hHeld.2.2.1, (hB.cell (World.block_lt_of_cell? _ _ hHeld.2.2.2.1)).trans hHeld.2.2.2.1, (hB.cell (World.block_lt_of_cell? _ _ hHeld.2.2.2.2.1)).trans hHeld.2.2.2.2.1, (hB.cell (World.block_lt_of_cell? _ _ hHeld.2.2.2.2.2.1)).trans hHeld.2.2.2.2.2.1, (hB.cell (World.block_lt_of_cell? _ _ hHeld.2.2.2.2.2.2)).trans hHeld.2.2.2.2.2.2⟩
      clear hHeld; have hHeld := hH2; clear hH2
      refine norm_ (a' := ?_) ?_ ?_
      rotate_left
      · simp only [putAll, Act.put, List.setIfInBounds_toArray, List.set_cons_zero, List.set_cons_succ]
        rfl
      refine one_ (i := 18) (N := none) #[true, true, true, true, true, true, true, true, true, true, true, true, true, true, true, true, true, true, true, false] rfl rfl (by kernel_rfl) (by decide) (fun K hK => ?_)
      have t0 := (blk_cell hbx 0).trans rfl; have t1 := (blk_cell hbx 1).trans rfl; have f0 := blk_frozen hbx 0; have f1 := blk_frozen hbx 1
      refine skip_ (w1 := ?_) (by rfl) rfl ?_ ?_
      rotate_left
      · go_simp
        rfl
      obtain ⟨X, hX⟩ : ∃ X, (w'.setCell ⟨g, 0, none⟩ (.int .i64 l0.length)).setCell ⟨g, 1, none⟩ (.slice As ws.length cs_) = X := ⟨_, rfl⟩
      have hst := stored hB hge hbx hRR hX
      rw [hX]
      obtain ⟨hRX, hb, hSb, hSl, hSc⟩ := hst
      refine hK.out _ _ ⟨(hb.cell (World.block_lt_of_cell? _ _ hH0.1)).trans hH0.1, (hb.cell (World.block_lt_of_cell? _ _ hH0.2.1)).trans hH0.2.1, (hb.cell (World.block_lt_of_cell? _ _ hH0.2.2.1)).trans hH0.2.2.1, (hb.cell (World.block_lt_of_cell? _ _ hH0.2.2.2.1)).trans hH0.2.2.2.1, (hb.cell (World.block_lt_of_cell? _ _ hH0.2.2.2.2.1)).trans hH0.2.2.2.2.1, (hb.cell (World.block_lt_of_cell? _ _ hH0.2.2.2.2.2.1)).trans hH0.2.2.2.2.2.1, (hb.cell (World.block_lt_of_cell? _ _ hH0.2.2.2.2.2.2)).trans hH0.2.2.2.2.2.2⟩ (fun hHeld => ?_)
      clear hK K t0 t1 f0 f1 hB hge hbx hRR hX
      refine pure_ (i := 19) (N := some 19) (v := ?_) (a' := ?_) #[true, true, true, true, true, true, true, true, true, true, true, true, true, true, true, true, true, true, true, true] rfl rfl (by kernel_rfl) (fun _ _ _ h => h) (Or.inl ⟨by rfl, ?_⟩) ?_ ?_
      rotate_left
      · intro w'
        go_simp
        with_reducible rfl
      rotate_left
      · simp only [Act.put, List.setIfInBounds_toArray, List.set_cons_zero, List.set_cons_succ, i64_w, i32_w]
        rfl
      refine done_ (by kernel_rfl) ?_
      clear hH0 hHeld
      have nKA_ := Aside0.mk (blk_below KA.out hb)
      have nKO_ := Aside0.mk (blk_below KO.out hb)
      have nKC_ := Aside0.mk (blk_below KC.out hb)
      have nKP_ := Aside0.mk (blk_below KP.out hb)
      have nKQ_ := Aside0.mk (blk_below KQ.out hb)
      have nHc_ := Aside0.mk (Kd.C_below Hc.out hb)
      have nHp_ := Aside0.mk (Kd.C_below Hp.out hb)
      have nHq_ := Aside0.mk (Kd.C_below Hq.out hb)
      have nHB_ := Aside0.mk (below_step HB.out hb)
      clear KA KO KC KP KQ Hc Hp Hq HB
      have KA := nKA_; have KO := nKO_; have KC := nKC_; have KP := nKP_; have KQ := nKQ_; have Hc := nHc_; have Hp := nHp_; have Hq := nHq_; have HB := nHB_
      clear nKA_ nKO_ nKC_ nKP_ nKQ_ nHc_ nHp_ nHq_ nHB_
      clear hb
      have KS := Aside0.mk hSb; have HS := Aside0.mk hSc; clear hSb hSc
      obtain ⟨adc, Ac, cc, ec, q0c, q1c, hmc, hCc⟩ := at_T24 Hc.out (j : Int) (by omega) (by first | omega | (rw [RC.out.1]; omega))
      subst ec
      simp only [Int.toNat_natCast] at q0c q1c
      obtain ⟨r0c, rIc⟩ := RowsAre.row RC.out hlt
      obtain ⟨sc, hsc⟩ : ∃ s, rd_T24 cr (j : Int) = s := ⟨_, rfl⟩
      rw [hsc] at q0c q1c hmc hCc r0c rIc
      obtain ⟨fc, wsc⟩ := sc
      simp only at q0c q1c hmc hCc r0c rIc
      subst r0c
      obtain ⟨adq, Aq, cq, eq, q0q, q1q, hmq, hCq⟩ := at_T24 Hq.out (j : Int) (by omega) (by first | omega | (rw [RQ.out.1]; omega))
      subst eq
      simp only [Int.toNat_natCast] at q0q q1q
      obtain ⟨r0q, rIq⟩ := RowsAre.row RQ.out hlt
      obtain ⟨sq, hsq⟩ : ∃ s, rd_T24 qr (j : Int) = s := ⟨_, rfl⟩
      rw [hsq] at q0q q1q hmq hCq r0q rIq
      obtain ⟨fq, wsq⟩ := sq
      simp only at q0q q1q hmq hCq r0q rIq
      subst r0q
      have Hcc := Aside0.mk hCc; have Hqq := Aside0.mk hCq; clear hCc hCq
      obtain ⟨ks, hS0⟩ := same_row HN.out hw rIc (fun e _ => way_more.symm)
      have HSame := Aside0.mk (hS0 ks (Nat.le_refl _)); dsimp only at HSame; clear hS0
      obtain ⟨kv, hV0⟩ := subset_rows HN.out rIq rIc (fun e he h => by
        unfold prodP at h
        rw [List.any_eq_true] at h
        obtain ⟨z, hz, h⟩ := h
        rw [Bool.and_eq_true] at h
        exact way_trans (List.mem_range.1 hz) h.1 h.2)
      have HSub := Aside0.mk (hV0 kv (Nat.le_refl _)); dsimp only at HSub; clear hV0
      have hjc : j < cr.length := by rw [RC.out.1]; exact hlt
      have hjq : j < qr.length := by rw [RQ.out.1]; exact hlt
      gi_wp2_with fail
      have nKA_ := Aside0.mk (blk_drew KA.out)
      have nKO_ := Aside0.mk (blk_drew KO.out)
      have nKC_ := Aside0.mk (blk_drew KC.out)
      have nKP_ := Aside0.mk (blk_drew KP.out)
      have nKQ_ := Aside0.mk (blk_drew KQ.out)
      have nHc_ := Aside0.mk (Kd.C_drew Hc.out)
      have nHp_ := Aside0.mk (Kd.C_drew Hp.out)
      have nHq_ := Aside0.mk (Kd.C_drew Hq.out)
      have nHB_ := Aside0.mk (below_drew1 HB.out)
      have nKS_ := Aside0.mk (blk_drew KS.out)
      have nHS_ := Aside0.mk (Kd.C_drew HS.out)
      have nHcc_ := Aside0.mk (Kd.C_drew Hcc.out)
      have nHqq_ := Aside0.mk (Kd.C_drew Hqq.out)
      clear KA KO KC KP KQ Hc Hp Hq HB KS HS Hcc Hqq
      have KA := nKA_; have KO := nKO_; have KC := nKC_; have KP := nKP_; have KQ := nKQ_; have Hc := nHc_; have Hp := nHp_; have Hq := nHq_; have HB := nHB_; have KS := nKS_; have HS := nHS_; have Hcc := nHcc_; have Hqq := nHqq_
      clear nKA_ nKO_ nKC_ nKP_ nKQ_ nHc_ nHp_ nHq_ nHB_ nKS_ nHS_ nHcc_ nHqq_
      refine wpIn_wide.2 ?_
      refine start_ (n := 27) (S := fun w' => w'.cell? ⟨g, 0, none⟩ = some (.int .i64 l0.length) ∧ w'.cell? ⟨g, 1, none⟩ = some (.slice As ws.length cs_) ∧ w'.cell? ⟨w2.heap.size, 1, none⟩ = some (.slice (some adc) cr.length cHc) ∧ w'.cell? (adc.add (j * 2)) = some (.int .i64 l0.length) ∧ w'.cell? ⟨(adc.add (j * 2)).block, (adc.add (j * 2)).off + 1, none⟩ = some (.slice Ac wsc.length cc) ∧ w'.cell? ⟨w5.heap.size, 1, none⟩ = some (.slice (some adq) qr.length cHq) ∧ w'.cell? (adq.add (j * 2)) = some (.int .i64 l0.length) ∧ w'.cell? ⟨(adq.add (j * 2)).block, (adq.add (j * 2)).off + 1, none⟩ = some (.slice Aq wsq.length cq)) (ds := []) #[false, false, false, false, false, false, false, false, false, false, false, false, false, false, false, false, false, false, false, false, false, false, false, false, false, false, false] (by kernel_rfl) (by kernel_rfl) rfl ⟨(blk_cell KS.out 0).trans rfl, (blk_cell KS.out 1).trans rfl, (blk_cell KC.out 1).trans rfl, q0c, q1c, (blk_cell KQ.out 1).trans rfl, q0q, q1q⟩ (fun hHeld => ?_)
      clear q0c q1c q0q q1q
      generalize X.drew = W5 at KA KO KC KP KQ Hc Hp Hq HB KS HS Hcc Hqq hHeld ⊢
      refine pure_ (i := 0) (N := some 114) (v := ?_) (a' := ?_) #[true, false, false, false, false, false, false, false, false, false, false, false, false, false, false, false, false, false, false, false, false, false, false, false, false, false, false] rfl rfl (by kernel_rfl) (fun _ _ _ h => h) (Or.inl ⟨by rfl, ?_⟩) ?_ ?_
      rotate_left
      · intro w'
        go_simp
        with_reducible rfl
      rotate_left
      · simp only [Act.put, List.setIfInBounds_toArray, List.set_cons_zero, List.set_cons_succ, i64_w, i32_w]
        rfl
      refine one_ (i := 1) (N := some 115) #[true, true, false, false, false, false, false, false, false, false, false, false, false, false, false, false, false, false, false, false, false, false, false, false, false, false, false] rfl rfl (by kernel_rfl) (by decide) (fun K hK => ?_)
      refine goes_ Tryd.func21 (by kernel_rfl) rfl #[.int .i64 0] (by rfl) rfl rfl (by (try simp only [List.map_toArray, List.map_cons, List.map_nil]); first | done | rfl) ?_
      refine (slopelaw3_num.calls 0 0 _ rfl).mono ?_
      rintro e W6 ⟨rfl, hd⟩
      refine ⟨_, rfl, ?_⟩
      have hb := hd.below; clear hd
      have nKA_ := Aside0.mk (blk_below KA.out hb)
      have nKO_ := Aside0.mk (blk_below KO.out hb)
      have nKC_ := Aside0.mk (blk_below KC.out hb)
      have nKP_ := Aside0.mk (blk_below KP.out hb)
      have nKQ_ := Aside0.mk (blk_below KQ.out hb)
      have nHc_ := Aside0.mk (Kd.C_below Hc.out hb)
      have nHp_ := Aside0.mk (Kd.C_below Hp.out hb)
      have nHq_ := Aside0.mk (Kd.C_below Hq.out hb)
      have nHB_ := Aside0.mk (below_step HB.out hb)
      have nKS_ := Aside0.mk (blk_below KS.out hb)
      have nHS_ := Aside0.mk (Kd.C_below HS.out hb)
      have nHcc_ := Aside0.mk (Kd.C_below Hcc.out hb)
      have nHqq_ := Aside0.mk (Kd.C_below Hqq.out hb)
      clear KA KO KC KP KQ Hc Hp Hq HB KS HS Hcc Hqq
      have KA := nKA_; have KO := nKO_; have KC := nKC_; have KP := nKP_; have KQ := nKQ_; have Hc := nHc_; have Hp := nHp_; have Hq := nHq_; have HB := nHB_; have KS := nKS_; have HS := nHS_; have Hcc := nHcc_; have Hqq := nHqq_
      clear nKA_ nKO_ nKC_ nKP_ nKQ_ nHc_ nHp_ nHq_ nHB_ nKS_ nHS_ nHcc_ nHqq_
      refine hK.out _ _ ⟨(hb.cell (World.block_lt_of_cell? _ _ hHeld.1)).trans hHeld.1, (hb.cell (World.block_lt_of_cell? _ _ hHeld.2.1)).trans hHeld.2.1, (hb.cell (World.block_lt_of_cell? _ _ hHeld.2.2.1)).trans hHeld.2.2.1, (hb.cell (World.block_lt_of_cell? _ _ hHeld.2.2.2.1)).trans hHeld.2.2.2.1, (hb.cell (World.block_lt_of_cell? _ _ hHeld.2.2.2.2.1)).trans hHeld.2.2.2.2.1, (hb.cell (World.block_lt_of_cell? _ _ hHeld.2.2.2.2.2.1)).trans hHeld.2.2.2.2.2.1, (hb.cell (World.block_lt_of_cell? _ _ hHeld.2.2.2.2.2.2.1)).trans hHeld.2.2.2.2.2.2.1, (hb.cell (World.block_lt_of_cell? _ _ hHeld.2.2.2.2.2.2.2)).trans hHeld.2.2.2.2.2.2.2⟩ (fun hHeld => ?_)
      clear hK K hb
      refine norm_ (a' := ?_) ?_ ?_
      rotate_left
      · show Act.put _ (some 115) _ = _
        simp only [Act.put, List.setIfInBounds_toArray, List.set_cons_zero, List.set_cons_succ, i64_w, i32_w]
        rfl
      refine pure_ (i := 2) (N := some 116) (v := ?_) (a' := ?_) #[true, true, true, false, false, false, false, false, false, false, false, false, false, false, false, false, false, false, false, false, false, false, false, false, false, false, false] rfl rfl (by kernel_rfl) (fun _ _ _ h => h) (Or.inl ⟨by rfl, ?_⟩) ?_ ?_
      rotate_left
      · intro w'
        go_simp
        with_reducible rfl
      rotate_left
      · simp only [Act.put, List.setIfInBounds_toArray, List.set_cons_zero, List.set_cons_succ, i64_w, i32_w]
        rfl
      refine pure_ (i := 3) (N := some 117) (v := ?_) (a' := ?_) #[true, true, true, true, false, false, false, false, false, false, false, false, false, false, false, false, false, false, false, false, false, false, false, false, false, false, false] rfl rfl (by kernel_rfl) (fun _ _ _ h => h) (Or.inl ⟨by rfl, ?_⟩) ?_ ?_
      rotate_left
      · intro w'
        go_simp
        with_reducible rfl
      rotate_left
      · simp only [Act.put, List.setIfInBounds_toArray, List.set_cons_zero, List.set_cons_succ, i64_w, i32_w]
        rfl
      refine pure_ (i := 5) (N := some 119) (v := ?_) (a' := ?_) #[true, true, true, true, false, true, false, false, false, false, false, false, false, false, false, false, false, false, false, false, false, false, false, false, false, false, false] rfl rfl (by kernel_rfl) (fun _ _ _ h => h) (Or.inl ⟨by rfl, ?_⟩) ?_ ?_
      rotate_left
      · intro w'
        go_simp
        with_reducible rfl
      rotate_left
      · simp only [Act.put, List.setIfInBounds_toArray, List.set_cons_zero, List.set_cons_succ, i64_w, i32_w]
        rfl
      refine pure_ (i := 7) (N := some 121) (v := ?_) (a' := ?_) #[true, true, true, true, false, true, false, true, false, false, false, false, false, false, false, false, false, false, false, false, false, false, false, false, false, false, false] rfl rfl (by kernel_rfl) (fun _ _ _ h => h) (Or.inl ⟨by rfl, ?_⟩) ?_ ?_
      rotate_left
      · intro w'
        go_simp
        with_reducible rfl
      rotate_left
      · simp only [Act.put, List.setIfInBounds_toArray, List.set_cons_zero, List.set_cons_succ, i64_w, i32_w]
        rfl
      refine take_ (i := 4) (N := some 118) (v := ?_) (a' := ?_) #[true, true, true, true, true, true, false, true, false, false, false, false, false, false, false, false, false, false, false, false, false, false, false, false, false, false, false] rfl rfl (by kernel_rfl) (fun _ _ _ h => h) (Or.inl ⟨by rfl, ?_⟩) hHeld ?_ ?_
      rotate_left
      · rintro w' ⟨s0, s1, s2, s3, s4, s5, s6, s7⟩
        go_simp
        with_reducible rfl
      rotate_left
      · simp only [Act.put, List.setIfInBounds_toArray, List.set_cons_zero, List.set_cons_succ, i64_w, i32_w]
        rfl
      refine take_ (i := 6) (N := some 120) (v := ?_) (a' := ?_) #[true, true, true, true, true, true, true, true, false, false, false, false, false, false, false, false, false, false, false, false, false, false, false, false, false, false, false] rfl rfl (by kernel_rfl) (fun _ _ _ h => h) (Or.inl ⟨by rfl, ?_⟩) hHeld ?_ ?_
      rotate_left
      · rintro w' ⟨s0, s1, s2, s3, s4, s5, s6, s7⟩
        go_simp
        with_reducible rfl
      rotate_left
      · simp only [Act.put, List.setIfInBounds_toArray, List.set_cons_zero, List.set_cons_succ, i64_w, i32_w]
        rfl
      refine pure_ (i := 8) (N := some 122) (v := ?_) (a' := ?_) #[true, true, true, true, true, true, true, true, true, false, false, false, false, false, false, false, false, false, false, false, false, false, false, false, false, false, false] rfl rfl (by kernel_rfl) (fun _ _ _ h => h) (Or.inl ⟨by rfl, ?_⟩) ?_ ?_
      rotate_left
      · intro w'
        go_simp
        with_reducible rfl
      rotate_left
      · simp only [Act.put, List.setIfInBounds_toArray, List.set_cons_zero, List.set_cons_succ, i64_w, i32_w]
        rfl
      refine take_ (i := 9) (N := some 123) (v := ?_) (a' := ?_) #[true, true, true, true, true, true, true, true, true, true, false, false, false, false, false, false, false, false, false, false, false, false, false, false, false, false, false] rfl rfl (by kernel_rfl) (fun _ _ _ h => h) (Or.inl ⟨by rfl, ?_⟩) hHeld ?_ ?_
      rotate_left
      · rintro w' ⟨s0, s1, s2, s3, s4, s5, s6, s7⟩
        go_simp
        with_reducible rfl
      rotate_left
      · simp only [Act.put, List.setIfInBounds_toArray, List.set_cons_zero, List.set_cons_succ, i64_w, i32_w]
        rfl
      refine one_ (i := 10) (N := some 124) #[true, true, true, true, true, true, true, true, true, true, true, false, false, false, false, false, false, false, false, false, false, false, false, false, false, false, false] rfl rfl (by kernel_rfl) (by decide) (fun K hK => ?_)
      refine goes_ Tryd.func20 (by kernel_rfl) rfl #[.agg #[.int .i64 l0.length, .slice As ws.length cs_], .agg #[.int .i64 l0.length, .slice Ac wsc.length cc]] (by rfl) rfl rfl (by (try simp only [List.map_toArray, List.map_cons, List.map_nil]); first | done | rfl) ?_
      refine (slopelaw3_same.calls ks l0.length _ _ ws l0.length _ _ wsc true _ HS.out hSl Hcc.out hmc HSame.out).mono ?_
      rintro e W7 ⟨rfl, hb⟩
      refine ⟨_, rfl, ?_⟩
      have nKA_ := Aside0.mk (blk_below KA.out hb)
      have nKO_ := Aside0.mk (blk_below KO.out hb)
      have nKC_ := Aside0.mk (blk_below KC.out hb)
      have nKP_ := Aside0.mk (blk_below KP.out hb)
      have nKQ_ := Aside0.mk (blk_below KQ.out hb)
      have nHc_ := Aside0.mk (Kd.C_below Hc.out hb)
      have nHp_ := Aside0.mk (Kd.C_below Hp.out hb)
      have nHq_ := Aside0.mk (Kd.C_below Hq.out hb)
      have nHB_ := Aside0.mk (below_step HB.out hb)
      have nKS_ := Aside0.mk (blk_below KS.out hb)
      have nHS_ := Aside0.mk (Kd.C_below HS.out hb)
      have nHcc_ := Aside0.mk (Kd.C_below Hcc.out hb)
      have nHqq_ := Aside0.mk (Kd.C_below Hqq.out hb)
      clear KA KO KC KP KQ Hc Hp Hq HB KS HS Hcc Hqq
      have KA := nKA_; have KO := nKO_; have KC := nKC_; have KP := nKP_; have KQ := nKQ_; have Hc := nHc_; have Hp := nHp_; have Hq := nHq_; have HB := nHB_; have KS := nKS_; have HS := nHS_; have Hcc := nHcc_; have Hqq := nHqq_
      clear nKA_ nKO_ nKC_ nKP_ nKQ_ nHc_ nHp_ nHq_ nHB_ nKS_ nHS_ nHcc_ nHqq_
      refine hK.out _ _ ⟨(hb.cell (World.block_lt_of_cell? _ _ hHeld.1)).trans hHeld.1, (hb.cell (World.block_lt_of_cell? _ _ hHeld.2.1)).trans hHeld.2.1, (hb.cell (World.block_lt_of_cell? _ _ hHeld.2.2.1)).trans hHeld.2.2.1, (hb.cell (World.block_lt_of_cell? _ _ hHeld.2.2.2.1)).trans hHeld.2.2.2.1, (hb.cell (World.block_lt_of_cell? _ _ hHeld.2.2.2.2.1)).trans hHeld.2.2.2.2.1, (hb.cell (World.block_lt_of_cell? _ _ hHeld.2.2.2.2.2.1)).trans hHeld.2.2.2.2.2.1, (hb.cell (World.block_lt_of_cell? _ _ hHeld.2.2.2.2.2.2.1)).trans hHeld.2.2.2.2.2.2.1, (hb.cell (World.block_lt_of_cell? _ _ hHeld.2.2.2.2.2.2.2)).trans hHeld.2.2.2.2.2.2.2⟩ (fun hHeld => ?_)
      clear hK K hb
      refine norm_ (a' := ?_) ?_ ?_
      rotate_left
      · show Act.put _ (some 124) _ = _
        simp only [Act.put, List.setIfInBounds_toArray, List.set_cons_zero, List.set_cons_succ, i64_w, i32_w]
        rfl
      refine pure_ (i := 11) (N := some 125) (v := ?_) (a' := ?_) #[true, true, true, true, true, true, true, true, true, true, true, true, false, false, false, false, false, false, false, false, false, false, false, false, false, false, false] rfl rfl (by kernel_rfl) (fun _ _ _ h => h) (Or.inl ⟨by rfl, ?_⟩) ?_ ?_
      rotate_left
      · intro w'
        go_simp
        with_reducible rfl
      rotate_left
      · simp only [Act.put, List.setIfInBounds_toArray, List.set_cons_zero, List.set_cons_succ, i64_w, i32_w]
        rfl
      refine pure_ (i := 12) (N := some 126) (v := ?_) (a' := ?_) #[true, true, true, true, true, true, true, true, true, true, true, true, true, false, false, false, false, false, false, false, false, false, false, false, false, false, false] rfl rfl (by kernel_rfl) (fun _ _ _ h => h) (Or.inl ⟨by rfl, ?_⟩) ?_ ?_
      rotate_left
      · intro w'
        go_simp
        with_reducible rfl
      rotate_left
      · simp only [Act.put, List.setIfInBounds_toArray, List.set_cons_zero, List.set_cons_succ, i64_w, i32_w]
        rfl
      refine pure_ (i := 13) (N := some 127) (v := ?_) (a' := ?_) #[true, true, true, true, true, true, true, true, true, true, true, true, true, true, false, false, false, false, false, false, false, false, false, false, false, false, false] rfl rfl (by kernel_rfl) (fun _ _ _ h => h) (Or.inl ⟨by rfl, ?_⟩) ?_ ?_
      rotate_left
      · intro w'
        go_simp
        with_reducible rfl
      rotate_left
      · simp only [Act.put, List.setIfInBounds_toArray, List.set_cons_zero, List.set_cons_succ, i64_w, i32_w]
        rfl
      refine pure_ (i := 14) (N := some 128) (v := ?_) (a' := ?_) #[true, true, true, true, true, true, true, true, true, true, true, true, true, true, true, false, false, false, false, false, false, false, false, false, false, false, false] rfl rfl (by kernel_rfl) (fun _ _ _ h => h) (Or.inl ⟨by rfl, ?_⟩) ?_ ?_
      rotate_left
      · intro w'
        go_simp
        with_reducible rfl
      rotate_left
      · simp only [Act.put, List.setIfInBounds_toArray, List.set_cons_zero, List.set_cons_succ, i64_w, i32_w]
        rfl
      refine pure_ (i := 16) (N := some 130) (v := ?_) (a' := ?_) #[true, true, true, true, true, true, true, true, true, true, true, true, true, true, true, false, true, false, false, false, false, false, false, false, false, false, false] rfl rfl (by kernel_rfl) (fun _ _ _ h => h) (Or.inl ⟨by rfl, ?_⟩) ?_ ?_
      rotate_left
      · intro w'
        go_simp
        with_reducible rfl
      rotate_left
      · simp only [Act.put, List.setIfInBounds_toArray, List.set_cons_zero, List.set_cons_succ, i64_w, i32_w]
        rfl
      refine pure_ (i := 19) (N := some 133) (v := ?_) (a' := ?_) #[true, true, true, true, true, true, true, true, true, true, true, true, true, true, true, false, true, false, false, true, false, false, false, false, false, false, false] rfl rfl (by kernel_rfl) (fun _ _ _ h => h) (Or.inl ⟨by rfl, ?_⟩) ?_ ?_
      rotate_left
      · intro w'
        go_simp
        with_reducible rfl
      rotate_left
      · simp only [Act.put, List.setIfInBounds_toArray, List.set_cons_zero, List.set_cons_succ, i64_w, i32_w]
        rfl
      refine pure_ (i := 21) (N := some 135) (v := ?_) (a' := ?_) #[true, true, true, true, true, true, true, true, true, true, true, true, true, true, true, false, true, false, false, true, false, true, false, false, false, false, false] rfl rfl (by kernel_rfl) (fun _ _ _ h => h) (Or.inl ⟨by rfl, ?_⟩) ?_ ?_
      rotate_left
      · intro w'
        go_simp
        with_reducible rfl
      rotate_left
      · simp only [Act.put, List.setIfInBounds_toArray, List.set_cons_zero, List.set_cons_succ, i64_w, i32_w]
        rfl
      refine take_ (i := 15) (N := some 129) (v := ?_) (a' := ?_) #[true, true, true, true, true, true, true, true, true, true, true, true, true, true, true, true, true, false, false, true, false, true, false, false, false, false, false] rfl rfl (by kernel_rfl) (fun _ _ _ h => h) (Or.inl ⟨by rfl, ?_⟩) hHeld ?_ ?_
      rotate_left
      · rintro w' ⟨s0, s1, s2, s3, s4, s5, s6, s7⟩
        go_simp
        with_reducible rfl
      rotate_left
      · simp only [Act.put, List.setIfInBounds_toArray, List.set_cons_zero, List.set_cons_succ, i64_w, i32_w]
        rfl
      refine pure_ (i := 17) (N := some 131) (v := ?_) (a' := ?_) #[true, true, true, true, true, true, true, true, true, true, true, true, true, true, true, true, true, true, false, true, false, true, false, false, false, false, false] rfl rfl (by kernel_rfl) (fun _ _ _ h => h) (Or.inl ⟨by rfl, ?_⟩) ?_ ?_
      rotate_left
      · intro w'
        go_simp
        with_reducible rfl
      rotate_left
      · simp only [Act.put, List.setIfInBounds_toArray, List.set_cons_zero, List.set_cons_succ, i64_w, i32_w]
        rfl
      refine take_ (i := 18) (N := some 132) (v := ?_) (a' := ?_) #[true, true, true, true, true, true, true, true, true, true, true, true, true, true, true, true, true, true, true, true, false, true, false, false, false, false, false] rfl rfl (by kernel_rfl) (fun _ _ _ h => h) (Or.inl ⟨by rfl, ?_⟩) hHeld ?_ ?_
      rotate_left
      · rintro w' ⟨s0, s1, s2, s3, s4, s5, s6, s7⟩
        go_simp
        with_reducible rfl
      rotate_left
      · simp only [Act.put, List.setIfInBounds_toArray, List.set_cons_zero, List.set_cons_succ, i64_w, i32_w]
        rfl
      refine take_ (i := 20) (N := some 134) (v := ?_) (a' := ?_) #[true, true, true, true, true, true, true, true, true, true, true, true, true, true, true, true, true, true, true, true, true, true, false, false, false, false, false] rfl rfl (by kernel_rfl) (fun _ _ _ h => h) (Or.inl ⟨by rfl, ?_⟩) hHeld ?_ ?_
      rotate_left
      · rintro w' ⟨s0, s1, s2, s3, s4, s5, s6, s7⟩
        go_simp
        with_reducible rfl
      rotate_left
      · simp only [Act.put, List.setIfInBounds_toArray, List.set_cons_zero, List.set_cons_succ, i64_w, i32_w]
        rfl
      refine pure_ (i := 22) (N := some 136) (v := ?_) (a' := ?_) #[true, true, true, true, true, true, true, true, true, true, true, true, true, true, true, true, true, true, true, true, true, true, true, false, false, false, false] rfl rfl (by kernel_rfl) (fun _ _ _ h => h) (Or.inl ⟨by rfl, ?_⟩) ?_ ?_
      rotate_left
      · intro w'
        go_simp
        with_reducible rfl
      rotate_left
      · simp only [Act.put, List.setIfInBounds_toArray, List.set_cons_zero, List.set_cons_succ, i64_w, i32_w]
        rfl
      refine take_ (i := 23) (N := some 137) (v := ?_) (a' := ?_) #[true, true, true, true, true, true, true, true, true, true, true, true, true, true, true, true, true, true, true, true, true, true, true, true, false, false, false] rfl rfl (by kernel_rfl) (fun _ _ _ h => h) (Or.inl ⟨by rfl, ?_⟩) hHeld ?_ ?_
      rotate_left
      · rintro w' ⟨s0, s1, s2, s3, s4, s5, s6, s7⟩
        go_simp
        with_reducible rfl
      rotate_left
      · simp only [Act.put, List.setIfInBounds_toArray, List.set_cons_zero, List.set_cons_succ, i64_w, i32_w]
        rfl
      refine one_ (i := 24) (N := some 138) #[true, true, true, true, true, true, true, true, true, true, true, true, true, true, true, true, true, true, true, true, true, true, true, true, true, false, false] rfl rfl (by kernel_rfl) (by decide) (fun K hK => ?_)
      refine goes_ Tryd.func59 (by kernel_rfl) rfl #[.agg #[.int .i64 l0.length, .slice Aq wsq.length cq], .agg #[.int .i64 l0.length, .slice Ac wsc.length cc]] (by rfl) rfl rfl (by (try simp only [List.map_toArray, List.map_cons, List.map_nil]); first | done | rfl) ?_
      refine (bitset_Subset.calls kv l0.length _ _ wsq l0.length _ _ wsc true _ Hqq.out hmq Hcc.out hmc HSub.out).mono ?_
      rintro e W8 ⟨rfl, hb⟩
      refine ⟨_, rfl, ?_⟩
      have nKA_ := Aside0.mk (blk_below KA.out hb)
      have nKO_ := Aside0.mk (blk_below KO.out hb)
      have nKC_ := Aside0.mk (blk_below KC.out hb)
      have nKP_ := Aside0.mk (blk_below KP.out hb)
      have nKQ_ := Aside0.mk (blk_below KQ.out hb)
      have nHc_ := Aside0.mk (Kd.C_below Hc.out hb)
      have nHp_ := Aside0.mk (Kd.C_below Hp.out hb)
      have nHq_ := Aside0.mk (Kd.C_below Hq.out hb)
      have nHB_ := Aside0.mk (below_step HB.out hb)
      have nKS_ := Aside0.mk (blk_below KS.out hb)
      have nHS_ := Aside0.mk (Kd.C_below HS.out hb)
      have nHcc_ := Aside0.mk (Kd.C_below Hcc.out hb)
      have nHqq_ := Aside0.mk (Kd.C_below Hqq.out hb)
      clear KA KO KC KP KQ Hc Hp Hq HB KS HS Hcc Hqq
      have KA := nKA_; have KO := nKO_; have KC := nKC_; have KP := nKP_; have KQ := nKQ_; have Hc := nHc_; have Hp := nHp_; have Hq := nHq_; have HB := nHB_; have KS := nKS_; have HS := nHS_; have Hcc := nHcc_; have Hqq := nHqq_
      clear nKA_ nKO_ nKC_ nKP_ nKQ_ nHc_ nHp_ nHq_ nHB_ nKS_ nHS_ nHcc_ nHqq_
      refine hK.out _ _ ⟨(hb.cell (World.block_lt_of_cell? _ _ hHeld.1)).trans hHeld.1, (hb.cell (World.block_lt_of_cell? _ _ hHeld.2.1)).trans hHeld.2.1, (hb.cell (World.block_lt_of_cell? _ _ hHeld.2.2.1)).trans hHeld.2.2.1, (hb.cell (World.block_lt_of_cell? _ _ hHeld.2.2.2.1)).trans hHeld.2.2.2.1, (hb.cell (World.block_lt_of_cell? _ _ hHeld.2.2.2.2.1)).trans hHeld.2.2.2.2.1, (hb.cell (World.block_lt_of_cell? _ _ hHeld.2.2.2.2.2.1)).trans hHeld.2.2.2.2.2.1, (hb.cell (World.block_lt_of_cell? _ _ hHeld.2.2.2.2.2.2.1)).trans hHeld.2.2.2.2.2.2.1, (hb.cell (World.block_lt_of_cell? _ _ hHeld.2.2.2.2.2.2.2)).trans hHeld.2.2.2.2.2.2.2⟩ (fun hHeld => ?_)
      clear hK K hb
      refine norm_ (a' := ?_) ?_ ?_
      rotate_left
      · show Act.put _ (some 138) _ = _
        simp only [Act.put, List.setIfInBounds_toArray, List.set_cons_zero, List.set_cons_succ, i64_w, i32_w]
        rfl
      refine pure_ (i := 25) (N := some 139) (v := ?_) (a' := ?_) #[true, true, true, true, true, true, true, true, true, true, true, true, true, true, true, true, true, true, true, true, true, true, true, true, true, true, false] rfl rfl (by kernel_rfl) (fun _ _ _ h => h) (Or.inl ⟨by rfl, ?_⟩) ?_ ?_
      rotate_left
      · intro w'
        go_simp
        with_reducible rfl
      rotate_left
      · simp only [Act.put, List.setIfInBounds_toArray, List.set_cons_zero, List.set_cons_succ, i64_w, i32_w]
        rfl
      refine pure_ (i := 26) (N := some 140) (v := ?_) (a' := ?_) #[true, true, true, true, true, true, true, true, true, true, true, true, true, true, true, true, true, true, true, true, true, true, true, true, true, true, true] rfl rfl (by kernel_rfl) (fun _ _ _ h => h) (Or.inl ⟨by rfl, ?_⟩) ?_ ?_
      rotate_left
      · intro w'
        go_simp
        with_reducible rfl
      rotate_left
      · simp only [Act.put, List.setIfInBounds_toArray, List.set_cons_zero, List.set_cons_succ, i64_w, i32_w]
        rfl
      refine done_ (by kernel_rfl) ?_
      gi_wp2_with fail
      rw [show ((j : Int) + 1) = ((j + 1 : Nat) : Int) from by omega]
      refine ⟨⟨j + 1, _, _, _, _, _, _, _, _, _, _, _, _, _, _, _, _, _, _, _, _, _, _, _, _, _, _, _, _, _, _, _, _, _, _, _, _, _, _, _, _, _, _, _, _, _, _, _, _, _, _, _, _, rfl, ⟨hlt⟩, KA, KO, KC, KP, KQ, Hc, Hp, Hq, HB⟩, ?_⟩
      show l0.length - (intOf (.int .i64 ((j + 1 : Nat) : Int))).toNat < l0.length - (intOf (.int .i64 (j : Int))).toNat
      simp only [intOf, Int.toNat_natCast]
      omega
    · skip
      have hje : j = l0.length := by have := hj.out; omega
      subst hje
      have hd : decide (l0.length < l0.length) = false := by simp
      have qKA0 := (blk_cell KA.out 0).trans rfl; have qKA1 := (blk_cell KA.out 1).trans rfl
      have qKO0 := (blk_cell KO.out 0).trans rfl; have qKO1 := (blk_cell KO.out 1).trans rfl
      gi_wp2_with fail
      refine ⟨trivial, ?_⟩; gi_at_call 43
      refine (callsIn_wide.2 (sloperef3_MayTable.calls k7 m _ _ lb _ _ (Kd.C_below HO.out HB.out) hc1 H7.out)).mono ?_
      rintro e w12 ⟨rfl, hb⟩
      clear qKA0 qKA1 qKO0 qKO1
      clear hd
      have nKA_ := Aside0.mk (blk_below KA.out hb)
      have nKO_ := Aside0.mk (blk_below KO.out hb)
      have nKC_ := Aside0.mk (blk_below KC.out hb)
      have nKP_ := Aside0.mk (blk_below KP.out hb)
      have nKQ_ := Aside0.mk (blk_below KQ.out hb)
      have nHc_ := Aside0.mk (Kd.C_below Hc.out hb)
      have nHp_ := Aside0.mk (Kd.C_below Hp.out hb)
      have nHq_ := Aside0.mk (Kd.C_below Hq.out hb)
      have nHB_ := Aside0.mk (below_step HB.out hb)
      clear KA KO KC KP KQ Hc Hp Hq HB
      have KA := nKA_; have KO := nKO_; have KC := nKC_; have KP := nKP_; have KQ := nKQ_; have Hc := nHc_; have Hp := nHp_; have Hq := nHq_; have HB := nHB_
      clear nKA_ nKO_ nKC_ nKP_ nKQ_ nHc_ nHp_ nHq_ nHB_
      clear hb
      have qKA0 := (blk_cell KA.out 0).trans rfl; have qKA1 := (blk_cell KA.out 1).trans rfl
      have qKO0 := (blk_cell KO.out 0).trans rfl; have qKO1 := (blk_cell KO.out 1).trans rfl
      cases bm with
      | false =>
        obtain ⟨kc, hc0_⟩ := chain_ev x2 x3
        have HCH := Aside0.mk (hc0_ kc (Nat.le_refl _)); dsimp only at HCH; clear hc0_
        gi_wp2_with fail
        refine ⟨trivial, ?_⟩; gi_at_call 60
        refine (callsIn_wide.2 (slopelaw3_chain.calls kc x2 x3 true _ HCH.out)).mono ?_
        rintro e wf ⟨rfl, hb⟩
        have hBf := below_step HB.out hb
        gi_wp2_with fail
        refine bodyPost_ret (v := .bool true) ?_ rfl ⟨rfl, hBf⟩
        simp [results, Tryd.f10, go_sem]
      | true =>
        by_cases hmn : m = (l0.length : Int)
        · skip
          have hd : (m == (l0.length : Int)) = true := beq_iff_eq.2 hmn
          by_cases hln : lb.length = l0.length
          · skip
            have hd2 : ((lb.length : Int) == (l0.length : Int)) = true := beq_iff_eq.2 (by rw [hln])
            have RO := Aside0.mk (HO2.out rfl hmn hln)
            have HLN := Aside0.mk hln; have HMN := Aside0.mk hmn; clear hln hmn
            gi_wp2_with fail
            clear qKA0 qKA1 qKO0 qKO1
            clear hd hd2
            refine wpIn_loop (fun a W => ∃ (j : Nat) (acc : List S24) (vL v22 v23 v158 v159 v160 v161 v162 v163 v164 v165 v166 v167 v168 v169 v170 v171 v172 v173 v174 v175 v176 v177 v178 v179 v180 v181 v182 v183 v184 v185 v186 v187 : Value), a = { tmps := #[.agg #[.int .i64 l0.length, .slice A0 l0.length c0], .agg #[.int .i64 m, .slice B0 lb.length d0], .int .i64 x2, .int .i64 x3, .pointer (some ⟨w.heap.size, 0, none⟩), .pointer (some ⟨w.heap.size + 1, 0, none⟩), undef, undef, .bool false, .pointer (some ⟨w2.heap.size, 0, none⟩), .int .i64 0, .pointer (some ⟨w4.heap.size, 0, none⟩), .int .i64 0, .pointer (some ⟨w5.heap.size, 0, none⟩), .int .i64 0, .pointer (some ⟨w6.heap.size, 0, none⟩), .int .i64 0, .int .i64 l0.length, u18, u19, vL, .int .i64 j, v22, v23, undef, undef, undef, .bool true, .bool false, .tuple #[.agg #[.int .i64 l0.length, .slice AHc cr.length cHc], .int .i64 0], .agg #[.int .i64 l0.length, .slice A0 l0.length c0], .tuple #[.agg #[.int .i64 l0.length, .slice AHc cr.length cHc], .int .i64 0], .agg #[.int .i64 l0.length, .slice AHc cr.length cHc], .int .i64 0, .agg #[.int .i64 l0.length, .slice A0 l0.length c0], .bool true, .bool false, .bool false, .pointer (some ⟨w.heap.size, 0, none⟩), .int .i64 l0.length, .pointer (some ⟨w.heap.size, 1, none⟩), .slice A0 l0.length c0, .int .i64 l0.length, .bool false, .bool false, undef, undef, undef, .tuple #[.agg #[.int .i64 l0.length, .slice AHp pr.length cHp], .int .i64 0], .agg #[.int .i64 l0.length, .slice A0 l0.length c0], .agg #[.int .i64 l0.length, .slice AHc cr.length cHc], .tuple #[.agg #[.int .i64 l0.length, .slice AHp pr.length cHp], .int .i64 0], .agg #[.int .i64 l0.length, .slice AHp pr.length cHp], .int .i64 0, .tuple #[.agg #[.int .i64 l0.length, .slice AHq qr.length cHq], .int .i64 0], .agg #[.int .i64 l0.length, .slice AHc cr.length cHc], .agg #[.int .i64 l0.length, .slice AHc cr.length cHc], .tuple #[.agg #[.int .i64 l0.length, .slice AHq qr.length cHq], .int .i64 0], .agg #[.int .i64 l0.length, .slice AHq qr.length cHq], .int .i64 0, .tuple #[.agg #[.int .i64 l0.length, .slice AHd cr.length cHd], .int .i64 0], .agg #[.int .i64 l0.length, .slice AHc cr.length cHc], .tuple #[.agg #[.int .i64 l0.length, .slice AHd cr.length cHd], .int .i64 0], .agg #[.int .i64 l0.length, .slice AHd cr.length cHd], .int .i64 0, .int .i64 0, .int .i64 0, .int .i64 0, .int .i64 0, .int .i64 0, .int .i64 0, .int .i64 0, .int .i64 0, .int .i64 0, .int .i64 0, .int .i64 0, .bool false, .bool false, .agg #[.int .i64 l0.length, .slice AHc cr.length cHc], .agg #[.int .i64 l0.length, .slice AHd cr.length cHd], .bool true, .bool false, .bool false, .bool false, .pointer (some ⟨w2.heap.size, 1, none⟩), .slice AHc cr.length cHc, .int .i64 cr.length, .pointer (some ⟨w.heap.size, 0, none⟩), .int .i64 l0.length, .bool false, .bool false, .int .i64 l0.length, .pointer (some ⟨w.heap.size, 0, none⟩), .int .i64 l0.length, .bool false, u95, u96, u97, u98, u99, u100, u101, u102, u103, u104, u105, u106, u107, u108, u109, u110, u111, u112, u113, u114, u115, u116, u117, u118, u119, u120, u121, u122, u123, u124, u125, u126, u127, u128, u129, u130, u131, u132, u133, u134, u135, u136, u137, u138, u139, u140, .agg #[.int .i64 m, .slice B0 lb.length d0], .bool true, .bool true, .pointer (some ⟨w.heap.size + 1, 0, none⟩), .int .i64 m, .pointer (some ⟨w.heap.size, 0, none⟩), .int .i64 l0.length, .bool true, .bool true, .bool true, .pointer (some ⟨w.heap.size + 1, 1, none⟩), .slice B0 lb.length d0, .int .i64 lb.length, .pointer (some ⟨w.heap.size, 0, none⟩), .int .i64 l0.length, .bool true, .bool true, v158, v159, v160, v161, v162, v163, v164, v165, v166, v167, v168, v169, v170, v171, v172, v173, v174, v175, v176, v177, v178, v179, v180, v181, v182, v183, v184, v185, v186, v187, undef, undef, undef, undef, undef, undef, undef, undef, undef, undef, undef, undef, undef, undef, undef, undef, undef, undef, undef, undef, undef, undef, undef, undef, undef, undef, undef, undef, undef, undef, undef, undef], defers := [] } ∧ Aside0 (j ≤ l0.length) ∧ Aside0 (RowsAre j l0.length (fun x y => p x y || o x y) acc) ∧ Aside0 (Kd.N k24 24 W w12.heap.size (fun _ => True) vL acc) ∧ Aside0 (Below w12.heap.size w12 W))
              (fun a _ => l0.length - (intOf (a.tmps.getD 21 undef)).toNat) ?start2 ?round2
            case start2 =>
              exact ⟨0, [], .slice none 0 0, undef, undef, undef, undef, undef, undef, undef, undef, undef, undef, undef, undef, undef, undef, undef, undef, undef, undef, undef, undef, undef, undef, undef, undef, undef, undef, undef, undef, undef, undef, undef, undef, rfl, ⟨Nat.zero_le _⟩, ⟨⟨rfl, fun _ h => by cases h⟩⟩, ⟨Kd.N_nil _ _ _ _ _⟩, ⟨Below.refl _ _⟩⟩
            case round2 =>
              rintro a wr2 ⟨j, acc, vL, v22, v23, v158, v159, v160, v161, v162, v163, v164, v165, v166, v167, v168, v169, v170, v171, v172, v173, v174, v175, v176, v177, v178, v179, v180, v181, v182, v183, v184, v185, v186, v187, rfl, hj, hA, HL, HZ⟩
              by_cases hlt : j < l0.length
              · skip
                have hn4 : l0.length ≤ 4096 := HN.out
                obtain ⟨adt, At, ct, et, q0t, q1t, hmt, hCt⟩ := at_T24 (Kd.C_below (Kd.C_below HC.out HB.out) HZ.out) (j : Int) (by omega) (by first | omega | (rw [RT.out.1]; omega))
                subst et
                simp only [Int.toNat_natCast] at q0t q1t
                obtain ⟨r0t, rIt⟩ := RowsAre.row RT.out hlt
                obtain ⟨st, hst⟩ : ∃ s, rd_T24 l0 (j : Int) = s := ⟨_, rfl⟩
                rw [hst] at q0t q1t hmt hCt r0t rIt
                obtain ⟨ft, wst⟩ := st
                simp only at q0t q1t hmt hCt r0t rIt
                subst r0t
                obtain ⟨ado, Ao, co, eo, q0o, q1o, hmo, hCo⟩ := at_T24 (Kd.C_below (Kd.C_below HO.out HB.out) HZ.out) (j : Int) (by omega) (by first | omega | (rw [RO.out.1]; omega))
                subst eo
                simp only [Int.toNat_natCast] at q0o q1o
                obtain ⟨r0o, rIo⟩ := RowsAre.row RO.out hlt
                obtain ⟨so, hso⟩ : ∃ s, rd_T24 lb (j : Int) = s := ⟨_, rfl⟩
                rw [hso] at q0o q1o hmo hCo r0o rIo
                obtain ⟨fo, wso⟩ := so
                simp only at q0o q1o hmo hCo r0o rIo
                subst r0o
                obtain ⟨ws, hw, ku, hU0⟩ := union_rows HN.out (a := ⟨(l0.length : Int), wst⟩) (b := ⟨(l0.length : Int), wso⟩) rfl rfl rIt rIo
                have hU := Aside0.mk (hU0 ku (Nat.le_refl _)); dsimp only at hU; clear hU0
                have HFt := Aside0.mk (Kd.C_F (Kd.heap_int .u64) (Kd.C_drew hCt)); have HFo := Aside0.mk (Kd.C_F (Kd.heap_int .u64) (Kd.C_drew hCo)); clear hCt hCo
                have hd : decide (j < l0.length) = true := decide_eq_true hlt
                have hjp : j < lb.length := by rw [RO.out.1]; exact hlt
                have KA2 := Aside0.mk (blk_below KA.out HZ.out); have KO2 := Aside0.mk (blk_below KO.out HZ.out)
                have qKA20 := (blk_cell KA2.out 0).trans rfl; have qKA21 := (blk_cell KA2.out 1).trans rfl
                gi_wp2_with fail
                clear qKA20 qKA21
                have nHZ_ := Aside0.mk (below_drew1 HZ.out)
                have nHL_ := Aside0.mk (Kd.N_drew HL.out)
                clear HZ HL
                have HZ := nHZ_; have HL := nHL_
                clear nHZ_ nHL_
                refine wpIn_wide.2 ?_
                refine start_ (n := 20) (S := fun w' => w'.cell? ⟨w.heap.size, 0, none⟩ = some (.int .i64 l0.length) ∧ w'.cell? ⟨w.heap.size, 1, none⟩ = some (.slice (some adt) l0.length c0) ∧ w'.cell? ⟨w.heap.size + 1, 1, none⟩ = some (.slice (some ado) lb.length d0) ∧ w'.cell? (adt.add (j * 2)) = some (.int .i64 l0.length) ∧ w'.cell? ⟨(adt.add (j * 2)).block, (adt.add (j * 2)).off + 1, none⟩ = some (.slice At wst.length ct) ∧ w'.cell? (ado.add (j * 2)) = some (.int .i64 l0.length) ∧ w'.cell? ⟨(ado.add (j * 2)).block, (ado.add (j * 2)).off + 1, none⟩ = some (.slice Ao wso.length co)) (ds := []) #[false, false, false, false, false, false, false, false, false, false, false, false, false, false, false, false, false, false, false, false] (by kernel_rfl) (by kernel_rfl) rfl ⟨(blk_cell KA2.out 0).trans rfl, (blk_cell KA2.out 1).trans rfl, (blk_cell KO2.out 1).trans rfl, q0t, q1t, q0o, q1o⟩ (fun hHeld => ?_)
                clear q0t q1t q0o q1o KA2 KO2
                generalize wr2.drew = W4 at HZ HL HFt HFo hHeld ⊢
                have hH0 := hHeld
                refine pure_ (i := 0) (N := some 165) (v := ?_) (a' := ?_) #[true, false, false, false, false, false, false, false, false, false, false, false, false, false, false, false, false, false, false, false] rfl rfl (by kernel_rfl) (fun _ _ _ h => h) (Or.inl ⟨by rfl, ?_⟩) ?_ ?_
                rotate_left
                · intro w'
                  go_simp
                  with_reducible rfl
                rotate_left
                · simp only [Act.put, List.setIfInBounds_toArray, List.set_cons_zero, List.set_cons_succ, i64_w, i32_w]
                  rfl
                refine pure_ (i := 2) (N := some 167) (v := ?_) (a' := ?_) #[true, false, true, false, false, false, false, false, false, false, false, false, false, false, false, false, false, false, false, false] rfl rfl (by kernel_rfl) (fun _ _ _ h => h) (Or.inl ⟨by rfl, ?_⟩) ?_ ?_
                rotate_left
                · intro w'
                  go_simp
                  with_reducible rfl
                rotate_left
                · simp only [Act.put, List.setIfInBounds_toArray, List.set_cons_zero, List.set_cons_succ, i64_w, i32_w]
                  rfl
                refine pure_ (i := 4) (N := some 169) (v := ?_) (a' := ?_) #[true, false, true, false, true, false, false, false, false, false, false, false, false, false, false, false, false, false, false, false] rfl rfl (by kernel_rfl) (fun _ _ _ h => h) (Or.inl ⟨by rfl, ?_⟩) ?_ ?_
                rotate_left
                · intro w'
                  go_simp
                  with_reducible rfl
                rotate_left
                · simp only [Act.put, List.setIfInBounds_toArray, List.set_cons_zero, List.set_cons_succ, i64_w, i32_w]
                  rfl
                refine pure_ (i := 7) (N := some 172) (v := ?_) (a' := ?_) #[true, false, true, false, true, false, false, true, false, false, false, false, false, false, false, false, false, false, false, false] rfl rfl (by kernel_rfl) (fun _ _ _ h => h) (Or.inl ⟨by rfl, ?_⟩) ?_ ?_
                rotate_left
                · intro w'
                  go_simp
                  with_reducible rfl
                rotate_left
                · simp only [Act.put, List.setIfInBounds_toArray, List.set_cons_zero, List.set_cons_succ, i64_w, i32_w]
                  rfl
                refine pure_ (i := 9) (N := some 174) (v := ?_) (a' := ?_) #[true, false, true, false, true, false, false, true, false, true, false, false, false, false, false, false, false, false, false, false] rfl rfl (by kernel_rfl) (fun _ _ _ h => h) (Or.inl ⟨by rfl, ?_⟩) ?_ ?_
                rotate_left
                · intro w'
                  go_simp
                  with_reducible rfl
                rotate_left
                · simp only [Act.put, List.setIfInBounds_toArray, List.set_cons_zero, List.set_cons_succ, i64_w, i32_w]
                  rfl
                refine take_ (i := 1) (N := some 166) (v := ?_) (a' := ?_) #[true, true, true, false, true, false, false, true, false, true, false, false, false, false, false, false, false, false, false, false] rfl rfl (by kernel_rfl) (fun _ _ _ h => h) (Or.inl ⟨by rfl, ?_⟩) hHeld ?_ ?_
                rotate_left
                · rintro w' ⟨s0, s1, s2, s3, s4, s5, s6⟩
                  go_simp
                  with_reducible rfl
                rotate_left
                · simp only [Act.put, List.setIfInBounds_toArray, List.set_cons_zero, List.set_cons_succ, i64_w, i32_w]
                  rfl
                refine take_ (i := 3) (N := some 168) (v := ?_) (a' := ?_) #[true, true, true, true, true, false, false, true, false, true, false, false, false, false, false, false, false, false, false, false] rfl rfl (by kernel_rfl) (fun _ _ _ h => h) (Or.inl ⟨by rfl, ?_⟩) hHeld ?_ ?_
                rotate_left
                · rintro w' ⟨s0, s1, s2, s3, s4, s5, s6⟩
                  go_simp
                  with_reducible rfl
                rotate_left
                · simp only [Act.put, List.setIfInBounds_toArray, List.set_cons_zero, List.set_cons_succ, i64_w, i32_w]
                  rfl
                refine pure_ (i := 5) (N := some 170) (v := ?_) (a' := ?_) #[true, true, true, true, true, true, false, true, false, true, false, false, false, false, false, false, false, false, false, false] rfl rfl (by kernel_rfl) (fun _ _ _ h => h) (Or.inl ⟨by rfl, ?_⟩) ?_ ?_
                rotate_left
                · intro w'
                  go_simp
                  with_reducible rfl
                rotate_left
                · simp only [Act.put, List.setIfInBounds_toArray, List.set_cons_zero, List.set_cons_succ, i64_w, i32_w]
                  rfl
                refine take_ (i := 6) (N := some 171) (v := ?_) (a' := ?_) #[true, true, true, true, true, true, true, true, false, true, false, false, false, false, false, false, false, false, false, false] rfl rfl (by kernel_rfl) (fun _ _ _ h => h) (Or.inl ⟨by rfl, ?_⟩) hHeld ?_ ?_
                rotate_left
                · rintro w' ⟨s0, s1, s2, s3, s4, s5, s6⟩
                  go_simp
                  with_reducible rfl
                rotate_left
                · simp only [Act.put, List.setIfInBounds_toArray, List.set_cons_zero, List.set_cons_succ, i64_w, i32_w]
                  rfl
                refine take_ (i := 8) (N := some 173) (v := ?_) (a' := ?_) #[true, true, true, true, true, true, true, true, true, true, false, false, false, false, false, false, false, false, false, false] rfl rfl (by kernel_rfl) (fun _ _ _ h => h) (Or.inl ⟨by rfl, ?_⟩) hHeld ?_ ?_
                rotate_left
                · rintro w' ⟨s0, s1, s2, s3, s4, s5, s6⟩
                  go_simp
                  with_reducible rfl
                rotate_left
                · simp only [Act.put, List.setIfInBounds_toArray, List.set_cons_zero, List.set_cons_succ, i64_w, i32_w]
                  rfl
                refine pure_ (i := 10) (N := some 175) (v := ?_) (a' := ?_) #[true, true, true, true, true, true, true, true, true, true, true, false, false, false, false, false, false, false, false, false] rfl rfl (by kernel_rfl) (fun _ _ _ h => h) (Or.inl ⟨by rfl, ?_⟩) ?_ ?_
                rotate_left
                · intro w'
                  go_simp
                  with_reducible rfl
                rotate_left
                · simp only [Act.put, List.setIfInBounds_toArray, List.set_cons_zero, List.set_cons_succ, i64_w, i32_w]
                  rfl
                refine take_ (i := 11) (N := some 176) (v := ?_) (a' := ?_) #[true, true, true, true, true, true, true, true, true, true, true, true, false, false, false, false, false, false, false, false] rfl rfl (by kernel_rfl) (fun _ _ _ h => h) (Or.inl ⟨by rfl, ?_⟩) hHeld ?_ ?_
                rotate_left
                · rintro w' ⟨s0, s1, s2, s3, s4, s5, s6⟩
                  go_simp
                  with_reducible rfl
                rotate_left
                · simp only [Act.put, List.setIfInBounds_toArray, List.set_cons_zero, List.set_cons_succ, i64_w, i32_w]
                  rfl
                refine join_ (σ := Value × Value × Nat) 2 #[true, true, true, true, true, true, true, true, true, true, true, true, true, true, true, true, true, true, false, false] (fun s_ => [(177, s_.1), (178, .tuple #[.agg #[.int .i64 l0.length, s_.2.1], .int .i64 0]), (22, .pointer (some ⟨s_.2.2, 0, none⟩)), (164, .tuple #[.agg #[.int .i64 l0.length, s_.2.1], .int .i64 0]), (179, .agg #[.int .i64 l0.length, s_.2.1]), (180, .int .i64 0)]) (fun s_ w' => Below W4.heap.size W4 w' ∧ W4.heap.size ≤ s_.2.2 ∧ w'.heap[s_.2.2]? = some (.cells #[.int .i64 0, .slice none 0 0] 24 (0, 0)) ∧ Kd.R (Kd.int .u64) 87 w' W4.heap.size (fun k_ => k_ ≠ s_.2.2) s_.2.1 ws) (fun s_ w' hF => ?_) (fun hCont => ?_)
                rotate_left
                · skip
                  refine two_ (i := 12) (j := 17) (Ni := some 177) (Nj := some 22) #[true, true, true, true, true, true, true, true, true, true, true, true, true, false, false, false, false, false, false, false] #[true, true, true, true, true, true, true, true, true, true, true, true, false, false, false, false, false, true, false, false] rfl rfl rfl rfl (by kernel_rfl) (by decide) (by decide) (fun K hK => ?_) (fun K hK => ?_)
                  · skip
                    refine Kd.N_lit_step k24 (w0 := W4) W4.heap.size 24 ?hg (N' := 177) ?hd (xs := [(⟨(l0.length : Int), wst⟩ : S24), (⟨(l0.length : Int), wso⟩ : S24)]) (inner := [.int .i64 l0.length, .slice At wst.length ct, .int .i64 l0.length, .slice Ao wso.length co]) (ok := fun _ => True) (okp := fun _ => True) ?hr ?hp (fun _ hk => hk) trivial (Below.refl _ _) (Nat.le_refl _) (by simp) ?_
                    case hd => rfl
                    case hg => rfl
                    case hr => first | (go_simp; done) | (go_simp; rfl)
                    case hp => exact Reps.c2 (k24_mkF _ _ (⟨(l0.length : Int), wst⟩ : S24) hmt (Kd.F_mono HFt.out (fun _ _ => trivial))) (Reps.c2 (k24_mkF _ _ (⟨(l0.length : Int), wso⟩ : S24) hmo (Kd.F_mono HFo.out (fun _ _ => trivial))) (Reps.none _ _))
                    intro vl wa hN hb _ _
                    obtain ⟨Al, cl, rfl⟩ := Kd.N_slice hN
                    refine hK.out _ _ ⟨(hb.cell (World.block_lt_of_cell? _ _ hHeld.1)).trans hHeld.1, (hb.cell (World.block_lt_of_cell? _ _ hHeld.2.1)).trans hHeld.2.1, (hb.cell (World.block_lt_of_cell? _ _ hHeld.2.2.1)).trans hHeld.2.2.1, (hb.cell (World.block_lt_of_cell? _ _ hHeld.2.2.2.1)).trans hHeld.2.2.2.1, (hb.cell (World.block_lt_of_cell? _ _ hHeld.2.2.2.2.1)).trans hHeld.2.2.2.2.1, (hb.cell (World.block_lt_of_cell? _ _ hHeld.2.2.2.2.2.1)).trans hHeld.2.2.2.2.2.1, (hb.cell (World.block_lt_of_cell? _ _ hHeld.2.2.2.2.2.2)).trans hHeld.2.2.2.2.2.2⟩ (fun hHeld => ?_)
                    clear hK K
                    refine norm_ (a' := ?_) ?_ ?_
                    rotate_left
                    · show Act.put _ (some 177) _ = _
                      simp only [Act.put, List.setIfInBounds_toArray, List.set_cons_zero, List.set_cons_succ, i64_w, i32_w]
                      rfl
                    have hCl := (Kd.N_reads' hN).2.2; have hlen := (Kd.N_reads' hN).2.1; have hB := hb; clear hb
                    refine two_ (i := 13) (j := 17) (Ni := some 178) (Nj := some 22) #[true, true, true, true, true, true, true, true, true, true, true, true, true, true, false, false, false, false, false, false] #[true, true, true, true, true, true, true, true, true, true, true, true, true, false, false, false, false, true, false, false] rfl rfl rfl rfl (by kernel_rfl) (by decide) (by decide) (fun K hK => ?_) (fun K hK => ?_)
                    · skip
                      have hsz := below_size hB
                      refine goes_ Tryd.func58 (by kernel_rfl) rfl #[.int .i64 l0.length, .slice Al 2 cl] (by rfl) rfl rfl (by (try simp only [List.map_toArray, List.map_cons, List.map_nil]); first | done | rfl) ?_
                      refine (bitset_Union.calls ku l0.length _ _ [(⟨(l0.length : Int), wst⟩ : S24), (⟨(l0.length : Int), wso⟩ : S24)] l0.length ws 0 _ hCl hlen hU.out).mono ?_
                      rintro e wb_ ⟨va, rfl, ho, hb⟩
                      refine ⟨_, rfl, ?_⟩
                      refine hK.out _ _ ⟨(hb.cell (World.block_lt_of_cell? _ _ hHeld.1)).trans hHeld.1, (hb.cell (World.block_lt_of_cell? _ _ hHeld.2.1)).trans hHeld.2.1, (hb.cell (World.block_lt_of_cell? _ _ hHeld.2.2.1)).trans hHeld.2.2.1, (hb.cell (World.block_lt_of_cell? _ _ hHeld.2.2.2.1)).trans hHeld.2.2.2.1, (hb.cell (World.block_lt_of_cell? _ _ hHeld.2.2.2.2.1)).trans hHeld.2.2.2.2.1, (hb.cell (World.block_lt_of_cell? _ _ hHeld.2.2.2.2.2.1)).trans hHeld.2.2.2.2.2.1, (hb.cell (World.block_lt_of_cell? _ _ hHeld.2.2.2.2.2.2)).trans hHeld.2.2.2.2.2.2⟩ (fun hHeld => ?_)
                      clear hK K
                      refine norm_ (a' := ?_) ?_ ?_
                      rotate_left
                      · show Act.put _ (some 178) _ = _
                        simp only [Act.put, List.setIfInBounds_toArray, List.set_cons_zero, List.set_cons_succ, i64_w, i32_w]
                        rfl
                      refine pure_ (i := 14) (N := some 164) (v := ?_) (a' := ?_) #[true, true, true, true, true, true, true, true, true, true, true, true, true, true, true, false, false, false, false, false] rfl rfl (by kernel_rfl) (fun _ _ _ h => h) (Or.inl ⟨by rfl, ?_⟩) ?_ ?_
                      rotate_left
                      · intro w'
                        go_simp
                        with_reducible rfl
                      rotate_left
                      · simp only [Act.put, List.setIfInBounds_toArray, List.set_cons_zero, List.set_cons_succ, i64_w, i32_w]
                        rfl
                      refine pure_ (i := 15) (N := some 179) (v := ?_) (a' := ?_) #[true, true, true, true, true, true, true, true, true, true, true, true, true, true, true, true, false, false, false, false] rfl rfl (by kernel_rfl) (fun _ _ _ h => h) (Or.inl ⟨by rfl, ?_⟩) ?_ ?_
                      rotate_left
                      · intro w'
                        go_simp
                        with_reducible rfl
                      rotate_left
                      · simp only [Act.put, List.setIfInBounds_toArray, List.set_cons_zero, List.set_cons_succ, i64_w, i32_w]
                        rfl
                      refine pure_ (i := 16) (N := some 180) (v := ?_) (a' := ?_) #[true, true, true, true, true, true, true, true, true, true, true, true, true, true, true, true, true, false, false, false] rfl rfl (by kernel_rfl) (fun _ _ _ h => h) (Or.inl ⟨by rfl, ?_⟩) ?_ ?_
                      rotate_left
                      · intro w'
                        go_simp
                        with_reducible rfl
                      rotate_left
                      · simp only [Act.put, List.setIfInBounds_toArray, List.set_cons_zero, List.set_cons_succ, i64_w, i32_w]
                        rfl
                      have hB2 := below_step hB hb; clear hb hB
                      refine one_ (i := 17) (N := some 22) #[true, true, true, true, true, true, true, true, true, true, true, true, true, true, true, true, true, true, false, false] rfl rfl (by kernel_rfl) (by decide) (fun K hK => ?_)
                      refine box_step ?hg (N := 22) ?hd (cs := #[.int .i64 0, .slice none 0 0]) (t := 24) ?hr ?_; (case hd => rfl); (case hg => rfl); (case hr => first | (go_simp; done) | (go_simp; rfl))
                      intro g hg wc hbox hb
                      refine hK.out _ _ ⟨(hb.cell (World.block_lt_of_cell? _ _ hHeld.1)).trans hHeld.1, (hb.cell (World.block_lt_of_cell? _ _ hHeld.2.1)).trans hHeld.2.1, (hb.cell (World.block_lt_of_cell? _ _ hHeld.2.2.1)).trans hHeld.2.2.1, (hb.cell (World.block_lt_of_cell? _ _ hHeld.2.2.2.1)).trans hHeld.2.2.2.1, (hb.cell (World.block_lt_of_cell? _ _ hHeld.2.2.2.2.1)).trans hHeld.2.2.2.2.1, (hb.cell (World.block_lt_of_cell? _ _ hHeld.2.2.2.2.2.1)).trans hHeld.2.2.2.2.2.1, (hb.cell (World.block_lt_of_cell? _ _ hHeld.2.2.2.2.2.2)).trans hHeld.2.2.2.2.2.2⟩ (fun hHeld => ?_)
                      clear hK K
                      refine norm_ (a' := ?_) ?_ ?_
                      rotate_left
                      · show Act.put _ (some 22) _ = _
                        simp only [Act.put, List.setIfInBounds_toArray, List.set_cons_zero, List.set_cons_succ, i64_w, i32_w]
                        rfl
                      have hge : W4.heap.size ≤ g := by rw [hg]; exact below_size hB2
                      have hB := below_step hB2 hb; have hbx := hbox
                      have hRR : Kd.R (Kd.int .u64) 87 wc W4.heap.size (fun k_ => k_ ≠ g) va ws := Kd.R_lower (Kd.R_mono (Kd.R_below (Kd.R_bound ho) hb) (fun k_ hk_ => by have := hk_.2.2.1; omega)) hsz
                      exact norm_ (by (try simp only [putAll, Act.put, List.setIfInBounds_toArray, List.set_cons_zero, List.set_cons_succ]); first | done | rfl) (hCont (.slice Al 2 cl, va, g) _ ⟨hB, hge, hbx, hRR⟩)
                    · skip
                      refine box_step ?hg (N := 22) ?hd (cs := #[.int .i64 0, .slice none 0 0]) (t := 24) ?hr ?_; (case hd => rfl); (case hg => rfl); (case hr => first | (go_simp; done) | (go_simp; rfl))
                      intro g hg wb_ hbox hb
                      refine hK.out _ _ ⟨(hb.cell (World.block_lt_of_cell? _ _ hHeld.1)).trans hHeld.1, (hb.cell (World.block_lt_of_cell? _ _ hHeld.2.1)).trans hHeld.2.1, (hb.cell (World.block_lt_of_cell? _ _ hHeld.2.2.1)).trans hHeld.2.2.1, (hb.cell (World.block_lt_of_cell? _ _ hHeld.2.2.2.1)).trans hHeld.2.2.2.1, (hb.cell (World.block_lt_of_cell? _ _ hHeld.2.2.2.2.1)).trans hHeld.2.2.2.2.1, (hb.cell (World.block_lt_of_cell? _ _ hHeld.2.2.2.2.2.1)).trans hHeld.2.2.2.2.2.1, (hb.cell (World.block_lt_of_cell? _ _ hHeld.2.2.2.2.2.2)).trans hHeld.2.2.2.2.2.2⟩ (fun hHeld => ?_)
                      clear hK K
                      refine norm_ (a' := ?_) ?_ ?_
                      rotate_left
                      · show Act.put _ (some 22) _ = _
                        simp only [Act.put, List.setIfInBounds_toArray, List.set_cons_zero, List.set_cons_succ, i64_w, i32_w]
                        rfl
                      have hge : W4.heap.size ≤ g := by rw [hg]; exact below_size hB
                      have hB1 := below_step hB hb; have hCl1 := Kd.C_below hCl hb; have hgl := blk_lt hbox; clear hB hCl hb hg
                      have hCl := hCl1; have hB := hB1; clear hCl1 hB1
                      refine one_ (i := 13) (N := some 178) #[true, true, true, true, true, true, true, true, true, true, true, true, true, true, false, false, false, true, false, false] rfl rfl (by kernel_rfl) (by decide) (fun K hK => ?_)
                      refine goes_ Tryd.func58 (by kernel_rfl) rfl #[.int .i64 l0.length, .slice Al 2 cl] (by rfl) rfl rfl (by (try simp only [List.map_toArray, List.map_cons, List.map_nil]); first | done | rfl) ?_
                      refine (bitset_Union.calls ku l0.length _ _ [(⟨(l0.length : Int), wst⟩ : S24), (⟨(l0.length : Int), wso⟩ : S24)] l0.length ws 0 _ hCl hlen hU.out).mono ?_
                      rintro e wc ⟨va, rfl, ho, hb⟩
                      refine ⟨_, rfl, ?_⟩
                      refine hK.out _ _ ⟨(hb.cell (World.block_lt_of_cell? _ _ hHeld.1)).trans hHeld.1, (hb.cell (World.block_lt_of_cell? _ _ hHeld.2.1)).trans hHeld.2.1, (hb.cell (World.block_lt_of_cell? _ _ hHeld.2.2.1)).trans hHeld.2.2.1, (hb.cell (World.block_lt_of_cell? _ _ hHeld.2.2.2.1)).trans hHeld.2.2.2.1, (hb.cell (World.block_lt_of_cell? _ _ hHeld.2.2.2.2.1)).trans hHeld.2.2.2.2.1, (hb.cell (World.block_lt_of_cell? _ _ hHeld.2.2.2.2.2.1)).trans hHeld.2.2.2.2.2.1, (hb.cell (World.block_lt_of_cell? _ _ hHeld.2.2.2.2.2.2)).trans hHeld.2.2.2.2.2.2⟩ (fun hHeld => ?_)
                      clear hK K
                      refine norm_ (a' := ?_) ?_ ?_
                      rotate_left
                      · show Act.put _ (some 178) _ = _
                        simp only [Act.put, List.setIfInBounds_toArray, List.set_cons_zero, List.set_cons_succ, i64_w, i32_w]
                        rfl
                      refine pure_ (i := 14) (N := some 164) (v := ?_) (a' := ?_) #[true, true, true, true, true, true, true, true, true, true, true, true, true, true, true, false, false, true, false, false] rfl rfl (by kernel_rfl) (fun _ _ _ h => h) (Or.inl ⟨by rfl, ?_⟩) ?_ ?_
                      rotate_left
                      · intro w'
                        go_simp
                        with_reducible rfl
                      rotate_left
                      · simp only [Act.put, List.setIfInBounds_toArray, List.set_cons_zero, List.set_cons_succ, i64_w, i32_w]
                        rfl
                      refine pure_ (i := 15) (N := some 179) (v := ?_) (a' := ?_) #[true, true, true, true, true, true, true, true, true, true, true, true, true, true, true, true, false, true, false, false] rfl rfl (by kernel_rfl) (fun _ _ _ h => h) (Or.inl ⟨by rfl, ?_⟩) ?_ ?_
                      rotate_left
                      · intro w'
                        go_simp
                        with_reducible rfl
                      rotate_left
                      · simp only [Act.put, List.setIfInBounds_toArray, List.set_cons_zero, List.set_cons_succ, i64_w, i32_w]
                        rfl
                      refine pure_ (i := 16) (N := some 180) (v := ?_) (a' := ?_) #[true, true, true, true, true, true, true, true, true, true, true, true, true, true, true, true, true, true, false, false] rfl rfl (by kernel_rfl) (fun _ _ _ h => h) (Or.inl ⟨by rfl, ?_⟩) ?_ ?_
                      rotate_left
                      · intro w'
                        go_simp
                        with_reducible rfl
                      rotate_left
                      · simp only [Act.put, List.setIfInBounds_toArray, List.set_cons_zero, List.set_cons_succ, i64_w, i32_w]
                        rfl
                      have hB2 := below_step hB hb; have hbx := blk_below hbox hb; clear hB; have hB := hB2
                      have hRR : Kd.R (Kd.int .u64) 87 wc W4.heap.size (fun k_ => k_ ≠ g) va ws := Kd.R_lower (Kd.R_mono (Kd.R_bound ho) (fun k_ hk_ => by have := hk_.2.1; omega)) (by omega)
                      exact norm_ (by (try simp only [putAll, Act.put, List.setIfInBounds_toArray, List.set_cons_zero, List.set_cons_succ]); first | done | rfl) (hCont (.slice Al 2 cl, va, g) _ ⟨hB, hge, hbx, hRR⟩)
                  · skip
                    refine box_step ?hg (N := 22) ?hd (cs := #[.int .i64 0, .slice none 0 0]) (t := 24) ?hr ?_; (case hd => rfl); (case hg => rfl); (case hr => first | (go_simp; done) | (go_simp; rfl))
                    intro g hg wa hbox hb
                    refine hK.out _ _ ⟨(hb.cell (World.block_lt_of_cell? _ _ hHeld.1)).trans hHeld.1, (hb.cell (World.block_lt_of_cell? _ _ hHeld.2.1)).trans hHeld.2.1, (hb.cell (World.block_lt_of_cell? _ _ hHeld.2.2.1)).trans hHeld.2.2.1, (hb.cell (World.block_lt_of_cell? _ _ hHeld.2.2.2.1)).trans hHeld.2.2.2.1, (hb.cell (World.block_lt_of_cell? _ _ hHeld.2.2.2.2.1)).trans hHeld.2.2.2.2.1, (hb.cell (World.block_lt_of_cell? _ _ hHeld.2.2.2.2.2.1)).trans hHeld.2.2.2.2.2.1, (hb.cell (World.block_lt_of_cell? _ _ hHeld.2.2.2.2.2.2)).trans hHeld.2.2.2.2.2.2⟩ (fun hHeld => ?_)
                    clear hK K
                    refine norm_ (a' := ?_) ?_ ?_
                    rotate_left
                    · show Act.put _ (some 22) _ = _
                      simp only [Act.put, List.setIfInBounds_toArray, List.set_cons_zero, List.set_cons_succ, i64_w, i32_w]
                      rfl
                    have hge : W4.heap.size ≤ g := Nat.le_of_eq hg.symm
                    have hB0 := hb; have hgl0 := blk_lt hbox; clear hb hg
                    refine one_ (i := 12) (N := some 177) #[true, true, true, true, true, true, true, true, true, true, true, true, true, false, false, false, false, true, false, false] rfl rfl (by kernel_rfl) (by decide) (fun K hK => ?_)
                    refine Kd.N_lit_step k24 (w0 := wa) wa.heap.size 24 ?hg (N' := 177) ?hd (xs := [(⟨(l0.length : Int), wst⟩ : S24), (⟨(l0.length : Int), wso⟩ : S24)]) (inner := [.int .i64 l0.length, .slice At wst.length ct, .int .i64 l0.length, .slice Ao wso.length co]) (ok := fun _ => True) (okp := fun _ => True) ?hr ?hp (fun _ hk => hk) trivial (Below.refl _ _) (Nat.le_refl _) (by simp) ?_
                    case hd => rfl
                    case hg => rfl
                    case hr => first | (go_simp; done) | (go_simp; rfl)
                    case hp => exact Reps.c2 (k24_mkF _ _ (⟨(l0.length : Int), wst⟩ : S24) hmt (Kd.F_mono (Kd.F_below HFt.out hB0) (fun _ _ => trivial))) (Reps.c2 (k24_mkF _ _ (⟨(l0.length : Int), wso⟩ : S24) hmo (Kd.F_mono (Kd.F_below HFo.out hB0) (fun _ _ => trivial))) (Reps.none _ _))
                    intro vl wb_ hN hb _ _
                    obtain ⟨Al, cl, rfl⟩ := Kd.N_slice hN
                    refine hK.out _ _ ⟨(hb.cell (World.block_lt_of_cell? _ _ hHeld.1)).trans hHeld.1, (hb.cell (World.block_lt_of_cell? _ _ hHeld.2.1)).trans hHeld.2.1, (hb.cell (World.block_lt_of_cell? _ _ hHeld.2.2.1)).trans hHeld.2.2.1, (hb.cell (World.block_lt_of_cell? _ _ hHeld.2.2.2.1)).trans hHeld.2.2.2.1, (hb.cell (World.block_lt_of_cell? _ _ hHeld.2.2.2.2.1)).trans hHeld.2.2.2.2.1, (hb.cell (World.block_lt_of_cell? _ _ hHeld.2.2.2.2.2.1)).trans hHeld.2.2.2.2.2.1, (hb.cell (World.block_lt_of_cell? _ _ hHeld.2.2.2.2.2.2)).trans hHeld.2.2.2.2.2.2⟩ (fun hHeld => ?_)
                    clear hK K
                    refine norm_ (a' := ?_) ?_ ?_
                    rotate_left
                    · show Act.put _ (some 177) _ = _
                      simp only [Act.put, List.setIfInBounds_toArray, List.set_cons_zero, List.set_cons_succ, i64_w, i32_w]
                      rfl
                    have hCl := (Kd.N_reads' hN).2.2; have hlen := (Kd.N_reads' hN).2.1; have hB := below_step hB0 hb; have hbox1 := blk_below hbox hb; clear hbox hb hB0; have hbox := hbox1; have hgl := blk_lt hbox
                    refine one_ (i := 13) (N := some 178) #[true, true, true, true, true, true, true, true, true, true, true, true, true, true, false, false, false, true, false, false] rfl rfl (by kernel_rfl) (by decide) (fun K hK => ?_)
                    refine goes_ Tryd.func58 (by kernel_rfl) rfl #[.int .i64 l0.length, .slice Al 2 cl] (by rfl) rfl rfl (by (try simp only [List.map_toArray, List.map_cons, List.map_nil]); first | done | rfl) ?_
                    refine (bitset_Union.calls ku l0.length _ _ [(⟨(l0.length : Int), wst⟩ : S24), (⟨(l0.length : Int), wso⟩ : S24)] l0.length ws 0 _ hCl hlen hU.out).mono ?_
                    rintro e wc ⟨va, rfl, ho, hb⟩
                    refine ⟨_, rfl, ?_⟩
                    refine hK.out _ _ ⟨(hb.cell (World.block_lt_of_cell? _ _ hHeld.1)).trans hHeld.1, (hb.cell (World.block_lt_of_cell? _ _ hHeld.2.1)).trans hHeld.2.1, (hb.cell (World.block_lt_of_cell? _ _ hHeld.2.2.1)).trans hHeld.2.2.1, (hb.cell (World.block_lt_of_cell? _ _ hHeld.2.2.2.1)).trans hHeld.2.2.2.1, (hb.cell (World.block_lt_of_cell? _ _ hHeld.2.2.2.2.1)).trans hHeld.2.2.2.2.1, (hb.cell (World.block_lt_of_cell? _ _ hHeld.2.2.2.2.2.1)).trans hHeld.2.2.2.2.2.1, (hb.cell (World.block_lt_of_cell? _ _ hHeld.2.2.2.2.2.2)).trans hHeld.2.2.2.2.2.2⟩ (fun hHeld => ?_)
                    clear hK K
                    refine norm_ (a' := ?_) ?_ ?_
                    rotate_left
                    · show Act.put _ (some 178) _ = _
                      simp only [Act.put, List.setIfInBounds_toArray, List.set_cons_zero, List.set_cons_succ, i64_w, i32_w]
                      rfl
                    refine pure_ (i := 14) (N := some 164) (v := ?_) (a' := ?_) #[true, true, true, true, true, true, true, true, true, true, true, true, true, true, true, false, false, true, false, false] rfl rfl (by kernel_rfl) (fun _ _ _ h => h) (Or.inl ⟨by rfl, ?_⟩) ?_ ?_
                    rotate_left
                    · intro w'
                      go_simp
                      with_reducible rfl
                    rotate_left
                    · simp only [Act.put, List.setIfInBounds_toArray, List.set_cons_zero, List.set_cons_succ, i64_w, i32_w]
                      rfl
                    refine pure_ (i := 15) (N := some 179) (v := ?_) (a' := ?_) #[true, true, true, true, true, true, true, true, true, true, true, true, true, true, true, true, false, true, false, false] rfl rfl (by kernel_rfl) (fun _ _ _ h => h) (Or.inl ⟨by rfl, ?_⟩) ?_ ?_
                    rotate_left
                    · intro w'
                      go_simp
                      with_reducible rfl
                    rotate_left
                    · simp only [Act.put, List.setIfInBounds_toArray, List.set_cons_zero, List.set_cons_succ, i64_w, i32_w]
                      rfl
                    refine pure_ (i := 16) (N := some 180) (v := ?_) (a' := ?_) #[true, true, true, true, true, true, true, true, true, true, true, true, true, true, true, true, true, true, false, false] rfl rfl (by kernel_rfl) (fun _ _ _ h => h) (Or.inl ⟨by rfl, ?_⟩) ?_ ?_
                    rotate_left
                    · intro w'
                      go_simp
                      with_reducible rfl
                    rotate_left
                    · simp only [Act.put, List.setIfInBounds_toArray, List.set_cons_zero, List.set_cons_succ, i64_w, i32_w]
                      rfl
                    have hB2 := below_step hB hb; have hbx := blk_below hbox hb; clear hB; have hB := hB2
                    have hRR : Kd.R (Kd.int .u64) 87 wc W4.heap.size (fun k_ => k_ ≠ g) va ws := Kd.R_lower (Kd.R_mono (Kd.R_bound ho) (fun k_ hk_ => by have := hk_.2.1; omega)) (by omega)
                    exact norm_ (by (try simp only [putAll, Act.put, List.setIfInBounds_toArray, List.set_cons_zero, List.set_cons_succ]); first | done | rfl) (hCont (.slice Al 2 cl, va, g) _ ⟨hB, hge, hbx, hRR⟩)
                obtain ⟨hB, hge, hbx, hRR⟩ := hF
                obtain ⟨vl, va, g⟩ := s_
                obtain ⟨As, cs_, rfl⟩ := Kd.R_slice hRR
                simp only at hge hbx hRR
                have hH2 : w'.cell? ⟨w.heap.size, 0, none⟩ = some (.int .i64 l0.length) ∧ w'.cell? ⟨w.heap.size, 1, none⟩ = some (.slice (some adt) l0.length c0) ∧ w'.cell? ⟨w.heap.size + 1, 1, none⟩ = some (.slice (some ado) lb.length d0) ∧ w'.cell? (adt.add (j * 2)) = some (.int .i64 l0.length) ∧ w'.cell? ⟨(adt.add (j * 2)).block, (adt.add (j * 2)).off + 1, none⟩ = some (.slice At wst.length ct) ∧ w'.cell? (ado.add (j * 2)) = some (.int .i64 l0.length) ∧ w'.cell? ⟨(ado.add (j * 2)).block, (ado.add (j * 2)).off + 1, none⟩ = some (.slice Ao wso.length co) := ⟨(hB.cell (World.block_lt_of_cell? _ _ hHeld.1)).trans hHeld.1, (hB.cell (World.block_lt_of_cell? _ _ hHeld.2.1)).trans hHeld.2.1, (hB.cell (World.block_lt_of_cell? _ _ hHeld.2.2.1)).trans hHeld.2.2.1, (hB.cell (World.block_lt_of_cell? _ _ hHeld.2.2.2.1)).trans hHeld.2.2.2.1, (hB.cell (World.block_lt_of_cell? _ _ hHeld.2.2.2.2.1)).trans hHeld.2.2.2.2.1, (hB.cell (World.block_lt_of_cell? _ _ hHeld.2.2.2.2.2.1)).trans hHeld.2.2.2.2.2.1, (hB.cell (World.block_lt_of_cell? _ _ hHeld.2.2.2.2.2.2)).trans hHeld.2.2.2.2.2.2⟩
                clear hHeld; have hHeld := hH2; clear hH2
                refine norm_ (a' := ?_) ?_ ?_
                rotate_left
                · simp only [putAll, Act.put, List.setIfInBounds_toArray, List.set_cons_zero, List.set_cons_succ]
                  rfl
                refine one_ (i := 18) (N := none) #[true, true, true, true, true, true, true, true, true, true, true, true, true, true, true, true, true, true, true, false] rfl rfl (by kernel_rfl) (by decide) (fun K hK => ?_)
                have t0 := (blk_cell hbx 0).trans rfl; have t1 := (blk_cell hbx 1).trans rfl; have f0 := blk_frozen hbx 0; have f1 := blk_frozen hbx 1
                refine skip_ (w1 := ?_) (by rfl) rfl ?_ ?_
                rotate_left
                · go_simp
                  rfl
                obtain ⟨X, hX⟩ : ∃ X, (w'.setCell ⟨g, 0, none⟩ (.int .i64 l0.length)).setCell ⟨g, 1, none⟩ (.slice As ws.length cs_) = X := ⟨_, rfl⟩
                have hst := stored hB hge hbx hRR hX
                rw [hX]
                obtain ⟨hRX, hb, hSb, hSl, hSc⟩ := hst
                refine hK.out _ _ ⟨(hb.cell (World.block_lt_of_cell? _ _ hH0.1)).trans hH0.1, (hb.cell (World.block_lt_of_cell? _ _ hH0.2.1)).trans hH0.2.1, (hb.cell (World.block_lt_of_cell? _ _ hH0.2.2.1)).trans hH0.2.2.1, (hb.cell (World.block_lt_of_cell? _ _ hH0.2.2.2.1)).trans hH0.2.2.2.1, (hb.cell (World.block_lt_of_cell? _ _ hH0.2.2.2.2.1)).trans hH0.2.2.2.2.1, (hb.cell (World.block_lt_of_cell? _ _ hH0.2.2.2.2.2.1)).trans hH0.2.2.2.2.2.1, (hb.cell (World.block_lt_of_cell? _ _ hH0.2.2.2.2.2.2)).trans hH0.2.2.2.2.2.2⟩ (fun hHeld => ?_)
                clear hK K t0 t1 f0 f1 hB hge hbx hRR hX
                refine pure_ (i := 19) (N := some 23) (v := ?_) (a' := ?_) #[true, true, true, true, true, true, true, true, true, true, true, true, true, true, true, true, true, true, true, true] rfl rfl (by kernel_rfl) (fun _ _ _ h => h) (Or.inl ⟨by rfl, ?_⟩) ?_ ?_
                rotate_left
                · intro w'
                  go_simp
                  with_reducible rfl
                rotate_left
                · simp only [Act.put, List.setIfInBounds_toArray, List.set_cons_zero, List.set_cons_succ, i64_w, i32_w]
                  rfl
                refine done_ (by kernel_rfl) ?_
                clear hH0 hHeld
                have hown := own_lt HL.out
                have nHZ_ := Aside0.mk (below_step HZ.out hb)
                have nHL_ := Aside0.mk (Kd.N_below HL.out hb)
                clear HZ HL
                have HZ := nHZ_; have HL := nHL_
                clear nHZ_ nHL_
                clear hb
                have KS := Aside0.mk hSb; have HR := Aside0.mk hRX; clear hSb hSc hRX
                gi_wp2_with fail
                refine ⟨trivial, ?_⟩; gi_at_call 21
                refine (callsIn_wide.2 (slopelaw3_num.calls 0 0 _ rfl)).mono ?_
                rintro e w13 ⟨rfl, hd_⟩
                have hb := hd_.below; clear hd_
                have nHZ_ := Aside0.mk (below_step HZ.out hb)
                have nHL_ := Aside0.mk (Kd.N_below HL.out hb)
                have nKS_ := Aside0.mk (blk_below KS.out hb)
                have nHR_ := Aside0.mk (Kd.R_below HR.out hb)
                clear HZ HL KS HR
                have HZ := nHZ_; have HL := nHL_; have KS := nKS_; have HR := nHR_
                clear nHZ_ nHL_ nKS_ nHR_
                clear hb
                have qKS0 := (blk_cell KS.out 0).trans rfl; have qKS1 := (blk_cell KS.out 1).trans rfl
                gi_upto_region 25 with fail
                refine wpIn_wide.2 ?_
                go_wp2_with ((with_reducible refine gate_builtin (b := .append) (xs := #[.tmp 184, .tmp 186]) rfl ?_); (try (refine gate_guard (by rfl) ?_; dsimp only)); at_builtin; refine Kd.N_append k24 (w0 := w12) w12.heap.size rfl (.tmp 184) (.tmp 186) 54 24 (.agg #[(.int .i64 0), (.slice none 0 0)]) 32 rfl Tryd.underlying54 info24 rfl (by decide) (by omega) vL acc (⟨(l0.length : Int), ws⟩ : S24) [.int .i64 l0.length, .slice As ws.length cs_] (fun _ => True) (fun k_ => some k_ ≠ vL.ownBlock) rfl rfl ?aP (fun _ hk_ => ⟨trivial, hk_⟩) (fun _ _ => trivial) HL.out HZ.out (below_size HZ.out) ?aL ?_; (case aP => exact k24_mkF _ _ (⟨(l0.length : Int), ws⟩ : S24) hSl (Kd.R_F (Kd.R_mono HR.out (fun k_ hk_ e_ => by have := hown k_ e_; omega)))); (case aL => have := hA.out.1; omega); intro v1 w1_ hN1 hb1 hg1 hat1)
                gi_wp2_with fail
                rw [show ((j : Int) + 1) = ((j + 1 : Nat) : Int) from by omega]
                refine ⟨⟨j + 1, acc ++ [⟨(l0.length : Int), ws⟩], v1, _, _, _, _, _, _, _, _, _, _, _, _, _, _, _, _, _, _, _, _, _, _, _, _, _, _, _, _, _, _, _, _, rfl, ⟨hlt⟩, ⟨hA.out.snoc hw⟩, ⟨hN1⟩, ⟨hb1⟩⟩, ?_⟩
                show l0.length - (intOf (.int .i64 ((j + 1 : Nat) : Int))).toNat < l0.length - (intOf (.int .i64 (j : Int))).toNat
                simp only [intOf, Int.toNat_natCast]
                omega
              · skip
                have hje : j = l0.length := by have := hj.out; omega
                subst hje
                obtain ⟨Al, cl, rfl⟩ := Kd.N_slice HL.out
                have HLc := Aside0.mk (Kd.N_reads' HL.out).2.2; have HLl := Aside0.mk (Kd.N_reads' HL.out).2.1
                obtain ⟨wr_, rw0, kw, hw0⟩ := Closure_rows HN.out hA.out
                have RW := Aside0.mk rw0; have HW := Aside0.mk (hw0 kw (Nat.le_refl _)); dsimp only at HW; clear hw0 rw0
                have hb := HZ.out
                have nKA_ := Aside0.mk (blk_below KA.out hb)
                have nKC_ := Aside0.mk (blk_below KC.out hb)
                have nHc_ := Aside0.mk (Kd.C_below Hc.out hb)
                have nHB_ := Aside0.mk (below_step HB.out hb)
                clear KA KC Hc HB
                have KA := nKA_; have KC := nKC_; have Hc := nHc_; have HB := nHB_
                clear nKA_ nKC_ nHc_ nHB_
                clear hb HL HZ
                have hd : decide (l0.length < l0.length) = false := by simp
                have qKA0 := (blk_cell KA.out 0).trans rfl; have qKA1 := (blk_cell KA.out 1).trans rfl
                gi_wp2_with fail
                refine ⟨trivial, ?_⟩; gi_at_call 56
                refine (callsIn_wide.2 (bitset_Closure.calls kw l0.length _ _ acc _ _ _ _ HLc.out HLl.out HW.out)).mono ?_
                rintro e w14 ⟨vt, rfl, ho, hb⟩
                clear qKA0 qKA1
                clear hd
                clear HLc HLl
                obtain ⟨AHw, cHw, et⟩ := Kd.S_slice ho
                subst et
                have lHw := Aside0.mk (Kd.S_reads' ho).2.1; have mHw := Aside0.mk (Kd.S_reads' ho).2.2
                clear ho
                have nKA_ := Aside0.mk (blk_below KA.out hb)
                have nKC_ := Aside0.mk (blk_below KC.out hb)
                have nHc_ := Aside0.mk (Kd.C_below Hc.out hb)
                have nHB_ := Aside0.mk (below_step HB.out hb)
                clear KA KC Hc HB
                have KA := nKA_; have KC := nKC_; have Hc := nHc_; have HB := nHB_
                clear nKA_ nKC_ nHc_ nHB_
                have Hw := mHw; clear mHw
                have xKW := Aside0.mk (blk_new w14 (.cells #[.int .i64 l0.length, .slice AHw wr_.length cHw] 56 (0, 0)))
                clear hb
                have nKA_ := Aside0.mk (blk_alloc KA.out (.cells #[.int .i64 l0.length, .slice AHw wr_.length cHw] 56 (0, 0)))
                have nKC_ := Aside0.mk (blk_alloc KC.out (.cells #[.int .i64 l0.length, .slice AHw wr_.length cHw] 56 (0, 0)))
                have nHc_ := Aside0.mk (Kd.C_alloc Hc.out (.cells #[.int .i64 l0.length, .slice AHw wr_.length cHw] 56 (0, 0)))
                have nHB_ := Aside0.mk (below_alloc HB.out (.cells #[.int .i64 l0.length, .slice AHw wr_.length cHw] 56 (0, 0)))
                have nHw_ := Aside0.mk (Kd.C_alloc Hw.out (.cells #[.int .i64 l0.length, .slice AHw wr_.length cHw] 56 (0, 0)))
                clear KA KC Hc HB Hw
                have KA := nKA_; have KC := nKC_; have Hc := nHc_; have HB := nHB_; have Hw := nHw_
                clear nKA_ nKC_ nHc_ nHB_ nHw_
                have KW := xKW; clear xKW
                gi_wp2_with fail
                refine ⟨trivial, ?_⟩; gi_at_call 21
                refine (callsIn_wide.2 (slopelaw3_num.calls 0 0 _ rfl)).mono ?_
                rintro e w15 ⟨rfl, hd_⟩
                have hb := hd_.below; clear hd_
                have nKA_ := Aside0.mk (blk_below KA.out hb)
                have nKC_ := Aside0.mk (blk_below KC.out hb)
                have nHc_ := Aside0.mk (Kd.C_below Hc.out hb)
                have nHB_ := Aside0.mk (below_step HB.out hb)
                have nHw_ := Aside0.mk (Kd.C_below Hw.out hb)
                have nKW_ := Aside0.mk (blk_below KW.out hb)
                clear KA KC Hc HB Hw KW
                have KA := nKA_; have KC := nKC_; have Hc := nHc_; have HB := nHB_; have Hw := nHw_; have KW := nKW_
                clear nKA_ nKC_ nHc_ nHB_ nHw_ nKW_
                clear hb
                gi_wp2_with fail
                refine wpIn_loop (fun a W => ∃ (j : Nat) (y199 y200 y201 y202 y203 y204 y205 y206 y207 y208 y209 y210 y211 y212 y213 y214 y215 y216 : Value), a = { tmps := #[.agg #[.int .i64 l0.length, .slice A0 l0.length c0], .agg #[.int .i64 m, .slice B0 lb.length d0], .int .i64 x2, .int .i64 x3, .pointer (some ⟨w.heap.size, 0, none⟩), .pointer (some ⟨w.heap.size + 1, 0, none⟩), undef, undef, .bool false, .pointer (some ⟨w2.heap.size, 0, none⟩), .int .i64 0, .pointer (some ⟨w4.heap.size, 0, none⟩), .int .i64 0, .pointer (some ⟨w5.heap.size, 0, none⟩), .int .i64 0, .pointer (some ⟨w6.heap.size, 0, none⟩), .int .i64 0, .int .i64 l0.length, u18, u19, .slice Al acc.length cl, .int .i64 l0.length, v22, v23, .pointer (some ⟨w14.heap.size, 0, none⟩), .int .i64 0, .int .i64 j, .bool true, .bool false, .tuple #[.agg #[.int .i64 l0.length, .slice AHc cr.length cHc], .int .i64 0], .agg #[.int .i64 l0.length, .slice A0 l0.length c0], .tuple #[.agg #[.int .i64 l0.length, .slice AHc cr.length cHc], .int .i64 0], .agg #[.int .i64 l0.length, .slice AHc cr.length cHc], .int .i64 0, .agg #[.int .i64 l0.length, .slice A0 l0.length c0], .bool true, .bool false, .bool false, .pointer (some ⟨w.heap.size, 0, none⟩), .int .i64 l0.length, .pointer (some ⟨w.heap.size, 1, none⟩), .slice A0 l0.length c0, .int .i64 l0.length, .bool false, .bool false, undef, undef, undef, .tuple #[.agg #[.int .i64 l0.length, .slice AHp pr.length cHp], .int .i64 0], .agg #[.int .i64 l0.length, .slice A0 l0.length c0], .agg #[.int .i64 l0.length, .slice AHc cr.length cHc], .tuple #[.agg #[.int .i64 l0.length, .slice AHp pr.length cHp], .int .i64 0], .agg #[.int .i64 l0.length, .slice AHp pr.length cHp], .int .i64 0, .tuple #[.agg #[.int .i64 l0.length, .slice AHq qr.length cHq], .int .i64 0], .agg #[.int .i64 l0.length, .slice AHc cr.length cHc], .agg #[.int .i64 l0.length, .slice AHc cr.length cHc], .tuple #[.agg #[.int .i64 l0.length, .slice AHq qr.length cHq], .int .i64 0], .agg #[.int .i64 l0.length, .slice AHq qr.length cHq], .int .i64 0, .tuple #[.agg #[.int .i64 l0.length, .slice AHd cr.length cHd], .int .i64 0], .agg #[.int .i64 l0.length, .slice AHc cr.length cHc], .tuple #[.agg #[.int .i64 l0.length, .slice AHd cr.length cHd], .int .i64 0], .agg #[.int .i64 l0.length, .slice AHd cr.length cHd], .int .i64 0, .int .i64 0, .int .i64 0, .int .i64 0, .int .i64 0, .int .i64 0, .int .i64 0, .int .i64 0, .int .i64 0, .int .i64 0, .int .i64 0, .int .i64 0, .bool false, .bool false, .agg #[.int .i64 l0.length, .slice AHc cr.length cHc], .agg #[.int .i64 l0.length, .slice AHd cr.length cHd], .bool true, .bool false, .bool false, .bool false, .pointer (some ⟨w2.heap.size, 1, none⟩), .slice AHc cr.length cHc, .int .i64 cr.length, .pointer (some ⟨w.heap.size, 0, none⟩), .int .i64 l0.length, .bool false, .bool false, .int .i64 l0.length, .pointer (some ⟨w.heap.size, 0, none⟩), .int .i64 l0.length, .bool false, u95, u96, u97, u98, u99, u100, u101, u102, u103, u104, u105, u106, u107, u108, u109, u110, u111, u112, u113, u114, u115, u116, u117, u118, u119, u120, u121, u122, u123, u124, u125, u126, u127, u128, u129, u130, u131, u132, u133, u134, u135, u136, u137, u138, u139, u140, .agg #[.int .i64 m, .slice B0 lb.length d0], .bool true, .bool true, .pointer (some ⟨w.heap.size + 1, 0, none⟩), .int .i64 m, .pointer (some ⟨w.heap.size, 0, none⟩), .int .i64 l0.length, .bool true, .bool true, .bool true, .pointer (some ⟨w.heap.size + 1, 1, none⟩), .slice B0 lb.length d0, .int .i64 lb.length, .pointer (some ⟨w.heap.size, 0, none⟩), .int .i64 l0.length, .bool true, .bool true, .int .i64 l0.length, .pointer (some ⟨w.heap.size, 0, none⟩), .int .i64 l0.length, .bool false, v162, v163, v164, v165, v166, v167, v168, v169, v170, v171, v172, v173, v174, v175, v176, v177, v178, v179, v180, v181, v182, v183, v184, v185, v186, v187, .tuple #[.agg #[.int .i64 l0.length, .slice AHw wr_.length cHw], .int .i64 0], .pointer (some ⟨w.heap.size, 0, none⟩), .int .i64 l0.length, .slice Al acc.length cl, .agg #[.int .i64 l0.length, .slice Al acc.length cl], .tuple #[.agg #[.int .i64 l0.length, .slice AHw wr_.length cHw], .int .i64 0], .agg #[.int .i64 l0.length, .slice AHw wr_.length cHw], .int .i64 0, .int .i64 0, .int .i64 0, .bool false, y199, y200, y201, y202, y203, y204, y205, y206, y207, y208, y209, y210, y211, y212, y213, y214, y215, y216, undef, undef, undef], defers := [] } ∧ Aside0 (j ≤ l0.length) ∧ Aside0 (Below w15.heap.size w15 W))
                  (fun a _ => l0.length - (intOf (a.tmps.getD 26 undef)).toNat) ?start3 ?round3
                case start3 =>
                  exact ⟨0, undef, undef, undef, undef, undef, undef, undef, undef, undef, undef, undef, undef, undef, undef, undef, undef, undef, undef, rfl, ⟨Nat.zero_le _⟩, ⟨Below.refl _ _⟩⟩
                case round3 =>
                  rintro a wr3 ⟨j, y199, y200, y201, y202, y203, y204, y205, y206, y207, y208, y209, y210, y211, y212, y213, y214, y215, y216, rfl, hj, HZ⟩
                  have KA2 := Aside0.mk (blk_below KA.out HZ.out); have KC2 := Aside0.mk (blk_below KC.out HZ.out); have KW2 := Aside0.mk (blk_below KW.out HZ.out)
                  by_cases hlt : j < l0.length
                  · skip
                    have hn4 : l0.length ≤ 4096 := HN.out
                    obtain ⟨adc, Ac, cc, ec, q0c, q1c, hmc, hCc⟩ := at_T24 (Kd.C_below Hc.out HZ.out) (j : Int) (by omega) (by first | omega | (rw [RC.out.1]; omega))
                    subst ec
                    simp only [Int.toNat_natCast] at q0c q1c
                    obtain ⟨r0c, rIc⟩ := RowsAre.row RC.out hlt
                    obtain ⟨sc, hsc⟩ : ∃ s, rd_T24 cr (j : Int) = s := ⟨_, rfl⟩
                    rw [hsc] at q0c q1c hmc hCc r0c rIc
                    obtain ⟨fc, wsc⟩ := sc
                    simp only at q0c q1c hmc hCc r0c rIc
                    subst r0c
                    obtain ⟨adw, Aw, cw, ew, q0w, q1w, hmw, hCw⟩ := at_T24 (Kd.C_below Hw.out HZ.out) (j : Int) (by omega) (by first | omega | (rw [RW.out.1]; omega))
                    subst ew
                    simp only [Int.toNat_natCast] at q0w q1w
                    obtain ⟨r0w, rIw⟩ := RowsAre.row RW.out hlt
                    obtain ⟨sw, hsw⟩ : ∃ s, rd_T24 wr_ (j : Int) = s := ⟨_, rfl⟩
                    rw [hsw] at q0w q1w hmw hCw r0w rIw
                    obtain ⟨fw, wsw⟩ := sw
                    simp only at q0w q1w hmw hCw r0w rIw
                    subst r0w
                    obtain ⟨kv, hV0⟩ := subset_rows HN.out rIc rIw (fun e he h => way_mono (fun a b _ _ hab => by rw [hab]; rfl) (Nat.le_refl _) hlt he h)
                    have HSub := Aside0.mk (hV0 kv (Nat.le_refl _)); dsimp only at HSub; clear hV0
                    have Hcc := Aside0.mk hCc; have Hww := Aside0.mk hCw; clear hCc hCw
                    have hd : decide (j < l0.length) = true := decide_eq_true hlt
                    have hjc : j < cr.length := by rw [RC.out.1]; exact hlt
                    have hjw : j < wr_.length := by rw [RW.out.1]; exact hlt
                    have qKA20 := (blk_cell KA2.out 0).trans rfl; have qKA21 := (blk_cell KA2.out 1).trans rfl
                    gi_wp2_with fail
                    clear qKA20 qKA21
                    have nHZ_ := Aside0.mk (below_drew1 HZ.out)
                    have nHcc_ := Aside0.mk (Kd.C_drew Hcc.out)
                    have nHww_ := Aside0.mk (Kd.C_drew Hww.out)
                    clear HZ Hcc Hww
                    have HZ := nHZ_; have Hcc := nHcc_; have Hww := nHww_
                    clear nHZ_ nHcc_ nHww_
                    refine wpIn_wide.2 ?_
                    refine start_ (n := 12) (S := fun w' => w'.cell? ⟨w2.heap.size, 1, none⟩ = some (.slice (some adc) cr.length cHc) ∧ w'.cell? (adc.add (j * 2)) = some (.int .i64 l0.length) ∧ w'.cell? ⟨(adc.add (j * 2)).block, (adc.add (j * 2)).off + 1, none⟩ = some (.slice Ac wsc.length cc) ∧ w'.cell? ⟨w14.heap.size, 1, none⟩ = some (.slice (some adw) wr_.length cHw) ∧ w'.cell? (adw.add (j * 2)) = some (.int .i64 l0.length) ∧ w'.cell? ⟨(adw.add (j * 2)).block, (adw.add (j * 2)).off + 1, none⟩ = some (.slice Aw wsw.length cw)) (ds := []) #[false, false, false, false, false, false, false, false, false, false, false, false] (by kernel_rfl) (by kernel_rfl) rfl ⟨(blk_cell KC2.out 1).trans rfl, q0c, q1c, (blk_cell KW2.out 1).trans rfl, q0w, q1w⟩ (fun hHeld => ?_)
                    clear q0c q1c q0w q1w KA2 KC2 KW2
                    generalize wr3.drew = W4 at HZ Hcc Hww hHeld ⊢
                    refine pure_ (i := 0) (N := some 205) (v := ?_) (a' := ?_) #[true, false, false, false, false, false, false, false, false, false, false, false] rfl rfl (by kernel_rfl) (fun _ _ _ h => h) (Or.inl ⟨by rfl, ?_⟩) ?_ ?_
                    rotate_left
                    · intro w'
                      go_simp
                      with_reducible rfl
                    rotate_left
                    · simp only [Act.put, List.setIfInBounds_toArray, List.set_cons_zero, List.set_cons_succ, i64_w, i32_w]
                      rfl
                    refine pure_ (i := 2) (N := some 207) (v := ?_) (a' := ?_) #[true, false, true, false, false, false, false, false, false, false, false, false] rfl rfl (by kernel_rfl) (fun _ _ _ h => h) (Or.inl ⟨by rfl, ?_⟩) ?_ ?_
                    rotate_left
                    · intro w'
                      go_simp
                      with_reducible rfl
                    rotate_left
                    · simp only [Act.put, List.setIfInBounds_toArray, List.set_cons_zero, List.set_cons_succ, i64_w, i32_w]
                      rfl
                    refine pure_ (i := 5) (N := some 210) (v := ?_) (a' := ?_) #[true, false, true, false, false, true, false, false, false, false, false, false] rfl rfl (by kernel_rfl) (fun _ _ _ h => h) (Or.inl ⟨by rfl, ?_⟩) ?_ ?_
                    rotate_left
                    · intro w'
                      go_simp
                      with_reducible rfl
                    rotate_left
                    · simp only [Act.put, List.setIfInBounds_toArray, List.set_cons_zero, List.set_cons_succ, i64_w, i32_w]
                      rfl
                    refine pure_ (i := 7) (N := some 212) (v := ?_) (a' := ?_) #[true, false, true, false, false, true, false, true, false, false, false, false] rfl rfl (by kernel_rfl) (fun _ _ _ h => h) (Or.inl ⟨by rfl, ?_⟩) ?_ ?_
                    rotate_left
                    · intro w'
                      go_simp
                      with_reducible rfl
                    rotate_left
                    · simp only [Act.put, List.setIfInBounds_toArray, List.set_cons_zero, List.set_cons_succ, i64_w, i32_w]
                      rfl
                    refine take_ (i := 1) (N := some 206) (v := ?_) (a' := ?_) #[true, true, true, false, false, true, false, true, false, false, false, false] rfl rfl (by kernel_rfl) (fun _ _ _ h => h) (Or.inl ⟨by rfl, ?_⟩) hHeld ?_ ?_
                    rotate_left
                    · rintro w' ⟨s0, s1, s2, s3, s4, s5⟩
                      go_simp
                      with_reducible rfl
                    rotate_left
                    · simp only [Act.put, List.setIfInBounds_toArray, List.set_cons_zero, List.set_cons_succ, i64_w, i32_w]
                      rfl
                    refine pure_ (i := 3) (N := some 208) (v := ?_) (a' := ?_) #[true, true, true, true, false, true, false, true, false, false, false, false] rfl rfl (by kernel_rfl) (fun _ _ _ h => h) (Or.inl ⟨by rfl, ?_⟩) ?_ ?_
                    rotate_left
                    · intro w'
                      go_simp
                      with_reducible rfl
                    rotate_left
                    · simp only [Act.put, List.setIfInBounds_toArray, List.set_cons_zero, List.set_cons_succ, i64_w, i32_w]
                      rfl
                    refine take_ (i := 4) (N := some 209) (v := ?_) (a' := ?_) #[true, true, true, true, true, true, false, true, false, false, false, false] rfl rfl (by kernel_rfl) (fun _ _ _ h => h) (Or.inl ⟨by rfl, ?_⟩) hHeld ?_ ?_
                    rotate_left
                    · rintro w' ⟨s0, s1, s2, s3, s4, s5⟩
                      go_simp
                      with_reducible rfl
                    rotate_left
                    · simp only [Act.put, List.setIfInBounds_toArray, List.set_cons_zero, List.set_cons_succ, i64_w, i32_w]
                      rfl
                    refine take_ (i := 6) (N := some 211) (v := ?_) (a' := ?_) #[true, true, true, true, true, true, true, true, false, false, false, false] rfl rfl (by kernel_rfl) (fun _ _ _ h => h) (Or.inl ⟨by rfl, ?_⟩) hHeld ?_ ?_
                    rotate_left
                    · rintro w' ⟨s0, s1, s2, s3, s4, s5⟩
                      go_simp
                      with_reducible rfl
                    rotate_left
                    · simp only [Act.put, List.setIfInBounds_toArray, List.set_cons_zero, List.set_cons_succ, i64_w, i32_w]
                      rfl
                    refine pure_ (i := 8) (N := some 213) (v := ?_) (a' := ?_) #[true, true, true, true, true, true, true, true, true, false, false, false] rfl rfl (by kernel_rfl) (fun _ _ _ h => h) (Or.inl ⟨by rfl, ?_⟩) ?_ ?_
                    rotate_left
                    · intro w'
                      go_simp
                      with_reducible rfl
                    rotate_left
                    · simp only [Act.put, List.setIfInBounds_toArray, List.set_cons_zero, List.set_cons_succ, i64_w, i32_w]
                      rfl
                    refine take_ (i := 9) (N := some 214) (v := ?_) (a' := ?_) #[true, true, true, true, true, true, true, true, true, true, false, false] rfl rfl (by kernel_rfl) (fun _ _ _ h => h) (Or.inl ⟨by rfl, ?_⟩) hHeld ?_ ?_
                    rotate_left
                    · rintro w' ⟨s0, s1, s2, s3, s4, s5⟩
                      go_simp
                      with_reducible rfl
                    rotate_left
                    · simp only [Act.put, List.setIfInBounds_toArray, List.set_cons_zero, List.set_cons_succ, i64_w, i32_w]
                      rfl
                    refine one_ (i := 10) (N := some 215) #[true, true, true, true, true, true, true, true, true, true, true, false] rfl rfl (by kernel_rfl) (by decide) (fun K hK => ?_)
                    refine goes_ Tryd.func59 (by kernel_rfl) rfl #[.agg #[.int .i64 l0.length, .slice Ac wsc.length cc], .agg #[.int .i64 l0.length, .slice Aw wsw.length cw]] (by rfl) rfl rfl (by (try simp only [List.map_toArray, List.map_cons, List.map_nil]); first | done | rfl) ?_
                    refine (bitset_Subset.calls kv l0.length _ _ wsc l0.length _ _ wsw true _ Hcc.out hmc Hww.out hmw HSub.out).mono ?_
                    rintro e W5 ⟨rfl, hb⟩
                    refine ⟨_, rfl, ?_⟩
                    have nHZ_ := Aside0.mk (below_step HZ.out hb)
                    have nHcc_ := Aside0.mk (Kd.C_below Hcc.out hb)
                    have nHww_ := Aside0.mk (Kd.C_below Hww.out hb)
                    clear HZ Hcc Hww
                    have HZ := nHZ_; have Hcc := nHcc_; have Hww := nHww_
                    clear nHZ_ nHcc_ nHww_
                    refine hK.out _ _ ⟨(hb.cell (World.block_lt_of_cell? _ _ hHeld.1)).trans hHeld.1, (hb.cell (World.block_lt_of_cell? _ _ hHeld.2.1)).trans hHeld.2.1, (hb.cell (World.block_lt_of_cell? _ _ hHeld.2.2.1)).trans hHeld.2.2.1, (hb.cell (World.block_lt_of_cell? _ _ hHeld.2.2.2.1)).trans hHeld.2.2.2.1, (hb.cell (World.block_lt_of_cell? _ _ hHeld.2.2.2.2.1)).trans hHeld.2.2.2.2.1, (hb.cell (World.block_lt_of_cell? _ _ hHeld.2.2.2.2.2)).trans hHeld.2.2.2.2.2⟩ (fun hHeld => ?_)
                    clear hK K hb
                    refine norm_ (a' := ?_) ?_ ?_
                    rotate_left
                    · show Act.put _ (some 215) _ = _
                      simp only [Act.put, List.setIfInBounds_toArray, List.set_cons_zero, List.set_cons_succ, i64_w, i32_w]
                      rfl
                    refine pure_ (i := 11) (N := some 216) (v := ?_) (a' := ?_) #[true, true, true, true, true, true, true, true, true, true, true, true] rfl rfl (by kernel_rfl) (fun _ _ _ h => h) (Or.inl ⟨by rfl, ?_⟩) ?_ ?_
                    rotate_left
                    · intro w'
                      go_simp
                      with_reducible rfl
                    rotate_left
                    · simp only [Act.put, List.setIfInBounds_toArray, List.set_cons_zero, List.set_cons_succ, i64_w, i32_w]
                      rfl
                    refine done_ (by kernel_rfl) ?_
                    gi_wp2_with fail
                    rw [show ((j : Int) + 1) = ((j + 1 : Nat) : Int) from by omega]
                    refine ⟨⟨j + 1, _, _, _, _, _, _, _, _, _, _, _, _, _, _, _, _, _, _, rfl, ⟨hlt⟩, HZ⟩, ?_⟩
                    show l0.length - (intOf (.int .i64 ((j + 1 : Nat) : Int))).toNat < l0.length - (intOf (.int .i64 (j : Int))).toNat
                    simp only [intOf, Int.toNat_natCast]
                    omega
                  · skip
                    have hje : j = l0.length := by have := hj.out; omega
                    subst hje
                    have hd : decide (l0.length < l0.length) = false := by simp
                    have hB2 := Aside0.mk (below_step HB.out HZ.out); clear HB; have HB := hB2
                    have qKA20 := (blk_cell KA2.out 0).trans rfl; have qKA21 := (blk_cell KA2.out 1).trans rfl
                    obtain ⟨kc, hc0_⟩ := chain_ev x2 x3
                    have HCH := Aside0.mk (hc0_ kc (Nat.le_refl _)); dsimp only at HCH; clear hc0_
                    gi_wp2_with fail
                    refine ⟨trivial, ?_⟩; gi_at_call 60
                    refine (callsIn_wide.2 (slopelaw3_chain.calls kc x2 x3 true _ HCH.out)).mono ?_
                    rintro e wf ⟨rfl, hb⟩
                    have hBf := below_step HB.out hb
                    gi_wp2_with fail
                    refine bodyPost_ret (v := .bool true) ?_ rfl ⟨rfl, hBf⟩
                    simp [results, Tryd.f10, go_sem]
          · skip
            have hd2 : ((lb.length : Int) == (l0.length : Int)) = false := beq_eq_false_iff_ne.2 (by omega)
            clear hln
            obtain ⟨kc, hc0_⟩ := chain_ev x2 x3
            have HCH := Aside0.mk (hc0_ kc (Nat.le_refl _)); dsimp only at HCH; clear hc0_
            gi_wp2_with fail
            refine ⟨trivial, ?_⟩; gi_at_call 60
            refine (callsIn_wide.2 (slopelaw3_chain.calls kc x2 x3 true _ HCH.out)).mono ?_
            rintro e wf ⟨rfl, hb⟩
            have hBf := below_step HB.out hb
            gi_wp2_with fail
            refine bodyPost_ret (v := .bool true) ?_ rfl ⟨rfl, hBf⟩
            simp [results, Tryd.f10, go_sem]
        · skip
          have hd : (m == (l0.length : Int)) = false := beq_eq_false_iff_ne.2 hmn
          clear hmn
          obtain ⟨kc, hc0_⟩ := chain_ev x2 x3
          have HCH := Aside0.mk (hc0_ kc (Nat.le_refl _)); dsimp only at HCH; clear hc0_
          gi_wp2_with fail
          refine ⟨trivial, ?_⟩; gi_at_call 60
          refine (callsIn_wide.2 (slopelaw3_chain.calls kc x2 x3 true _ HCH.out)).mono ?_
          rintro e wf ⟨rfl, hb⟩
          have hBf := below_step HB.out hb
          gi_wp2_with fail
          refine bodyPost_ret (v := .bool true) ?_ rfl ⟨rfl, hBf⟩
          simp [results, Tryd.f10, go_sem]
end Go.Proofs.YtjmkhdhffmlhiaaDoor.PAll
end
section
namespace Go.Proofs.YtjmkhdhffmlhiaaDoor.PAll
set_option linter.unusedVariables false
set_option linter.unusedSimpArgs false
open Go.RowKit Go.Shelf Go.Proofs.YtjmkhdhffmlhiaaDoorW.PrintWords Go.Proofs.YtjmkhdhffmlhiaaDoorW.PrintLast Go.Proofs.YtjmkhdhffmlhiaaDoorW.PrintMore
attribute [local go_sem] Oper.semAt_some
set_option maxHeartbeats 8000000 in
set_option maxRecDepth 100000 in
theorem BitClosed_out (k0 k1 k2 : Nat) (n0 m : Int) (A0 : Option Addr) (c0 : Nat) (l0 : List S24) (B0 : Option Addr) (d0 : Nat) (lb : List S24) (x2 x3 : Int) (w : World) (hr0 : Kd.C k24 w A0 l0.length l0) (hc0 : l0.length ≤ c0)
    (r0 er : Int) (cr : List S24) (bm : Bool) (he : (er != 0) = true) (hd0 : bm = true → (n0 != (l0.length : Int)) = true)
    (h0 : slopelaw3_alive.f k0 = some true) (h1 : bitset_Closure.f k1 n0 l0 = some (r0, cr, er)) (h2 : sloperef3_MayTable.f k2 n0 l0 = some bm) :
    Calls Tryd.prog 10 #[.agg #[.int .i64 n0, .slice A0 l0.length c0], .agg #[.int .i64 m, .slice B0 lb.length d0], .int .i64 x2, .int .i64 x3] w fun e w' => e = .returned (.bool true) ∧ Below w.heap.size w w' := by
  have hu24 := Tryd.underlying24
  have hu56 := Tryd.underlying56
  have HC := Aside0.mk hr0
  have H0 := Aside0.mk h0; have H1 := Aside0.mk h1; have H2 := Aside0.mk h2; have HE := Aside0.mk he; have HD := Aside0.mk hd0
  clear hr0 h0 h1 h2 he hd0
  obtain ⟨o1, ho1⟩ : ∃ o1 : Obj, o1 = .cells #[.int .i64 n0, .slice A0 l0.length c0] 56 (0, 0) := ⟨_, rfl⟩
  obtain ⟨o2, ho2⟩ : ∃ o2 : Obj, o2 = .cells #[.int .i64 m, .slice B0 lb.length d0] 56 (0, 0) := ⟨_, rfl⟩
  have K0 : ((w.alloc o1).alloc o2).heap[w.heap.size]? = some o1 := blk_alloc (blk_new w o1) _
  have HB0 : Below w.heap.size w ((w.alloc o1).alloc o2) := below_alloc (below_alloc (Below.refl _ _) _) _
  rw [ho1, ho2] at K0 HB0
  clear ho1 ho2 o1 o2
  have KA := Aside0.mk K0
  have HB := Aside0.mk HB0
  clear K0 HB0
  refine (callsIn_wide (n := 6)).1 ?_
  refine callsIn_of_wp Tryd.func10 rfl trivial ?_ rfl
  simp only [Tryd.ntmps10, List.size_toArray, List.length_cons, List.length_nil, Nat.reduceAdd, Nat.reduceSub, Array.replicate_succ, Array.replicate_zero, List.push_toArray, List.append_toArray, List.nil_append, List.cons_append]
  gi_wp2_with fail
  refine ⟨trivial, ?_⟩; gi_at_call 31
  refine (callsIn_wide.2 (slopelaw3_alive.calls k0 true _ H0.out)).mono ?_
  rintro e w1 ⟨rfl, hb⟩
  have nKA_ := Aside0.mk (blk_below KA.out hb)
  have nHB_ := Aside0.mk (below_step HB.out hb)
  clear KA HB
  have KA := nKA_; have HB := nHB_
  clear nKA_ nHB_
  clear hb
  have qKA0 := (blk_cell KA.out 0).trans rfl; have qKA1 := (blk_cell KA.out 1).trans rfl
  gi_wp2_with fail
  refine ⟨trivial, ?_⟩; gi_at_call 56
  refine (callsIn_wide.2 (bitset_Closure.calls k1 n0 _ _ l0 _ _ _ _ (Kd.C_below HC.out HB.out) hc0 H1.out)).mono ?_
  rintro e w2 ⟨vt, rfl, ho, hb⟩
  clear qKA0 qKA1
  obtain ⟨AHc, cHc, et⟩ := Kd.S_slice ho
  subst et
  have lHc := Aside0.mk (Kd.S_reads' ho).2.1; have mHc := Aside0.mk (Kd.S_reads' ho).2.2
  clear ho
  have nKA_ := Aside0.mk (blk_below KA.out hb)
  have nHB_ := Aside0.mk (below_step HB.out hb)
  clear KA HB
  have KA := nKA_; have HB := nHB_
  clear nKA_ nHB_
  have Hc := mHc; clear mHc
  have xKC := Aside0.mk (blk_new w2 (.cells #[.int .i64 r0, .slice AHc cr.length cHc] 56 (0, 0)))
  clear hb
  have nKA_ := Aside0.mk (blk_alloc KA.out (.cells #[.int .i64 r0, .slice AHc cr.length cHc] 56 (0, 0)))
  have nHB_ := Aside0.mk (below_alloc HB.out (.cells #[.int .i64 r0, .slice AHc cr.length cHc] 56 (0, 0)))
  have nHc_ := Aside0.mk (Kd.C_alloc Hc.out (.cells #[.int .i64 r0, .slice AHc cr.length cHc] 56 (0, 0)))
  clear KA HB Hc
  have KA := nKA_; have HB := nHB_; have Hc := nHc_
  clear nKA_ nHB_ nHc_
  have KC := xKC; clear xKC
  have qKA0 := (blk_cell KA.out 0).trans rfl; have qKA1 := (blk_cell KA.out 1).trans rfl
  gi_wp2_with fail
  refine ⟨trivial, ?_⟩; gi_at_call 43
  refine (callsIn_wide.2 (sloperef3_MayTable.calls k2 n0 _ _ l0 _ _ (Kd.C_below HC.out HB.out) hc0 H2.out)).mono ?_
  rintro e w3 ⟨rfl, hb⟩
  clear qKA0 qKA1
  have nKA_ := Aside0.mk (blk_below KA.out hb)
  have nHB_ := Aside0.mk (below_step HB.out hb)
  have nHc_ := Aside0.mk (Kd.C_below Hc.out hb)
  have nKC_ := Aside0.mk (blk_below KC.out hb)
  clear KA HB Hc KC
  have KA := nKA_; have HB := nHB_; have Hc := nHc_; have KC := nKC_
  clear nKA_ nHB_ nHc_ nKC_
  clear hb
  have qKA0 := (blk_cell KA.out 0).trans rfl; have qKA1 := (blk_cell KA.out 1).trans rfl
  cases bm with
  | false =>
    gi_wp2_with fail
    refine ⟨trivial, ?_⟩; gi_at_call 21
    refine (callsIn_wide.2 (slopelaw3_num.calls er er _ rfl)).mono ?_
    rintro e w4 ⟨rfl, hd_⟩
    have hBf := below_step HB.out hd_.below
    have he := HE.out
    gi_wp2_with fail
    refine bodyPost_ret (v := .bool true) ?_ rfl ⟨rfl, hBf⟩
    simp [results, Tryd.f10, go_sem]
  | true =>
    have hd : (n0 != (l0.length : Int)) = true := HD.out rfl
    gi_wp2_with fail
    refine ⟨trivial, ?_⟩; gi_at_call 21
    refine (callsIn_wide.2 (slopelaw3_num.calls er er _ rfl)).mono ?_
    rintro e w4 ⟨rfl, hd_⟩
    have hBf := below_step HB.out hd_.below
    have he := HE.out
    gi_wp2_with fail
    refine bodyPost_ret (v := .bool true) ?_ rfl ⟨rfl, hBf⟩
    simp [results, Tryd.f10, go_sem]
theorem BitClosed_calls (n0 m : Int) (A0 : Option Addr) (c0 : Nat) (l0 : List S24) (B0 : Option Addr) (d0 : Nat) (lb : List S24) (x2 x3 : Int) (w : World) (hr0 : Kd.C k24 w A0 l0.length l0) (hc0 : l0.length ≤ c0) (hr1 : Kd.C k24 w B0 lb.length lb) (hc1 : lb.length ≤ d0) (hG : Tz w)
    (hl0 : l0.length ≤ 9223372036854775807) (hg0 : Goods l0) (hl1 : lb.length ≤ 9223372036854775807) (hg1 : Goods lb) :
    Calls Tryd.prog 10 #[.agg #[.int .i64 n0, .slice A0 l0.length c0], .agg #[.int .i64 m, .slice B0 lb.length d0], .int .i64 x2, .int .i64 x3] w fun e w' => e = .returned (.bool true) ∧ Below w.heap.size w w' := by
  obtain ⟨K0, h0⟩ := alive_ev
  obtain ⟨K1, h1⟩ := rMayTable_eq n0 l0 hl0 hg0
  by_cases hT : TabP n0 l0
  · by_cases hn : n0 = (l0.length : Int)
    · subst hn
      have hN : l0.length ≤ 4096 := hT.2.2.1
      have ht : RowsAre l0.length l0.length (fun x j => hb (l0.getD x ⟨0, []⟩).f1 j) l0 := by have := RowsAre.of hT hg0; rwa [Int.toNat_natCast] at this
      obtain ⟨cr, hc, K2, h2⟩ := Closure_rows hN ht
      obtain ⟨pr, hp, K3, h3⟩ := Product_rows hN hN hN ht hc
      obtain ⟨qr, hq, K4, h4⟩ := Product_rows hN hN hN hc hc
      obtain ⟨dr, hd, K5, h5⟩ := Closure_rows hN hc
      have e : dr = cr := hd.eq hc fun x hx y hy => way_twice hx hy
      subst e
      obtain ⟨K6, h6⟩ := hc.same hN hN (l0.length : Int)
      obtain ⟨K7, h7⟩ := rMayTable_eq m lb hl1 hg1
      have y1 := h1 K1 (Nat.le_refl _)
      dsimp only at y1
      rw [tabp_true.2 hT] at y1
      refine BitClosed_walk K0 K2 K1 K3 K4 K5 K6 m A0 c0 l0 B0 d0 lb x2 x3 w hr0 hc0 hr1 hc1 hG _ hN ht _ pr qr hc hp hq (h0 K0 (Nat.le_refl _)) (h2 K2 (Nat.le_refl _)) y1 (h3 K3 (Nat.le_refl _)) (h4 K4 (Nat.le_refl _)) (h5 K5 (Nat.le_refl _)) (h6 K6 (Nat.le_refl _)) K7 _ (h7 K7 (Nat.le_refl _)) (fun x j => hb (lb.getD x ⟨0, []⟩).f1 j) (fun hb1 hm hlb => ?_)
      have := RowsAre.of (tabp_true.1 hb1) hg1
      rw [hlb, hm, Int.toNat_natCast] at this
      exact this
    · obtain ⟨K2, h2⟩ := Closure_far hT hg0 hl0 hn
      exact BitClosed_out K0 K2 K1 n0 m A0 c0 l0 B0 d0 lb x2 x3 w hr0 hc0 _ _ _ _ rfl (fun _ => bne_iff_ne.2 hn) (h0 K0 (Nat.le_refl _)) (h2 K2 (Nat.le_refl _)) (h1 K1 (Nat.le_refl _))
  · obtain ⟨K2, h2⟩ := Closure_none hg0 hl0 hT
    exact BitClosed_out K0 K2 K1 n0 m A0 c0 l0 B0 d0 lb x2 x3 w hr0 hc0 _ _ _ _ rfl (fun h => absurd (tabp_true.1 h) hT) (h0 K0 (Nat.le_refl _)) (h2 K2 (Nat.le_refl _)) (h1 K1 (Nat.le_refl _))
end Go.Proofs.YtjmkhdhffmlhiaaDoor.PAll
end
