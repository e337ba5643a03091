import Derived.Test.YtjmkhdhffmlhiaaDoorBzBitTurned3
import Derived.Test.YtjmkhdhffmlhiaaDoorBzBitTurned2
section
namespace Go.Proofs.YtjmkhdhffmlhiaaDoor.PAll
set_option linter.unusedVariables false
set_option linter.unusedSimpArgs false
open Go.RowKit Go.Shelf Go.Proofs.YtjmkhdhffmlhiaaDoorW.PrintWords Go.Proofs.YtjmkhdhffmlhiaaDoorW.PrintLast Go.Proofs.YtjmkhdhffmlhiaaDoorW.PrintMore
attribute [local go_sem] Oper.semAt_some
set_option maxHeartbeats 8000000 in
set_option maxRecDepth 100000 in
theorem Product_yes (k : Nat) (n m : Nat) (A0 : Option Addr) (c0 : Nat) (l0 : List S24) (B0 : Option Addr) (d0 : Nat) (lb rows : List S24) (w : World) (hr0 : Kd.C k24 w A0 l0.length l0) (hc0 : l0.length ≤ c0) (hr1 : Kd.C k24 w B0 lb.length lb) (hc1 : lb.length ≤ d0) (hG : Tz w) (hT : TabP (n : Int) l0) (hg : Goods l0) (hTb : TabP (m : Int) lb) (hnb : n = lb.length)
    (hM : bitset_MayTable.f k (n : Int) l0 = some true) (hMb : bitset_MayTable.f k (m : Int) lb = some true) (hBl : bitset_blanks.f k (m : Int) (l0.length : Int) = some ((m : Int), rows)) (hRk : Rok l0.length m rows) :
    Calls Tryd.prog 46 #[.agg #[.int .i64 (n : Int), .slice A0 l0.length c0], .agg #[.int .i64 (m : Int), .slice B0 lb.length d0]] w fun e w' => ∃ v : Value, e = .returned (.tuple #[.agg #[.int .i64 (m : Int), v], .int .i64 0]) ∧ Kd.S k24 24 w' w.heap.size (fun _ => True) v (prodA lb 0 l0 rows) ∧ Below w.heap.size w w' := by
  subst hnb
  have hu24 := Tryd.underlying24
  have hu56 := Tryd.underlying56
  have HC := Aside0.mk hr0
  have HD := Aside0.mk hr1
  have HG := Aside0.mk hG
  have HM := Aside0.mk hM
  have HMb := Aside0.mk hMb
  have HBl := Aside0.mk hBl
  clear hr0 hr1 hG hM hMb hBl
  obtain ⟨o1, ho1⟩ : ∃ o1 : Obj, o1 = .cells #[.int .i64 lb.length, .slice A0 l0.length c0] 56 (0, 0) := ⟨_, rfl⟩
  obtain ⟨o2, ho2⟩ : ∃ o2 : Obj, o2 = .cells #[.int .i64 m, .slice B0 lb.length d0] 56 (0, 0) := ⟨_, rfl⟩
  obtain ⟨o3, ho3⟩ : ∃ o3 : Obj, o3 = .cells #[.int .i64 0, .slice none 0 0] 56 (0, 0) := ⟨_, rfl⟩
  have K0 : (((w.alloc o1).alloc o2).alloc o3).heap[w.heap.size]? = some o1 := blk_alloc (blk_alloc (blk_new w o1) _) _
  have K1 : (((w.alloc o1).alloc o2).alloc o3).heap[w.heap.size + 1]? = some o2 := by have := blk_alloc (blk_new (w.alloc o1) o2) o3; rwa [World.size_alloc] at this
  have K2 : (((w.alloc o1).alloc o2).alloc o3).heap[w.heap.size + 1 + 1]? = some o3 := by have := blk_new ((w.alloc o1).alloc o2) o3; rwa [World.size_alloc, World.size_alloc] at this
  have HB0 : Below w.heap.size w (((w.alloc o1).alloc o2).alloc o3) := below_alloc (below_alloc (below_alloc (Below.refl _ _) _) _) _
  rw [ho1, ho2, ho3] at K0 K1 K2 HB0
  clear ho1 ho2 ho3 o1 o2 o3
  have KA := Aside0.mk K0
  have KB := Aside0.mk K1
  have KD := Aside0.mk K2
  have HB := Aside0.mk HB0
  have HS0 := Aside0.mk (below_size HB0)
  have hs3 : w.heap.size + 3 ≤ ((((w.alloc (.cells #[.int .i64 lb.length, .slice A0 l0.length c0] 56 (0, 0))).alloc (.cells #[.int .i64 m, .slice B0 lb.length d0] 56 (0, 0))).alloc (.cells #[.int .i64 0, .slice none 0 0] 56 (0, 0)))).heap.size := by rw [World.size_alloc, World.size_alloc, World.size_alloc]; omega
  have HS3 := Aside0.mk hs3
  clear K0 K1 K2 HB0 hs3
  refine (callsIn_wide (n := 6)).1 ?_
  refine callsIn_of_wp_marks Tryd.func46 rfl trivial ?_ rfl
  simp only [Tryd.ntmps46, List.size_toArray, List.length_cons, List.length_nil, Nat.reduceAdd, Nat.reduceSub, Array.replicate_succ, Array.replicate_zero, List.push_toArray, List.append_toArray, List.nil_append, List.cons_append]
  have q0 := (blk_cell KB.out 0).trans rfl
  have q1 := (blk_cell KB.out 1).trans rfl
  gi_wp2_with fail
  refine ⟨trivial, ?_⟩; gi_at_call 85
  refine (callsIn_wide.2 (bitset_MayTable.calls k lb.length _ _ l0 true _ (Kd.C_alloc (Kd.C_alloc (Kd.C_alloc HC.out _) _) _) hc0 HM.out)).mono ?_
  rintro e w0 ⟨rfl, hb⟩
  have n0_ := Aside0.mk (blk_below KA.out hb); have n1_ := Aside0.mk (blk_below KB.out hb); have n2_ := Aside0.mk (blk_below KD.out hb); have n3_ := Aside0.mk (below_step HB.out hb); have n4_ := Aside0.mk (Nat.le_trans HS3.out (below_size hb))
  clear KA KB KD HB hb q0 q1 HS3
  have KA := n0_; have KB := n1_; have KD := n2_; have HB := n3_; have HS3 := n4_
  clear n0_ n1_ n2_ n3_ n4_
  have q0 := (blk_cell KB.out 0).trans rfl; have q1 := (blk_cell KB.out 1).trans rfl
  gi_wp2_with fail
  refine ⟨trivial, ?_⟩; gi_at_call 85
  refine (callsIn_wide.2 (bitset_MayTable.calls k m _ _ lb true _ (Kd.C_below HD.out HB.out) hc1 HMb.out)).mono ?_
  rintro e w1 ⟨rfl, hb⟩
  have n0_ := Aside0.mk (blk_below KA.out hb); have n1_ := Aside0.mk (blk_below KB.out hb); have n2_ := Aside0.mk (blk_below KD.out hb); have n3_ := Aside0.mk (below_step HB.out hb); have n4_ := Aside0.mk (Nat.le_trans HS3.out (below_size hb))
  clear KA KB KD HB hb q0 q1 HS3
  have KA := n0_; have KB := n1_; have KD := n2_; have HB := n3_; have HS3 := n4_
  clear n0_ n1_ n2_ n3_ n4_
  have q0 := (blk_cell KB.out 0).trans rfl; have q1 := (blk_cell KB.out 1).trans rfl
  have q2 := (blk_cell KA.out 0).trans rfl; have q3 := (blk_cell KA.out 1).trans rfl
  gi_wp2_with (first
    | (refine ⟨trivial, ?_⟩; gi_at_call 86; refine (callsIn_wide.2 (bitset_blanks.calls k m l0.length m rows _ HBl.out)).mono ?_; rintro e w2 ⟨vt, rfl, ho, hb⟩
       obtain ⟨At, ct, et⟩ := Kd.S_slice ho
       subst et
       have n0_ := Aside0.mk (blk_below KA.out hb); have n1_ := Aside0.mk (blk_below KB.out hb); have n2_ := Aside0.mk (blk_below KD.out hb); have n3_ := Aside0.mk (below_step HB.out hb); have HT := Aside0.mk (Kd.S_lower (Kd.S_mono (Kd.S_bound ho) (fun k_ hk_ => show w1.heap.size ≤ k_ ∧ k_ < w2.heap.size from ⟨hk_.2.1, hk_.2.2.1⟩)) (below_size HB.out))
       have HS2 := Aside0.mk (below_size hb)
       clear KA KB KD HB hb ho q0 q1 q2 q3
       have KA := n0_; have KB := n1_; have KD := n2_; have HB := n3_
       clear n0_ n1_ n2_ n3_
       have q0 := (blk_cell (blk_alloc KA.out (.cells #[.int .i64 m, .slice At rows.length ct] 56 (0, 0))) 0).trans rfl; have q1 := (blk_cell (blk_alloc KA.out (.cells #[.int .i64 m, .slice At rows.length ct] 56 (0, 0))) 1).trans rfl))
  refine wpIn_loop (fun a W => ∃ (j : Nat) (rk : List S24) (ds : List Deferred) (u7 u8 u36 u37 u38 u39 u40 u41 u57 : Value), a = { tmps := #[.agg #[.int .i64 lb.length, .slice A0 l0.length c0], .agg #[.int .i64 m, .slice B0 lb.length d0], .pointer (some ⟨w.heap.size, 0, none⟩), .pointer (some ⟨w.heap.size + 1, 0, none⟩), .pointer (some ⟨w.heap.size + 1 + 1, 0, none⟩), .int .i64 0, .pointer (some ⟨w2.heap.size, 0, none⟩), u7, u8, undef, .agg #[.int .i64 lb.length, .slice A0 l0.length c0], .bool true, .bool false, .bool false, .agg #[.int .i64 m, .slice B0 lb.length d0], .bool true, .bool false, .bool false, undef, .pointer (some ⟨w.heap.size, 0, none⟩), .int .i64 lb.length, .pointer (some ⟨w.heap.size + 1, 1, none⟩), .slice B0 lb.length d0, .int .i64 lb.length, .bool false, undef, .pointer (some ⟨w.heap.size + 1, 0, none⟩), .int .i64 m, .pointer (some ⟨w.heap.size, 1, none⟩), .slice A0 l0.length c0, .int .i64 l0.length, .agg #[.int .i64 m, .slice At rows.length ct], .pointer (some ⟨w.heap.size, 1, none⟩), .slice A0 l0.length c0, .int .i64 l0.length, .int .i64 j, u36, u37, u38, u39, u40, u41, undef, undef, undef, undef, undef, undef, undef, undef, undef, undef, undef, undef, undef, undef, undef, u57, undef], defers := ds } ∧ Aside0 (j ≤ l0.length) ∧ Aside0 (prodA lb j (l0.drop j) rk = prodA lb 0 l0 rows) ∧ Aside0 (Rok l0.length m rk) ∧ Aside0 (Marks w2.heap.size W ds) ∧
      Aside0 (W.heap[w.heap.size]? = some (.cells #[.int .i64 lb.length, .slice A0 l0.length c0] 56 (0, 0))) ∧ Aside0 (W.heap[w.heap.size + 1]? = some (.cells #[.int .i64 m, .slice B0 lb.length d0] 56 (0, 0))) ∧ Aside0 (W.heap[w.heap.size + 1 + 1]? = some (.cells #[.int .i64 0, .slice none 0 0] 56 (0, 0))) ∧ Aside0 (W.heap[w2.heap.size]? = some (.cells #[.int .i64 m, .slice At rows.length ct] 56 (0, 0))) ∧
      Aside0 (Kd.S k24 24 W w.heap.size (fun k_ => w1.heap.size ≤ k_ ∧ k_ < w2.heap.size) (.slice At rows.length ct) rk) ∧ Aside0 (Below w.heap.size w W))
    (fun a _ => l0.length - (intOf (a.tmps.getD 35 undef)).toNat) ?start ?round
  case start =>
    exact ⟨0, rows, [], undef, undef, undef, undef, undef, undef, undef, undef, undef, rfl, ⟨Nat.zero_le _⟩, ⟨rfl⟩, ⟨hRk⟩, ⟨Marks.none _ _⟩, ⟨blk_alloc KA.out _⟩, ⟨blk_alloc KB.out _⟩, ⟨blk_alloc KD.out _⟩, ⟨blk_new _ _⟩, ⟨Kd.S_alloc HT.out _⟩, ⟨below_alloc HB.out _⟩⟩
  case round =>
    clear KA KB KD HB HT q0 q1
    rintro a wr ⟨j, rk, ds, u7, u8, u36, u37, u38, u39, u40, u41, u57, rfl, hj, hA, hRj, HMk, KA, KB, KD, KU, HT, HB⟩
    by_cases hlt : j < l0.length
    · obtain ⟨ad, A1, c1, eA, q0, q1, hlc, hC1⟩ := at_T24 (Kd.C_below HC.out HB.out) (j : Int) (by omega) (by omega)
      subst eA
      simp only [Int.toNat_natCast] at q0 q1
      obtain ⟨s, hs⟩ : ∃ s, rd_T24 l0 (j : Int) = s := ⟨_, rfl⟩
      have hsl : s = l0[j] := by rw [← hs, rdT_nat l0 hlt]
      rw [hs] at q0 q1 hlc hC1
      have hsm : MayP (lb.length : Int) s.f1 ∧ s.f0 = (lb.length : Int) := by
        have := hT.2.2.2 _ (List.getElem_mem hlt)
        rw [← hsl] at this
        refine ⟨?_, this.2⟩
        have h2 := this.1; unfold MayS at h2; rwa [this.2] at h2
      have hsg : Wds s.f1 := by have := hg _ (List.getElem_mem hlt); rw [← hsl] at this; exact this.1
      obtain ⟨s0, ws⟩ := s
      obtain rfl : s0 = (lb.length : Int) := hsm.2
      simp only at q0 q1 hlc hC1 hsm hsg
      have hd : decide (j < l0.length) = true := decide_eq_true hlt
      have HC1 := Aside0.mk hC1
      clear hC1
      gi_wp2_with (refine ⟨trivial, ?_⟩; gi_at_call 39; refine (callsIn_wide.2 (All_calls lb.length A1 c1 ws ws _ (Kd.C_alloc (Kd.C_alloc HC1.out _) _) hlc (own_eq hsm.1 hsg))).mono ?_; rintro e w3 ⟨B, Ar, cr, rfl, kb, hle, hR, hb⟩)
      have n0_ := Aside0.mk (blk_below (blk_alloc (blk_alloc KA.out (.cells #[.int .i64 j] 3 (0, 0))) (.cells #[.int .i64 lb.length, .slice A1 ws.length c1] 24 (0, 0))) hb)
      have n7_ := Aside0.mk (blk_below (blk_alloc (blk_alloc KB.out (.cells #[.int .i64 j] 3 (0, 0))) (.cells #[.int .i64 lb.length, .slice A1 ws.length c1] 24 (0, 0))) hb)
      have n1_ := Aside0.mk (blk_below (blk_alloc (blk_alloc KD.out (.cells #[.int .i64 j] 3 (0, 0))) (.cells #[.int .i64 lb.length, .slice A1 ws.length c1] 24 (0, 0))) hb)
      have n2_ := Aside0.mk (blk_below (blk_alloc (blk_alloc KU.out (.cells #[.int .i64 j] 3 (0, 0))) (.cells #[.int .i64 lb.length, .slice A1 ws.length c1] 24 (0, 0))) hb)
      have n3_ := Aside0.mk (Kd.S_below (Kd.S_alloc (Kd.S_alloc HT.out (.cells #[.int .i64 j] 3 (0, 0))) (.cells #[.int .i64 lb.length, .slice A1 ws.length c1] 24 (0, 0))) hb)
      have n4_ := Aside0.mk (below_step (below_alloc (below_alloc HB.out (.cells #[.int .i64 j] 3 (0, 0))) (.cells #[.int .i64 lb.length, .slice A1 ws.length c1] 24 (0, 0))) hb)
      have n5_ := Aside0.mk (blk_below (blk_alloc (blk_new wr (.cells #[.int .i64 j] 3 (0, 0))) (.cells #[.int .i64 lb.length, .slice A1 ws.length c1] 24 (0, 0))) hb)
      have n6_ := Aside0.mk (HMk.out.keep (W' := w3) fun k_ _ hk_ => by
        have h1 : ((wr.alloc (.cells #[.int .i64 j] 3 (0, 0))).alloc (.cells #[.int .i64 lb.length, .slice A1 ws.length c1] 24 (0, 0))).heap[k_]? = wr.heap[k_]? := (below_alloc (below_alloc (Below.refl wr.heap.size wr) (.cells #[.int .i64 j] 3 (0, 0))) (.cells #[.int .i64 lb.length, .slice A1 ws.length c1] 24 (0, 0))).block k_ hk_
        exact (hb.block k_ (by rw [World.size_alloc, World.size_alloc]; omega)).trans h1)
      have hUr := blk_lt KU.out
      have hw12 : w.heap.size + 3 ≤ w1.heap.size := HS3.out
      have hle' : wr.heap.size + 2 ≤ B := by rw [World.size_alloc, World.size_alloc] at hle; omega
      have hRb : ∀ k_, (Value.slice Ar ws.length cr).ownBlock = some k_ → wr.heap.size + 2 ≤ k_ := fun k_ hk_ => by
        have := Kd.R_base hR k_ hk_
        rw [World.size_alloc, World.size_alloc] at this; omega
      clear KA KB KD KU HT HB HMk hb hle q0 q1
      have KA := n0_; have KB := n7_; have KD := n1_; have KU := n2_; have HT := n3_; have HB := n4_; have KI := n5_; have HMk := n6_
      clear n0_ n1_ n2_ n3_ n4_ n5_ n6_ n7_
      have hcB := (blk_cell kb 0).trans rfl
      have hBlt := blk_lt kb
      have htab : 0 < w.heap.size := World.block_lt_of_cell? w _ (HG.out 0 (by decide))
      have hKne : ∀ k_, (k_ = B ∨ k_ = 0 ∨ some k_ = (Value.slice Ar ws.length cr).ownBlock) → ¬ (w1.heap.size ≤ k_ ∧ k_ < w2.heap.size) := by
        intro k_ hk_ e
        rcases hk_ with rfl | rfl | hk_
        · omega
        · omega
        · have := hRb k_ hk_.symm; omega
      have hKlt : ∀ k_, (k_ = B ∨ k_ = 0 ∨ some k_ = (Value.slice Ar ws.length cr).ownBlock) → k_ < w3.heap.size := by
        intro k_ hk_
        rcases hk_ with rfl | rfl | hk_
        · exact hBlt
        · exact Nat.lt_of_lt_of_le htab (below_size HB.out)
        · exact Kd.R_lt hR k_ hk_.symm
      have hHeld := held_row (K := fun k_ => k_ = B ∨ k_ = 0 ∨ some k_ = (Value.slice Ar ws.length cr).ownBlock) hR (fun k_ hk_ => .inr (.inr hk_))
      have HHeld := Aside0.mk hHeld
      have HKne := Aside0.mk hKne
      have HKlt := Aside0.mk hKlt
      have HR3 := Aside0.mk hR
      clear hHeld hKne hKlt hR
      have hbw : ∀ s ∈ lb, s.f1.length = (m + 63) / 64 := fun s hs => by
        have h1 := hTb.2.2.2 s hs
        have h2 := h1.1
        unfold MayS at h2
        rw [h1.2] at h2
        simpa using h2.2.2.1
      refine wpIn_rangeFunc_ownF rfl (by decide) (gf := 82) (lb := #[.pointer (some ⟨B, 0, none⟩)]) rfl trivial (enters_of Tryd.func82 (by kernel_rfl) rfl)
        (all_stopsM _ 5 (by decide) B _ ws hsg (by have := hsm.1.2.2.1; have := hsm.1.2.1; omega) w3 hBlt (.inr (.inl rfl)) hcB HHeld.out (tz_at HG.out HB.out)) (fun h g => Ke.trans h g) (fun W l o o' hl ho hc hw k_ hk_ => ?kb) (Below.refl _ _) (fun _ => rfl)
        (fun pre W => ((Kd.S k24 24 W w.heap.size (fun k_ => w1.heap.size ≤ k_ ∧ k_ < w2.heap.size) (.slice At rows.length ct) ((pre.map (·.1)).foldl (prodS lb j) rk)) ∧ Kept w3 W (fun k_ => w1.heap.size ≤ k_ ∧ k_ < w2.heap.size)) ∧ Below w.heap.size w W)
        (fun _ _ _ => False)
        (OwnFrom.and (fun s X Y row hs hg_ hr => ⟨S_abide hs.1 hg_ (fun r e => (hr r e).2), Nat.le_trans hs.2.1 hg_.size, fun i hi hn => (hg_.block i (Nat.lt_of_lt_of_le hi hs.2.1) (fun e => by have := (hr i e.symm).1; omega)).trans (hs.2.2 i hi hn)⟩) (ownFrom_below (Nat.le_refl _) (below_size HB.out)))
        (fun _ _ _ _ _ hs _ _ => hs)
        ⟨⟨HT.out, Kept.refl _ _⟩, HB.out⟩
        (fun x => { tmps := #[.agg #[.int .i64 lb.length, .slice (some ad) l0.length c0], .agg #[.int .i64 m, .slice B0 lb.length d0], .pointer (some ⟨w.heap.size, 0, none⟩), .pointer (some ⟨w.heap.size + 1, 0, none⟩), .pointer (some ⟨w.heap.size + 1 + 1, 0, none⟩), .int .i64 0, .pointer (some ⟨w2.heap.size, 0, none⟩), .pointer (some ⟨wr.heap.size, 0, none⟩), .pointer (some ⟨wr.heap.size + 1, 0, none⟩), .int .i64 x.1, .agg #[.int .i64 lb.length, .slice (some ad) l0.length c0], .bool true, .bool false, .bool false, .agg #[.int .i64 m, .slice B0 lb.length d0], .bool true, .bool false, .bool false, undef, .pointer (some ⟨w.heap.size, 0, none⟩), .int .i64 lb.length, .pointer (some ⟨w.heap.size + 1, 1, none⟩), .slice B0 lb.length d0, .int .i64 lb.length, .bool false, undef, .pointer (some ⟨w.heap.size + 1, 0, none⟩), .int .i64 m, .pointer (some ⟨w.heap.size, 1, none⟩), .slice (some ad) l0.length c0, .int .i64 l0.length, .agg #[.int .i64 m, .slice At rows.length ct], .pointer (some ⟨w.heap.size, 1, none⟩), .slice (some ad) l0.length c0, .int .i64 l0.length, .int .i64 j, .bool true, .int .i64 j, .pointer (some (ad.add (j * 2))), .agg #[.int .i64 lb.length, .slice A1 ws.length c1], .agg #[.int .i64 lb.length, .slice A1 ws.length c1], .func (.func 82) #[] #[.pointer (some ⟨B, 0, none⟩)], .int .i64 x.1, undef, undef, undef, undef, undef, undef, undef, undef, undef, undef, undef, undef, undef, undef, u57, undef], defers := [] }) ?assign ?body ?done ?stop
      case kb =>
        have h1 := HKlt.out k_ hk_
        exact World.putObj_heap_other (fun e => by omega)
      case assign =>
        intro l x W K hK
        gi_wp2
        exact hK
      case body =>
        rintro l pre ⟨x, hx⟩ W ⟨⟨hS, hKp⟩, hBl⟩ _
        have FU := blk_drew ((hKp.2 _ (blk_lt KU.out) (fun h => by omega)).trans KU.out)
        have FI := blk_drew ((hKp.2 _ (blk_lt KI.out) (fun h => by omega)).trans KI.out)
        have FB := blk_drew ((hKp.2 _ (blk_lt KB.out) (fun h => by omega)).trans KB.out)
        have hx2 := els_in hsm.1 hx
        obtain ⟨y, rfl⟩ := Int.eq_ofNat_of_zero_le hx2.1
        have hyb : y < lb.length := by omega
        have hlb4 : lb.length ≤ 4096 := hTb.2.2.1
        have hl4 : l0.length ≤ 4096 := hT.2.2.1
        have hRp : Rok l0.length m ((pre.map (·.1)).foldl (prodS lb j) rk) := Rok.prods hlt hbw _ hRj.out (fun z hz => by obtain ⟨z', _, rfl⟩ := List.mem_map.1 hz; exact els_in hsm.1 z'.2)
        obtain ⟨rp, hrp⟩ : ∃ rp, (pre.map (·.1)).foldl (prodS lb j) rk = rp := ⟨_, rfl⟩
        rw [hrp] at hS hRp
        have hjl : j < rp.length := by rw [hRp.1]; exact hlt
        obtain ⟨g, cap, ev, _, _, _⟩ := Kd.S_form hS (by omega)
        injection ev with e1 e2 e3
        subst e1 e3
        rw [e2] at hS FU
        obtain ⟨bd, _, _, eB, _⟩ := at_T24 HD.out (y : Int) (by omega) (by omega)
        subst eB
        have hmid := Kd.C_mid (lo := y) (hi := y + 1) HD.out (by omega) (by omega) hc1
        have hcy : ¬ (d0 = y) := by omega
        have hone : (lb.take (y + 1)).drop y = [lb[y]] := by rw [List.drop_take, Nat.add_sub_cancel_left, List.drop_eq_getElem_cons hyb]; rfl
        rw [if_neg hcy, hone] at hmid
        have hrdb := rdT_nat lb hyb
        obtain ⟨v, z0, z1, hcall⟩ := fold_row rp j w W.drew _ g ct (below_drew1 hBl) (Kd.S_drew hS) hjl lb[y] _ hmid (by
          rw [rdT_nat rp hjl, hRp.2 _ (List.getElem_mem hjl), hbw _ (List.getElem_mem hyb)]
          exact Nat.le_refl _)
        have hnew : prodS lb j rp (y : Int) = rp.set j ⟨(rd_T24 rp (j : Int)).f0, orw (rd_T24 rp (j : Int)).f1 lb[y].f1⟩ := by unfold prodS; rw [hrdb]
        obtain ⟨f0, hf0⟩ : ∃ f0, (rd_T24 rp (j : Int)).f0 = f0 := ⟨_, rfl⟩
        rw [hf0] at z0 hcall hnew
        have HCALL := Aside0.mk hcall
        clear hcall hmid
        have hmx : Tryd.prog.follows .mixedOrders = true := by kernel_rfl
        have hyc : y + 1 ≤ d0 := by omega
        have HY1 : Aside0 ((0 : Int) ≤ (y : Int) + 1) := ⟨by omega⟩
        have HY2 : Aside0 ((y : Int) + 1 ≤ (d0 : Int)) := ⟨by omega⟩
        have hw1 : wrap64 ((y : Int) + 1) = ((y + 1 : Nat) : Int) := by rw [w64_nat (by omega) (by omega)]; omega
        gi_wp2
        refine start_round (m := 14) (S := fun w' => w'.cell? ⟨w2.heap.size, 1, none⟩ = some (.slice (some ⟨g, 0, none⟩) rp.length ct) ∧ w'.cell? ⟨wr.heap.size, 0, none⟩ = some (.int .i64 j) ∧ w'.cell? ⟨w.heap.size + 1, 1, none⟩ = some (.slice (some bd) lb.length d0) ∧ w'.cell? ⟨g, j * 2, none⟩ = some (.int .i64 f0) ∧ w'.cell? ⟨g, j * 2 + 1, none⟩ = some v) (ds := [13]) #[false, false, false, false, false, false, false, false, false, false, false, false, false, false] hmx (by kernel_rfl) (fun _ _ h => h) rfl rfl ⟨(blk_cell FU 1).trans rfl, (blk_cell FI 0).trans rfl, (blk_cell FB 1).trans rfl, z0, z1⟩ (fun hHeld => ?_)
        refine pure_ (i := 0) (N := some 43) (v := ?_) (a' := ?_) #[true, false, false, false, false, false, false, false, false, false, false, false, false, false] rfl rfl (by kernel_rfl) (fun _ _ _ h => h) (Or.inl ⟨by rfl, ?_⟩) ?_ ?_
        rotate_left
        · intro w'
          go_simp
          with_reducible rfl
        rotate_left
        · simp only [Act.put, List.setIfInBounds_toArray, List.set_cons_zero, List.set_cons_succ, i64_w, i32_w]
          rfl
        refine pure_ (i := 5) (N := some 48) (v := ?_) (a' := ?_) #[true, false, false, false, false, true, false, false, false, false, false, false, false, false] rfl rfl (by kernel_rfl) (fun _ _ _ h => h) (Or.inl ⟨by rfl, ?_⟩) ?_ ?_
        rotate_left
        · intro w'
          go_simp
          with_reducible rfl
        rotate_left
        · simp only [Act.put, List.setIfInBounds_toArray, List.set_cons_zero, List.set_cons_succ, i64_w, i32_w]
          rfl
        refine pure_ (i := 7) (N := some 50) (v := ?_) (a' := ?_) #[true, false, false, false, false, true, false, true, false, false, false, false, false, false] rfl rfl (by kernel_rfl) (fun _ _ _ h => h) (Or.inl ⟨by rfl, ?_⟩) ?_ ?_
        rotate_left
        · intro w'
          go_simp
          with_reducible rfl
        rotate_left
        · simp only [Act.put, List.setIfInBounds_toArray, List.set_cons_zero, List.set_cons_succ, i64_w, i32_w]
          rfl
        refine pure_ (i := 8) (N := some 51) (v := ?_) (a' := ?_) #[true, false, false, false, false, true, false, true, true, false, false, false, false, false] rfl rfl (by kernel_rfl) (fun _ _ _ h => h) (Or.inl ⟨by rfl, ?_⟩) ?_ ?_
        rotate_left
        · intro w'
          go_simp
          with_reducible rfl
        rotate_left
        · simp only [Act.put, List.setIfInBounds_toArray, List.set_cons_zero, List.set_cons_succ, i64_w, i32_w]
          rfl
        refine pure_ (i := 10) (N := some 53) (v := ?_) (a' := ?_) #[true, false, false, false, false, true, false, true, true, false, true, false, false, false] rfl rfl (by kernel_rfl) (fun _ _ _ h => h) (Or.inl ⟨by rfl, ?_⟩) ?_ ?_
        rotate_left
        · intro w'
          go_simp
          with_reducible rfl
        rotate_left
        · simp only [Act.put, List.setIfInBounds_toArray, List.set_cons_zero, List.set_cons_succ, i64_w, i32_w]
          rfl
        refine pure_ (i := 9) (N := some 52) (v := ?_) (a' := ?_) #[true, false, false, false, false, true, false, true, true, true, true, false, false, false] rfl rfl (by kernel_rfl) (fun _ _ _ h => h) (Or.inl ⟨by rfl, ?_⟩) ?_ ?_
        rotate_left
        · intro w'
          go_simp
          with_reducible rfl
        rotate_left
        · simp only [Act.put, List.setIfInBounds_toArray, List.set_cons_zero, List.set_cons_succ, i64_w, i32_w]
          rfl
        refine pure_ (i := 11) (N := some 54) (v := ?_) (a' := ?_) #[true, false, false, false, false, true, false, true, true, true, true, true, false, false] rfl rfl (by kernel_rfl) (fun _ _ _ h => h) (Or.inl ⟨by rfl, ?_⟩) ?_ ?_
        rotate_left
        · intro w'
          go_simp
          with_reducible rfl
        rotate_left
        · simp only [Act.put, List.setIfInBounds_toArray, List.set_cons_zero, List.set_cons_succ, i64_w, i32_w]
          rfl
        refine take_ (i := 1) (N := some 44) (v := ?_) (a' := ?_) #[true, true, false, false, false, true, false, true, true, true, true, true, false, false] rfl rfl (by kernel_rfl) (fun _ _ _ h => h) (Or.inl ⟨by rfl, ?_⟩) hHeld ?_ ?_
        rotate_left
        · rintro w' ⟨s0, s1, s2, s3, s4⟩
          go_simp
          with_reducible rfl
        rotate_left
        · simp only [Act.put, List.setIfInBounds_toArray, List.set_cons_zero, List.set_cons_succ, i64_w, i32_w]
          rfl
        refine take_ (i := 2) (N := some 45) (v := ?_) (a' := ?_) #[true, true, true, false, false, true, false, true, true, true, true, true, false, false] rfl rfl (by kernel_rfl) (fun _ _ _ h => h) (Or.inl ⟨by rfl, ?_⟩) hHeld ?_ ?_
        rotate_left
        · rintro w' ⟨s0, s1, s2, s3, s4⟩
          go_simp
          with_reducible rfl
        rotate_left
        · simp only [Act.put, List.setIfInBounds_toArray, List.set_cons_zero, List.set_cons_succ, i64_w, i32_w]
          rfl
        refine take_ (i := 6) (N := some 49) (v := ?_) (a' := ?_) #[true, true, true, false, false, true, true, true, true, true, true, true, false, false] rfl rfl (by kernel_rfl) (fun _ _ _ h => h) (Or.inl ⟨by rfl, ?_⟩) hHeld ?_ ?_
        rotate_left
        · rintro w' ⟨s0, s1, s2, s3, s4⟩
          go_simp
          with_reducible rfl
        rotate_left
        · simp only [Act.put, List.setIfInBounds_toArray, List.set_cons_zero, List.set_cons_succ, i64_w, i32_w]
          rfl
        refine pure_ (i := 3) (N := some 46) (v := ?_) (a' := ?_) #[true, true, true, true, false, true, true, true, true, true, true, true, false, false] rfl rfl (by kernel_rfl) (fun _ _ _ h => h) (Or.inl ⟨by rfl, ?_⟩) ?_ ?_
        rotate_left
        · intro w'
          go_simp
          with_reducible rfl
        rotate_left
        · simp only [Act.put, List.setIfInBounds_toArray, List.set_cons_zero, List.set_cons_succ, i64_w, i32_w]
          rfl
        refine take_ (i := 4) (N := some 47) (v := ?_) (a' := ?_) #[true, true, true, true, true, true, true, true, true, true, true, true, false, false] rfl rfl (by kernel_rfl) (fun _ _ _ h => h) (Or.inl ⟨by rfl, ?_⟩) hHeld ?_ ?_
        rotate_left
        · rintro w' ⟨s0, s1, s2, s3, s4⟩
          go_simp
          with_reducible rfl
        rotate_left
        · simp only [Act.put, List.setIfInBounds_toArray, List.set_cons_zero, List.set_cons_succ, i64_w, i32_w]
          rfl
        refine pure_ (i := 12) (N := some 55) (v := ?_) (a' := ?_) #[true, true, true, true, true, true, true, true, true, true, true, true, true, false] rfl rfl (by kernel_rfl) (fun _ _ _ h => h) (Or.inl ⟨by rfl, ?_⟩) ?_ ?_
        rotate_left
        · intro w'
          go_simp
          simp only [eq_true HY1.out, eq_true HY2.out, and_self, if_true]
          with_reducible rfl
        rotate_left
        · simp only [Act.put, List.setIfInBounds_toArray, List.set_cons_zero, List.set_cons_succ, i64_w, i32_w]
          rfl
        refine last_ (i := 13) (N := some 56) #[true, true, true, true, true, true, true, true, true, true, true, true, true, true] rfl rfl (by kernel_rfl) (by decide) (fun K hK => ?_)
        refine goes_ Tryd.func88 (by kernel_rfl) rfl #[.agg #[.int .i64 f0, v], .slice (some (bd.add (y * 2))) 1 1, .func (.func 89) #[] #[]] (by rfl) rfl rfl (by (try simp only [List.map_toArray, List.map_cons, List.map_nil]); first | done | rfl) ?_
        refine HCALL.out.mono ?_
        rintro e w5 ⟨rfl, hS5, hB5, hK5, hO5⟩
        refine ⟨_, rfl, ?_⟩
        refine hK.out _ _ ?_
        clear hK K
        refine done_ (by kernel_rfl) ?_
        refine ⟨(KeepsOthers.drew _).trans hO5, fun k_ hk_ => hK5.2 k_ (Nat.lt_of_lt_of_le (HKlt.out k_ hk_) hKp.1) (HKne.out k_ hk_),
          ⟨?_, Nat.le_trans hKp.1 hK5.1, fun i hi hn => (hK5.2 i (Nat.lt_of_lt_of_le hi hKp.1) hn).trans (hKp.2 i hi hn)⟩, hB5⟩
        simp only [List.map_append, List.map_cons, List.map_nil, List.foldl_append, List.foldl_cons, List.foldl_nil]
        rw [hrp, hnew, e2]
        exact hS5
      case stop =>
        rintro D c pre W _ _ h _
        exact h.elim
      case done =>
        rintro D ys W hD hys ⟨⟨hS, hKp⟩, hBl⟩ hK
        have hys' : List.map (fun x => x.1) ys = els (64 * ws.length) ws := hys
        rw [hys'] at hS
        have hl4 : l0.length ≤ 4096 := hT.2.2.1
        gi_wp2
        rw [show ((j : Int) + 1) = ((j + 1 : Nat) : Int) from by omega]
        refine ⟨⟨j + 1, _, _, _, _, _, _, _, _, _, _, _, rfl, ⟨hlt⟩, ⟨?_⟩, ⟨Rok.prods hlt hbw _ hRj.out (fun z hz => els_in hsm.1 hz)⟩, ⟨HMk.out.cons (fun k_ hB_ hk_ => hKp.2 k_ hk_ (fun h => by omega)) hD ?_ hK⟩,
          ⟨(hKp.2 _ (blk_lt KA.out) (fun h => by omega)).trans KA.out⟩, ⟨(hKp.2 _ (blk_lt KB.out) (fun h => by omega)).trans KB.out⟩, ⟨(hKp.2 _ (blk_lt KD.out) (fun h => by omega)).trans KD.out⟩, ⟨(hKp.2 _ (blk_lt KU.out) (fun h => by omega)).trans KU.out⟩, ⟨hS⟩, ⟨hBl⟩⟩, ?_⟩
        · have := hA.out
          rw [List.drop_eq_getElem_cons hlt, ← hsl] at this
          exact this
        · have := blk_lt KU.out; omega
        · show l0.length - (intOf (.int .i64 ((j + 1 : Nat) : Int))).toNat < l0.length - (intOf (.int .i64 (j : Int))).toNat
          simp only [intOf, Int.toNat_natCast]
          omega
    · have hje : j = l0.length := by have := hj.out; omega
      subst hje
      have hd : decide (l0.length < l0.length) = false := by simp
      have q0 := (blk_cell KU.out 0).trans rfl
      have q1 := (blk_cell KU.out 1).trans rfl
      have q2 := (blk_cell KD.out 0).trans rfl
      have q3 := (blk_cell KD.out 1).trans rfl
      have z0 := blk_frozen KD.out 0
      have z1 := blk_frozen KD.out 1
      gi_wp2
      have hw12 : w.heap.size + 3 ≤ w1.heap.size := HS3.out
      obtain ⟨X, hX⟩ : ∃ X, (wr.setCell ⟨w.heap.size + 1 + 1, 0, none⟩ (Value.int IntKind.i64 m)).setCell ⟨w.heap.size + 1 + 1, 1, none⟩ (Value.slice At rows.length ct) = X := ⟨_, rfl⟩
      have hKX : Kept wr X (fun k_ => k_ = w.heap.size + 1 + 1) := by
        refine ⟨by rw [← hX, World.size_setCell, World.size_setCell]; exact Nat.le_refl _, fun k_ hk_ hn_ => ?_⟩
        rw [← hX, Below.heap_setCell _ _ _ _ hn_, Below.heap_setCell _ _ _ _ hn_]
      have hXg : X.heap[w.heap.size + 1 + 1]? = some (.cells #[.int .i64 m, .slice At rows.length ct] 56 (0, 0)) := hX ▸ blk_put (blk_put KD.out 0 (Value.int IntKind.i64 m) rfl) 1 (Value.slice At rows.length ct) rfl
      have hXB := wb (g := w.heap.size + 1 + 1) hX.symm HB.out (by omega)
      have hXS := Kd.S_kept HT.out hKX (fun k_ hk_ e => by omega)
      have hwr := blk_lt KU.out
      have hXM : Marks w.heap.size X ds := ((HMk.out.keep (W' := X) fun k_ hB_ hk_ => hKX.2 k_ hk_ (fun e => by have := HS2.out; omega))).low (by have := HS2.out; omega)
      rw [hX]
      refine Marks.leave hXM fun W' hb hcc => ?_
      have c0 := (blk_cell (hcc _ _ hXg rfl) 0).trans rfl
      have c1 := (blk_cell (hcc _ _ hXg rfl) 1).trans rfl
      refine ⟨.tuple #[.agg #[.int .i64 m, .slice At rows.length ct], .int .i64 0], ?_, _, rfl, ?_, hXB.trans hb⟩
      · simp [results, Tryd.f46, go_sem, c0, c1]
      · have hA2 : rk = prodA lb 0 l0 rows := by
          have := hA.out
          rw [List.drop_length] at this
          exact this
        rw [← hA2]
        exact Kd.S_mono (Kd.S_move (Kd.S_bound hXS) (fun k_ hk_ => by
          obtain ⟨q, hq, cells, hc⟩ := hk_.2.2.2
          exact (hcc _ _ hc rfl).trans hc.symm)) (fun _ _ => trivial)
end Go.Proofs.YtjmkhdhffmlhiaaDoor.PAll
end
section
namespace Go.Proofs.YtjmkhdhffmlhiaaDoor.PAll
open Go.RowKit Go.Proofs.YtjmkhdhffmlhiaaDoorW.PrintWords Go.Proofs.YtjmkhdhffmlhiaaDoorW.PrintMore
structure Bitly (g : Int → Int → Int) (f : Bool → Bool → Bool) : Prop where
  wd : ∀ a b, Wd a → Wd b → Wd (g a b)
  tb : ∀ a b j, Wd a → Wd b → tb (g a b) j = f (tb a j) (tb b j)
  ff : f false false = false
theorem bitly_or : Bitly (Go.bits .or .u64) (fun a b => a || b) := ⟨fun a b _ _ => (or_eq a b).2, fun _ _ j ha hb => tb_or ha hb j, rfl⟩
theorem hb_zip {g : Int → Int → Int} {f : Bool → Bool → Bool} (h : Bitly g f) {b ws : List Int} (hb' : Wds b) (hw : Wds ws) (hl : ws.length = b.length) (e : Nat) : hb (List.zipWith g b ws) e = f (hb b e) (hb ws e) := by
  rcases Nat.lt_or_ge (e / 64) b.length with h1 | h1
  · have h2 : (List.zipWith g b ws).getD (e / 64) 0 = g (b.getD (e / 64) 0) (ws.getD (e / 64) 0) := by
      rw [List.getD_eq_getElem?_getD, List.getD_eq_getElem?_getD, List.getD_eq_getElem?_getD, List.getElem?_zipWith, List.getElem?_eq_getElem h1, List.getElem?_eq_getElem (by omega)]
      rfl
    unfold hb
    rw [h2, h.tb _ _ _ (hb'.getD _) (hw.getD _)]
  · rw [hb_high (ws := b) (by omega), hb_high (ws := ws) (by omega), hb_high (by rw [List.length_zipWith]; omega), h.ff]
theorem zip_Wds {g : Int → Int → Int} {f : Bool → Bool → Bool} (h : Bitly g f) {b ws : List Int} (hb' : Wds b) (hw : Wds ws) : Wds (List.zipWith g b ws) := by
  intro x hx
  obtain ⟨i, hi, rfl⟩ := List.getElem_of_mem hx
  rw [List.getElem_zipWith]
  rw [List.length_zipWith] at hi
  exact h.wd _ _ (hb' _ (List.getElem_mem _)) (hw _ (List.getElem_mem _))
theorem foldw_is {g : Int → Int → Int} {f : Bool → Bool → Bool} (h : Bitly g f) {n : Nat} {p q : Nat → Bool} {b ws : List Int} (hb' : Is n p b) (hw : Is n q ws) : ∃ c, foldw g b ws = some c ∧ Is n (fun d => f (p d) (q d)) c := by
  have hl : ws.length = b.length := by rw [hw.len, hb'.len]
  refine ⟨List.zipWith g b ws, ?_, ?_, zip_Wds h hb'.wds hw.wds, fun e => ?_⟩
  · unfold foldw
    rw [if_pos (by omega), List.drop_eq_nil_of_le (by omega), List.append_nil]
  · rw [List.length_zipWith, hl, Nat.min_self, hb'.len]
  · rw [hb_zip h hb'.wds hw.wds hl, hb'.has, hw.has]
    by_cases he : e < n
    · simp [he]
    · simp [he, h.ff]
end Go.Proofs.YtjmkhdhffmlhiaaDoor.PAll
end
section
namespace Go.Proofs.YtjmkhdhffmlhiaaDoor.PAll
set_option linter.unusedVariables false
set_option linter.unusedSimpArgs false
open Go.RowKit Go.Shelf Go.Proofs.YtjmkhdhffmlhiaaDoorW.PrintWords Go.Proofs.YtjmkhdhffmlhiaaDoorW.PrintLast Go.Proofs.YtjmkhdhffmlhiaaDoorW.PrintMore
attribute [local go_sem] Oper.semAt_some
set_option maxHeartbeats 8000000 in
set_option maxRecDepth 100000 in
theorem Product_no (k : Nat) (n m : Int) (A0 : Option Addr) (c0 : Nat) (l0 : List S24) (B0 : Option Addr) (d0 : Nat) (lb : List S24) (w : World) (hr0 : Kd.C k24 w A0 l0.length l0) (hc0 : l0.length ≤ c0) (hM : bitset_MayTable.f k n l0 = some false) :
    Calls Tryd.prog 46 #[.agg #[.int .i64 n, .slice A0 l0.length c0], .agg #[.int .i64 m, .slice B0 lb.length d0]] w fun e w' => ∃ v : Value, e = .returned (.tuple #[.agg #[.int .i64 0, v], .int .i64 61]) ∧ Kd.S k24 24 w' w.heap.size (fun _ => True) v [] ∧ Below w.heap.size w w' := by
  have hu24 := Tryd.underlying24
  have hu56 := Tryd.underlying56
  have HC := Aside0.mk hr0
  have HM := Aside0.mk hM
  clear hr0 hM
  obtain ⟨o1, ho1⟩ : ∃ o1 : Obj, o1 = .cells #[.int .i64 n, .slice A0 l0.length c0] 56 (0, 0) := ⟨_, rfl⟩
  obtain ⟨o2, ho2⟩ : ∃ o2 : Obj, o2 = .cells #[.int .i64 m, .slice B0 lb.length d0] 56 (0, 0) := ⟨_, rfl⟩
  obtain ⟨o3, ho3⟩ : ∃ o3 : Obj, o3 = .cells #[.int .i64 0, .slice none 0 0] 56 (0, 0) := ⟨_, rfl⟩
  have K1 : (((w.alloc o1).alloc o2).alloc o3).heap[w.heap.size + 1]? = some o2 := by have := blk_alloc (blk_new (w.alloc o1) o2) o3; rwa [World.size_alloc] at this
  have K2 : (((w.alloc o1).alloc o2).alloc o3).heap[w.heap.size + 1 + 1]? = some o3 := by have := blk_new ((w.alloc o1).alloc o2) o3; rwa [World.size_alloc, World.size_alloc] at this
  have HB0 : Below w.heap.size w (((w.alloc o1).alloc o2).alloc o3) := below_alloc (below_alloc (below_alloc (Below.refl _ _) _) _) _
  rw [ho1, ho2, ho3] at K1 K2 HB0
  clear ho1 ho2 ho3 o1 o2 o3
  have KB := Aside0.mk K1
  have KD := Aside0.mk K2
  have HB := Aside0.mk HB0
  clear K1 K2 HB0
  refine (callsIn_wide (n := 6)).1 ?_
  refine callsIn_of_wp_marks Tryd.func46 rfl trivial ?_ rfl
  simp only [Tryd.ntmps46, List.size_toArray, List.length_cons, List.length_nil, Nat.reduceAdd, Nat.reduceSub, Array.replicate_succ, Array.replicate_zero, List.push_toArray, List.append_toArray, List.nil_append, List.cons_append]
  gi_wp2_with fail
  refine ⟨trivial, ?_⟩; gi_at_call 85
  refine (callsIn_wide.2 (bitset_MayTable.calls k n _ _ l0 false _ (Kd.C_alloc (Kd.C_alloc (Kd.C_alloc HC.out _) _) _) hc0 HM.out)).mono ?_
  rintro e w1 ⟨rfl, hb⟩
  have n1_ := Aside0.mk (blk_below KB.out hb); have n2_ := Aside0.mk (blk_below KD.out hb); have n3_ := Aside0.mk (below_step HB.out hb)
  clear KB KD HB hb
  have KB := n1_; have KD := n2_; have HB := n3_
  clear n1_ n2_ n3_
  have k0 := (blk_cell KB.out 0).trans rfl; have k1 := (blk_cell KB.out 1).trans rfl
  have q0 := (blk_cell KD.out 0).trans rfl; have q1 := (blk_cell KD.out 1).trans rfl; have z0 := blk_frozen KD.out 0; have z1 := blk_frozen KD.out 1
  gi_wp2_with fail
  refine ⟨trivial, ?_⟩
  gi_wp2_with fail
  obtain ⟨X, hX⟩ : ∃ X, (World.setCell w1 ⟨w.heap.size + 1 + 1, 0, none⟩ (Value.int IntKind.i64 0)).setCell ⟨w.heap.size + 1 + 1, 1, none⟩ (Value.slice none 0 0) = X := ⟨_, rfl⟩
  have hXg : X.heap[w.heap.size + 1 + 1]? = some (.cells #[.int .i64 0, Value.slice none 0 0] 56 (0, 0)) := hX ▸ blk_put (blk_put KD.out 0 (Value.int IntKind.i64 0) rfl) 1 (Value.slice none 0 0) rfl
  have hXB := wb (g := w.heap.size + 1 + 1) hX.symm HB.out (by omega)
  try rw [hX]
  have c0 := (blk_cell hXg 0).trans rfl
  have c1 := (blk_cell hXg 1).trans rfl
  refine ⟨.tuple #[.agg #[.int .i64 0, .slice none 0 0], .int .i64 61], ?_, _, rfl, Kd.S_nil _ _ _ _ _, hXB⟩
  simp [results, Tryd.f46, go_sem, c0, c1]
set_option maxHeartbeats 8000000 in
set_option maxRecDepth 100000 in
theorem Product_no2 (k : Nat) (n m : Int) (A0 : Option Addr) (c0 : Nat) (l0 : List S24) (B0 : Option Addr) (d0 : Nat) (lb : List S24) (w : World) (hr0 : Kd.C k24 w A0 l0.length l0) (hc0 : l0.length ≤ c0) (hr1 : Kd.C k24 w B0 lb.length lb) (hc1 : lb.length ≤ d0) (b2 : Bool) (hb2 : b2 = true → n ≠ (lb.length : Int)) (hM : bitset_MayTable.f k n l0 = some true) (hMb : bitset_MayTable.f k m lb = some b2) :
    Calls Tryd.prog 46 #[.agg #[.int .i64 n, .slice A0 l0.length c0], .agg #[.int .i64 m, .slice B0 lb.length d0]] w fun e w' => ∃ v : Value, e = .returned (.tuple #[.agg #[.int .i64 0, v], .int .i64 (if b2 = true then 60 else 61)]) ∧ Kd.S k24 24 w' w.heap.size (fun _ => True) v [] ∧ Below w.heap.size w w' := by
  have hu24 := Tryd.underlying24
  have hu56 := Tryd.underlying56
  have HC := Aside0.mk hr0
  have HD := Aside0.mk hr1
  have HM := Aside0.mk hM
  have HMb := Aside0.mk hMb
  have HN := Aside0.mk hb2
  clear hr0 hr1 hM hMb hb2
  obtain ⟨o1, ho1⟩ : ∃ o1 : Obj, o1 = .cells #[.int .i64 n, .slice A0 l0.length c0] 56 (0, 0) := ⟨_, rfl⟩
  obtain ⟨o2, ho2⟩ : ∃ o2 : Obj, o2 = .cells #[.int .i64 m, .slice B0 lb.length d0] 56 (0, 0) := ⟨_, rfl⟩
  obtain ⟨o3, ho3⟩ : ∃ o3 : Obj, o3 = .cells #[.int .i64 0, .slice none 0 0] 56 (0, 0) := ⟨_, rfl⟩
  have K0 : (((w.alloc o1).alloc o2).alloc o3).heap[w.heap.size]? = some o1 := blk_alloc (blk_alloc (blk_new w o1) _) _
  have K1 : (((w.alloc o1).alloc o2).alloc o3).heap[w.heap.size + 1]? = some o2 := by have := blk_alloc (blk_new (w.alloc o1) o2) o3; rwa [World.size_alloc] at this
  have K2 : (((w.alloc o1).alloc o2).alloc o3).heap[w.heap.size + 1 + 1]? = some o3 := by have := blk_new ((w.alloc o1).alloc o2) o3; rwa [World.size_alloc, World.size_alloc] at this
  have HB0 : Below w.heap.size w (((w.alloc o1).alloc o2).alloc o3) := below_alloc (below_alloc (below_alloc (Below.refl _ _) _) _) _
  rw [ho1, ho2, ho3] at K0 K1 K2 HB0
  clear ho1 ho2 ho3 o1 o2 o3
  have KA := Aside0.mk K0
  have KB := Aside0.mk K1
  have KD := Aside0.mk K2
  have HB := Aside0.mk HB0
  clear K0 K1 K2 HB0
  refine (callsIn_wide (n := 6)).1 ?_
  refine callsIn_of_wp_marks Tryd.func46 rfl trivial ?_ rfl
  simp only [Tryd.ntmps46, List.size_toArray, List.length_cons, List.length_nil, Nat.reduceAdd, Nat.reduceSub, Array.replicate_succ, Array.replicate_zero, List.push_toArray, List.append_toArray, List.nil_append, List.cons_append]
  gi_wp2_with fail
  refine ⟨trivial, ?_⟩; gi_at_call 85
  refine (callsIn_wide.2 (bitset_MayTable.calls k n _ _ l0 true _ (Kd.C_alloc (Kd.C_alloc (Kd.C_alloc HC.out _) _) _) hc0 HM.out)).mono ?_
  rintro e w0 ⟨rfl, hb⟩
  have n0_ := Aside0.mk (blk_below KA.out hb); have n1_ := Aside0.mk (blk_below KB.out hb); have n2_ := Aside0.mk (blk_below KD.out hb); have n3_ := Aside0.mk (below_step HB.out hb)
  clear KA KB KD HB hb
  have KA := n0_; have KB := n1_; have KD := n2_; have HB := n3_
  clear n0_ n1_ n2_ n3_
  have q0 := (blk_cell KB.out 0).trans rfl; have q1 := (blk_cell KB.out 1).trans rfl
  gi_wp2_with fail
  refine ⟨trivial, ?_⟩; gi_at_call 85
  refine (callsIn_wide.2 (bitset_MayTable.calls k m _ _ lb b2 _ (Kd.C_below HD.out HB.out) hc1 HMb.out)).mono ?_
  rintro e w1 ⟨rfl, hb⟩
  have n0_ := Aside0.mk (blk_below KA.out hb); have n1_ := Aside0.mk (blk_below KB.out hb); have n2_ := Aside0.mk (blk_below KD.out hb); have n3_ := Aside0.mk (below_step HB.out hb)
  clear KA KB KD HB hb q0 q1
  have KA := n0_; have KB := n1_; have KD := n2_; have HB := n3_
  clear n0_ n1_ n2_ n3_
  have q0 := (blk_cell KB.out 0).trans rfl; have q1 := (blk_cell KB.out 1).trans rfl
  have q2 := (blk_cell KA.out 0).trans rfl
  have k0 := (blk_cell KD.out 0).trans rfl; have k1 := (blk_cell KD.out 1).trans rfl; have z0 := blk_frozen KD.out 0; have z1 := blk_frozen KD.out 1
  obtain ⟨X, hX⟩ : ∃ X, (World.setCell w1 ⟨w.heap.size + 1 + 1, 0, none⟩ (Value.int IntKind.i64 0)).setCell ⟨w.heap.size + 1 + 1, 1, none⟩ (Value.slice none 0 0) = X := ⟨_, rfl⟩
  have hXg : X.heap[w.heap.size + 1 + 1]? = some (.cells #[.int .i64 0, Value.slice none 0 0] 56 (0, 0)) := hX ▸ blk_put (blk_put KD.out 0 (Value.int IntKind.i64 0) rfl) 1 (Value.slice none 0 0) rfl
  have hXB := wb (g := w.heap.size + 1 + 1) hX.symm HB.out (by omega)
  have c0' := (blk_cell hXg 0).trans rfl
  have c1' := (blk_cell hXg 1).trans rfl
  cases b2 with
  | false =>
    gi_wp2_with fail
    try rw [hX]
    refine ⟨.tuple #[.agg #[.int .i64 0, .slice none 0 0], .int .i64 61], ?_, _, rfl, Kd.S_nil _ _ _ _ _, hXB⟩
    simp [results, Tryd.f46, go_sem, c0', c1']
  | true =>
    have hne : (n == (lb.length : Int)) = false := by simpa using HN.out rfl
    have hne2 : ¬ (n = (lb.length : Int)) := HN.out rfl
    gi_wp2_with fail
    try rw [hX]
    refine ⟨.tuple #[.agg #[.int .i64 0, .slice none 0 0], .int .i64 60], ?_, _, rfl, Kd.S_nil _ _ _ _ _, hXB⟩
    simp [results, Tryd.f46, go_sem, c0', c1']
def bitset_Product.f (k : Nat) (a0_0 : Int) (l0_1 : List S24) (a1_0 : Int) (l1_1 : List S24) : Option (Int × List S24 × Int) :=
  if (Goods l0_1 ∧ l0_1.length ≤ 9223372036854775807) ∧ (Goods l1_1 ∧ l1_1.length ≤ 9223372036854775807) then (bitset_MayTable.f k a0_0 l0_1).bind fun b => if b = true then (bitset_MayTable.f k a1_0 l1_1).bind fun b2 => if b2 = true then
    if a0_0 = (l1_1.length : Int) then (bitset_blanks.f k a1_0 (l0_1.length : Int)).bind fun t => some (t.1, prodA l1_1 0 l0_1 t.2, 0) else some (0, [], 60) else some (0, [], 61) else some (0, [], 61) else none
theorem bitset_Product.calls (k : Nat) (a0_0 : Int) (A0_1 : Option Addr) (c0_1 : Nat) (l0_1 : List (S24)) (a1_0 : Int) (A1_1 : Option Addr) (c1_1 : Nat) (l1_1 : List (S24)) (r1 : Int) (r2 : List (S24)) (r3 : Int) (w : World) (hr0_1 : Kd.C k24 w A0_1 l0_1.length l0_1) (hc0_1 : l0_1.length ≤ c0_1) (hr1_1 : Kd.C k24 w A1_1 l1_1.length l1_1) (hc1_1 : l1_1.length ≤ c1_1) (hG : Tz w) (h : bitset_Product.f k a0_0 l0_1 a1_0 l1_1 = some (r1, r2, r3)) :
    Calls Tryd.prog 46 #[.agg #[.int .i64 a0_0, .slice A0_1 l0_1.length c0_1], .agg #[.int .i64 a1_0, .slice A1_1 l1_1.length c1_1]] w fun e w' => ∃ v1_ : Value, e = .returned (.tuple #[.agg #[.int .i64 r1, v1_], .int .i64 r3]) ∧ Kd.S k24 24 w' w.heap.size (fun _ => True) v1_ r2 ∧ Below w.heap.size w w' := by
  unfold bitset_Product.f at h
  by_cases hg : (Goods l0_1 ∧ l0_1.length ≤ 9223372036854775807) ∧ (Goods l1_1 ∧ l1_1.length ≤ 9223372036854775807)
  · rw [if_pos hg] at h
    obtain ⟨b, hM, h⟩ := Option.bind_eq_some_iff.1 h
    cases b with
    | true =>
      have hT : TabP a0_0 l0_1 := tabp_true.1 (MayTable_is hg.1.1 hg.1.2 hM).symm
      rw [if_pos rfl] at h
      obtain ⟨b2, hMb, h⟩ := Option.bind_eq_some_iff.1 h
      cases b2 with
      | true =>
        have hTb : TabP a1_0 l1_1 := tabp_true.1 (MayTable_is hg.2.1 hg.2.2 hMb).symm
        rw [if_pos rfl] at h
        by_cases hn : a0_0 = (l1_1.length : Int)
        · rw [if_pos hn] at h
          obtain ⟨t, hBl, h⟩ := Option.bind_eq_some_iff.1 h
          obtain ⟨n, rfl⟩ := Int.eq_ofNat_of_zero_le hT.1
          obtain ⟨m, rfl⟩ := Int.eq_ofNat_of_zero_le hTb.1
          obtain ⟨rows, hR, hE⟩ := blanks_ev (m := m) (n := l0_1.length) (by have := hTb.2.1; omega) hT.2.2.1
          have ht := Ev.eq (Ev.of (bitset_blanks.mono _ _) hBl) hE
          subst ht
          simp only [Option.some.injEq, Prod.mk.injEq] at h
          obtain ⟨rfl, rfl, rfl⟩ := h
          exact Product_yes k n m A0_1 c0_1 l0_1 A1_1 c1_1 l1_1 rows w hr0_1 hc0_1 hr1_1 hc1_1 hG hT hg.1.1 hTb (by omega) hM hMb hBl hR.rok
        · rw [if_neg hn] at h
          cases h
          exact Product_no2 k a0_0 a1_0 A0_1 c0_1 l0_1 A1_1 c1_1 l1_1 w hr0_1 hc0_1 hr1_1 hc1_1 true (fun _ => hn) hM hMb
      | false =>
        rw [if_neg (by decide)] at h
        cases h
        exact Product_no2 k a0_0 a1_0 A0_1 c0_1 l0_1 A1_1 c1_1 l1_1 w hr0_1 hc0_1 hr1_1 hc1_1 false (fun h => by cases h) hM hMb
    | false =>
      rw [if_neg (by decide)] at h
      cases h
      exact Product_no k a0_0 a1_0 A0_1 c0_1 l0_1 A1_1 c1_1 l1_1 w hr0_1 hc0_1 hM
  · rw [if_neg hg] at h; cases h
theorem orw_is {n : Nat} {p q : Nat → Bool} {b ws : List Int} (hb' : Is n p b) (hw : Is n q ws) : Is n (fun d => p d || q d) (orw b ws) := by
  have hl : ws.length ≤ b.length := by rw [hw.len, hb'.len]; exact Nat.le_refl _
  obtain ⟨c, hc, hi⟩ := foldw_is bitly_or hb' hw
  rw [orw_eq hl] at hc
  cases hc
  exact hi
theorem RowsAre.prod {n m r : Nat} {p q : Nat → Nat → Bool} {lb rows : List S24} (hb' : RowsAre r m q lb) (h : RowsAre n m p rows) {j : Nat} (hj : j < n) {e : Nat} (he : e < r) : RowsAre n m (fun x d => p x d || (decide (x = j) && q e d)) (prodS lb j rows (e : Int)) := by
  have hjl : j < rows.length := by rw [h.1]; exact hj
  have hel : e < lb.length := by rw [hb'.1]; exact he
  unfold prodS
  rw [rdT_nat rows hjl, rdT_nat lb hel]
  obtain ⟨a1, a2⟩ := h.2 j hjl
  refine (h.set _ a1 (orw_is a2 (hb'.2 e hel).2)).congr fun x _ d _ => ?_
  by_cases hx : x = j
  · subst hx; simp
  · simp [hx]
theorem RowsAre.prods {n m r : Nat} {q : Nat → Nat → Bool} {lb : List S24} (hb' : RowsAre r m q lb) {j : Nat} (hj : j < n) : ∀ (xs : List Int) {p : Nat → Nat → Bool} {rows : List S24}, RowsAre n m p rows → (∀ z ∈ xs, 0 ≤ z ∧ z < r) → RowsAre n m (fun x d => p x d || (decide (x = j) && xs.any (fun z => q z.toNat d))) (xs.foldl (prodS lb j) rows)
  | [], p, rows, h, _ => h.congr fun x _ d _ => by simp
  | z :: xs, p, rows, h, hz => by
    obtain ⟨y, rfl⟩ := Int.eq_ofNat_of_zero_le (hz z List.mem_cons_self).1
    have hy : y < r := by have := (hz _ List.mem_cons_self).2; omega
    refine (RowsAre.prods hb' hj xs (RowsAre.prod hb' h hj hy) (fun z h => hz z (List.mem_cons_of_mem _ h))).congr fun x _ d _ => ?_
    simp only [List.any_cons, Int.toNat_natCast]
    generalize p x d = a1
    generalize decide (x = j) = a2
    generalize q y d = a3
    generalize xs.any (fun z => q z.toNat d) = a4
    revert a1 a2 a3 a4
    decide
def prodP (r : Nat) (p q : Nat → Nat → Bool) (x d : Nat) : Bool := (List.range r).any fun e => p x e && q e d
theorem els_any {r : Nat} {ws : List Int} (hM : MayP (r : Int) ws) (f : Nat → Bool) : (els (64 * ws.length) ws).any (fun z => f z.toNat) = (List.range r).any fun e => hb ws e && f e := by
  rw [Bool.eq_iff_iff, List.any_eq_true, List.any_eq_true]
  constructor
  · rintro ⟨z, hz, h⟩
    obtain ⟨j, _, j2, rfl⟩ := mem_els.1 hz
    have hj : j < r := by have := (els_in hM hz).2; omega
    exact ⟨j, List.mem_range.2 hj, by rw [j2]; simpa using h⟩
  · rintro ⟨e, he, h⟩
    rw [Bool.and_eq_true] at h
    exact ⟨(e : Int), mem_els.2 ⟨e, Nat.lt_of_not_le (fun hle => by rw [hb_high hle] at h; cases h.1), h.1, rfl⟩, by simpa using h.2⟩
theorem RowsAre.prodA {n m r : Nat} {q : Nat → Nat → Bool} {lb : List S24} (hb' : RowsAre r m q lb) : ∀ (l : List S24) (i : Nat) {p : Nat → Nat → Bool} {rows : List S24}, RowsAre n m p rows → i + l.length ≤ n → (∀ s ∈ l, MayP (r : Int) s.f1) → RowsAre n m (fun x d => p x d || (decide (i ≤ x) && (List.range r).any fun e => hb (l.getD (x - i) ⟨0, []⟩).f1 e && q e d)) (prodA lb i l rows)
  | [], i, p, rows, h, _, _ => h.congr fun x _ d _ => by simp [hb_high]
  | s :: l, i, p, rows, h, hi, hm => by
    simp only [List.length_cons] at hi
    have h1 := RowsAre.prods hb' (j := i) (by omega) (els (64 * s.f1.length) s.f1) h (fun z hz => els_in (hm s List.mem_cons_self) hz)
    refine (RowsAre.prodA hb' l (i + 1) h1 (by omega) (fun s hs => hm s (List.mem_cons_of_mem _ hs))).congr fun x _ d _ => ?_
    rw [els_any (hm s List.mem_cons_self) (fun e => q e d)]
    by_cases hx : x = i
    · subst hx
      have e1 : ¬ (x + 1 ≤ x) := by omega
      have e2 : x - x = 0 := by omega
      rw [e2]
      simp only [e1, Nat.le_refl, List.getD_cons_zero, decide_true, decide_false, Bool.true_and, Bool.false_and, Bool.or_false]
    · by_cases hix : i ≤ x
      · have h2 : i + 1 ≤ x := by omega
        obtain ⟨c, rfl⟩ : ∃ c, x = i + 1 + c := ⟨x - (i + 1), by omega⟩
        have e1 : i + 1 + c - (i + 1) = c := by omega
        have e2 : i + 1 + c - i = c + 1 := by omega
        rw [e1, e2]
        simp [hx, hix]
      · have h2 : ¬ i + 1 ≤ x := by omega
        simp [hx, hix, h2]
theorem Product_rows {n r m : Nat} (hn : n ≤ 4096) (hr : r ≤ 4096) (hm : m ≤ 4096) {p q : Nat → Nat → Bool} {l lb : List S24} (hR : RowsAre n r p l) (hB : RowsAre r m q lb) : ∃ rows, RowsAre n m (prodP r p q) rows ∧ Ev (fun k => bitset_Product.f k (r : Int) l (m : Int) lb) ((m : Int), rows, 0) := by
  obtain ⟨hT, hg⟩ := hR.tab hn hr
  obtain ⟨hTb, hgb⟩ := hB.tab hr hm
  have hl : l.length ≤ 9223372036854775807 := by rw [hR.1]; omega
  have hlb : lb.length ≤ 9223372036854775807 := by rw [hB.1]; omega
  obtain ⟨K, hM⟩ := MayTable_eq (r : Int) l hl hg
  obtain ⟨K2, hMb⟩ := MayTable_eq (m : Int) lb hlb hgb
  obtain ⟨rows, hBk, L, hE⟩ := blanks_ev (m := m) (n := l.length) hm (by rw [hR.1]; exact hn)
  refine ⟨prodA lb 0 l rows, ?_, K + K2 + L, fun k hk => ?_⟩
  · have h1 := RowsAre.prodA hB l 0 hBk (by omega) (fun s hs => by
      have h2 := hT.2.2.2 s hs
      have h3 := h2.1
      unfold MayS at h3
      rwa [h2.2] at h3)
    rw [hR.1] at h1
    refine h1.congr fun x hx d hd => ?_
    have hx' : x < l.length := by rw [hR.1]; exact hx
    have e : l.getD x ⟨0, []⟩ = l[x] := by simp [List.getD_eq_getElem?_getD, List.getElem?_eq_getElem hx']
    have h4 := (hR.2 x hx').2.has
    simp only [Bool.false_or, Nat.zero_le, decide_true, Bool.true_and, Nat.sub_zero]
    rw [e]
    unfold prodP
    rw [Bool.eq_iff_iff, List.any_eq_true, List.any_eq_true]
    constructor
    · rintro ⟨c, hc, h⟩
      exact ⟨c, hc, by rw [h4 c] at h; simpa [List.mem_range.1 hc] using h⟩
    · rintro ⟨c, hc, h⟩
      exact ⟨c, hc, by rw [h4 c]; simpa [List.mem_range.1 hc] using h⟩
  · show bitset_Product.f k (r : Int) l (m : Int) lb = _
    unfold bitset_Product.f
    have h1 := hM k (by omega)
    have h2 := hE k (by omega)
    have h3 := hMb k (by omega)
    simp only at h1 h2 h3
    rw [if_pos ⟨⟨hg, hl⟩, hgb, hlb⟩, h1, tabp_true.2 hT, Option.bind_some, if_pos rfl, h3, tabp_true.2 hTb, Option.bind_some, if_pos rfl, if_pos (by rw [hB.1]), h2, Option.bind_some]
end Go.Proofs.YtjmkhdhffmlhiaaDoor.PAll
end
section
namespace Go.Proofs.YtjmkhdhffmlhiaaDoor.PAll
open Go.RowKit Go.Proofs.YtjmkhdhffmlhiaaDoorW.PrintWords Go.Proofs.YtjmkhdhffmlhiaaDoorW.PrintLast Go.Proofs.YtjmkhdhffmlhiaaDoorW.PrintMore
attribute [local go_sem] max2_int min2_int max_two min_two max_three min_three max_four min_four w64_u8 w64_mod256   -- for this text's walks alone
set_option linter.unusedVariables false
set_option linter.unusedSimpArgs false
def bitset_square.f (a0_0 : Int) (l0_1 : List (S24)) : Option (Bool) := some (a0_0 == (l0_1.length : Int))
set_option maxHeartbeats 8000000 in
set_option maxRecDepth 100000 in
theorem bitset_square.calls (a0_0 : Int) (A0_1 : Option Addr) (c0_1 : Nat) (l0_1 : List (S24)) (r : Bool) (w : World) (hr0_1 : Kd.C k24 w A0_1 l0_1.length l0_1) (hc0_1 : l0_1.length ≤ c0_1) (h : bitset_square.f a0_0 l0_1 = some r) :
    Calls Tryd.prog 87 #[.agg #[.int .i64 a0_0, .slice A0_1 l0_1.length c0_1]] w fun e w' => e = .returned (.bool r) ∧ Below w.heap.size w w' := by
  have hu56 := Tryd.underlying56
  have HR0_1 := Aside0.mk hr0_1
  have HC0_1 := Aside0.mk hc0_1
  clear hr0_1 hc0_1
  have HB := Aside0.mk (Below.refl w.heap.size w)
  have H : (some (a0_0 == (l0_1.length : Int))) = some r := h
  clear h
  obtain rfl := Option.some.inj H
  go_enter Tryd.func87, Tryd.ntmps87
  go_wp2_with (first | ((with_reducible refine gate_dst (N := 1) rfl ?_); refine box_event ?hg (N := 1) ?hd (cs := #[.int .i64 a0_0, .slice A0_1 l0_1.length c0_1]) (t := 56) ?hr ?_; (case hd => rfl); (case hg => rfl); (case hr => first | (go_simp; done) | (go_simp; rfl)); intro gb101 hg w2 hbox hb; have n0_ := Aside0.mk (below_step (by repeat (first | (with_reducible first | exact HB.out | apply below_alloc | apply pw_below_drewN | apply below_drew1) | exact HB.out)) hb); have n1_ := Aside0.mk (hbox); have n2_ := Aside0.mk ((by rw [hg]; exact (below_size (by repeat (first | (with_reducible first | exact HB.out | apply below_alloc | apply pw_below_drewN | apply below_drew1) | exact HB.out))) : w.heap.size ≤ gb101)); have n3_ := Aside0.mk ((by rw [hg]; exact (below_size (by repeat (first | (with_reducible first | exact HB.out | apply below_alloc | apply pw_below_drewN | apply below_drew1) | exact HB.out))) : w.heap.size ≤ gb101)); clear HB; have HB := n0_; have BK101 := n1_; have GW101 := n2_; have GE101 := n3_; clear n0_ n1_ n2_ n3_; clear hb hbox hg; have hcz3_0 : w2.cell? ⟨gb101, 0, none⟩ = some (.int .i64 a0_0) := (blk_cell BK101.out 0).trans rfl; have hcz3_1 : w2.cell? ⟨gb101, 1, none⟩ = some (.slice A0_1 l0_1.length c0_1) := (blk_cell BK101.out 1).trans rfl; have hfz3_0 := blk_frozen BK101.out 0; have hfz3_1 := blk_frozen BK101.out 1))
  go_ret
  exact ⟨by first | rfl | (simp [errW_none, errW_some] <;> rfl) | (simp [*, errW_none, errW_some] <;> rfl), by repeat (first | (with_reducible first | exact HB.out | apply below_alloc | apply pw_below_drewN | apply below_drew1 | refine below_set ?_ GE101.out) | exact HB.out)⟩
end Go.Proofs.YtjmkhdhffmlhiaaDoor.PAll
end
section
namespace Go.Proofs.YtjmkhdhffmlhiaaDoor.PAll
set_option linter.unusedVariables false
open Go.RowKit Go.Shelf Go.Proofs.YtjmkhdhffmlhiaaDoorW.PrintWords Go.Proofs.YtjmkhdhffmlhiaaDoorW.PrintLast Go.Proofs.YtjmkhdhffmlhiaaDoorW.PrintMore
def bothS (j : Nat) (rows : List S24) (s : S24) : List S24 := rows.set j ⟨(rd_T24 rows (j : Int)).f0, orw (rd_T24 rows (j : Int)).f1 s.f1⟩
def bothA : Nat → List S24 → List S24 → List S24
  | _, [], rows => rows
  | j, s :: l, rows => bothA (j + 1) l (bothS j rows s)
def bitset_Both.f (k : Nat) (a0_0 : Int) (l0_1 : List S24) : Option (Int × List S24 × Int) :=
  if Goods l0_1 ∧ l0_1.length ≤ 9223372036854775807 then (bitset_MayTable.f k a0_0 l0_1).bind fun b => if b = true then
    if a0_0 = (l0_1.length : Int) then (bitset_Turn.f k a0_0 l0_1).bind fun t => some (t.1, bothA 0 l0_1 t.2.1, 0) else some (0, [], 60) else some (0, [], 61) else none
theorem bitset_Both.mono : ∀ a0_0 l0_1 k, LeO (bitset_Both.f k a0_0 l0_1) (bitset_Both.f (k + 1) a0_0 l0_1) := by
  intro a l k
  unfold bitset_Both.f
  split
  · exact LeO.bind (bitset_MayTable.mono _ _ _) fun b => LeO.ite (LeO.ite (LeO.bind (bitset_Turn.mono _ _ _) fun t => LeO.refl _) (LeO.refl _)) (LeO.refl _)
  · exact LeO.none _
theorem RowsAre.both {n m : Nat} {p : Nat → Nat → Bool} {rows : List S24} (h : RowsAre n m p rows) {j : Nat} (hj : j < n) {s : S24} {q : Nat → Bool} (hs : Is m q s.f1) : RowsAre n m (fun x d => p x d || (decide (x = j) && q d)) (bothS j rows s) := by
  have hjl : j < rows.length := by rw [h.1]; exact hj
  unfold bothS
  rw [rdT_nat rows hjl]
  obtain ⟨a1, a2⟩ := h.2 j hjl
  refine (h.set _ a1 (orw_is a2 hs)).congr fun x _ d _ => ?_
  by_cases hx : x = j
  · subst hx; simp
  · simp [hx]
theorem RowsAre.bothA {n m : Nat} : ∀ (l : List S24) (i : Nat) {p : Nat → Nat → Bool} {rows : List S24}, RowsAre n m p rows → i + l.length ≤ n → (∀ s ∈ l, MayP (m : Int) s.f1 ∧ Wds s.f1) → RowsAre n m (fun x d => p x d || (decide (i ≤ x) && hb (l.getD (x - i) ⟨0, []⟩).f1 d)) (bothA i l rows)
  | [], i, p, rows, h, _, _ => h.congr fun x _ d _ => by simp [hb_high]
  | s :: l, i, p, rows, h, hi, hm => by
    simp only [List.length_cons] at hi
    have hs := hm s List.mem_cons_self
    have h1 := h.both (j := i) (by omega) (s := s) (q := hb s.f1) (by have := hs.1.is hs.2; rwa [Int.toNat_natCast] at this)
    refine (RowsAre.bothA l (i + 1) h1 (by omega) (fun s hs => hm s (List.mem_cons_of_mem _ hs))).congr fun x _ d _ => ?_
    by_cases hx : x = i
    · subst hx
      have e1 : ¬ (x + 1 ≤ x) := by omega
      have e2 : x - x = 0 := by omega
      rw [e2]
      simp only [e1, Nat.le_refl, List.getD_cons_zero, decide_true, decide_false, Bool.true_and, Bool.false_and, Bool.or_false]
    · by_cases hix : i ≤ x
      · have h2 : i + 1 ≤ x := by omega
        obtain ⟨c, rfl⟩ : ∃ c, x = i + 1 + c := ⟨x - (i + 1), by omega⟩
        have e1 : i + 1 + c - (i + 1) = c := by omega
        have e2 : i + 1 + c - i = c + 1 := by omega
        rw [e1, e2]
        simp [hx, hix]
      · have h2 : ¬ i + 1 ≤ x := by omega
        simp [hx, hix, h2]
theorem Both_rows {n : Nat} (hn : n ≤ 4096) {p : Nat → Nat → Bool} {l : List S24} (hR : RowsAre n n p l) : ∃ rows, RowsAre n n (fun x d => p d x || p x d) rows ∧ Ev (fun k => bitset_Both.f k (n : Int) l) ((n : Int), rows, 0) := by
  obtain ⟨hT, hg⟩ := hR.tab hn hn
  have hl : l.length ≤ 9223372036854775807 := by rw [hR.1]; omega
  obtain ⟨K, hM⟩ := MayTable_eq (n : Int) l hl hg
  obtain ⟨rows, hB, L, hE⟩ := Turn_rows hn hn hR
  refine ⟨bothA 0 l rows, ?_, K + L, fun k hk => ?_⟩
  · have h1 := RowsAre.bothA l 0 hB (by rw [hR.1]; omega) (fun s hs => by
      have h2 := hT.2.2.2 s hs
      have h3 := h2.1
      unfold MayS at h3
      rw [h2.2] at h3
      exact ⟨h3, (hg s hs).1⟩)
    refine h1.congr fun x hx d hd => ?_
    have hx' : x < l.length := by rw [hR.1]; exact hx
    have e : l.getD x ⟨0, []⟩ = l[x] := by simp [List.getD_eq_getElem?_getD, List.getElem?_eq_getElem hx']
    have h4 := (hR.2 x hx').2.has d
    simp only [Nat.zero_le, decide_true, Bool.true_and, Nat.sub_zero]
    rw [e, h4]
    simp [hd]
  · show bitset_Both.f k (n : Int) l = _
    unfold bitset_Both.f
    have h1 := hM k (by omega)
    have h2 := hE k (by omega)
    simp only at h1 h2
    rw [if_pos ⟨hg, hl⟩, h1, tabp_true.2 hT, Option.bind_some, if_pos rfl, if_pos (by rw [hR.1]), h2, Option.bind_some]
end Go.Proofs.YtjmkhdhffmlhiaaDoor.PAll
end
section
namespace Go.Proofs.YtjmkhdhffmlhiaaDoor.PAll
set_option linter.unusedVariables false
set_option linter.unusedSimpArgs false
open Go.RowKit Go.Shelf Go.Proofs.YtjmkhdhffmlhiaaDoorW.PrintWords Go.Proofs.YtjmkhdhffmlhiaaDoorW.PrintLast Go.Proofs.YtjmkhdhffmlhiaaDoorW.PrintMore
attribute [local go_sem] Oper.semAt_some
theorem Rok.both {n m j : Nat} {rows : List S24} (h : Rok n m rows) (hj : j < n) {s : S24} (hs : s.f1.length = (m + 63) / 64) : Rok n m (bothS j rows s) := by
  have hjl : j < rows.length := by rw [h.1]; exact hj
  refine ⟨by unfold bothS; rw [List.length_set, h.1], fun r hr => ?_⟩
  unfold bothS at hr
  rcases List.mem_or_eq_of_mem_set hr with hr | rfl
  · exact h.2 r hr
  · rw [rdT_nat rows hjl]
    have a1 := h.2 _ (List.getElem_mem hjl)
    simp only
    rw [orw_length (by omega)]
    exact a1
theorem fold_rowK (rows : List S24) (j : Nat) (w0 W : World) (ok : Nat → Prop) (g cap : Nat) (hB : Below w0.heap.size w0 W) (hS : Kd.S k24 24 W w0.heap.size ok (.slice (some ⟨g, 0, none⟩) rows.length cap) rows) (hj : j < rows.length) (x : S24) (A1 : Option Addr) (c1 : Nat) (hc1 : 1 ≤ c1)
    (hx : ∀ (P : Nat → Prop), (∀ k, P k → ok k) → ∀ W_, Kept W W_ P → Kd.C k24 W_ A1 1 [x]) (hl : x.f1.length ≤ (rd_T24 rows (j : Int)).f1.length) :
    ∃ v, W.cell? ⟨g, j * 2, none⟩ = some (.int .i64 (rd_T24 rows (j : Int)).f0) ∧ W.cell? ⟨g, j * 2 + 1, none⟩ = some v ∧
      Calls Tryd.prog 88 #[.agg #[.int .i64 (rd_T24 rows (j : Int)).f0, v], .slice A1 1 c1, .func (.func 89) #[] #[]] W fun e w' => e = .returned (.agg #[.int .i64 (rd_T24 rows (j : Int)).f0, v]) ∧
        Kd.S k24 24 w' w0.heap.size ok (.slice (some ⟨g, 0, none⟩) rows.length cap) (bothS j rows x) ∧ Below w0.heap.size w0 w' ∧ Kept W w' ok ∧ KeepsOthers W w' := by
  obtain ⟨oki, c, hcl, hM, hcc, hfr, hoki, hH⟩ := Kd.S_elem hS (rd_T24 rows (j : Int)) (j : Int) (by omega) (by omega)
  rw [Int.toNat_natCast] at hM hcc hfr
  have he : rows.getD j (rd_T24 rows (j : Int)) = rd_T24 rows (j : Int) := by rw [rdT_nat rows hj, List.getD_eq_getElem?_getD, List.getElem?_eq_getElem hj]; rfl
  rw [he] at hM
  obtain ⟨v, rfl, hR⟩ := k24_openM hM
  refine ⟨v, hcc 0 _ rfl, hcc 1 _ rfl, (bitset_fold_or.puts _ (fun k => some k = v.ownBlock) v _ A1 c1 [x] () (rd_T24 rows (j : Int)).f0 (orw (rd_T24 rows (j : Int)).f1 x.f1) w0 W hB (Kd.R_tight rfl hR) (hx _ (fun k hk => (hoki k (hR.1 k hk.symm)).1)) hc1 (by unfold bitset_fold_or.f; simp [folds, orw_eq hl])).mono ?_⟩
  rintro e w' ⟨rfl, hR', hB', hK'⟩
  have hR2 : Kd.R (Kd.int .u64) 87 w' w0.heap.size oki v (orw (rd_T24 rows (j : Int)).f1 x.f1) := Kd.R_mono (Kd.R_tight rfl hR') (fun k hk => hR.1 k hk.symm)
  refine ⟨rfl, ?_, hB', ⟨hK'.1, fun k hk hn => hK'.2 k hk (fun h => hn (hoki k (hR.1 k h.symm)).1)⟩, ko_kept hR hK'⟩
  have h2 := Kd.H_back (Kd.H_kept hH hK' (fun k _ h he => h (hR.1 k he.symm))) (k24_mkM w' w0.heap.size oki ⟨(rd_T24 rows (j : Int)).f0, orw (rd_T24 rows (j : Int)).f1 x.f1⟩ hR2) (fun _ h => h)
  rwa [Int.toNat_natCast] at h2
theorem row_cells (rows : List S24) (j base : Nat) (W : World) (ok : Nat → Prop) (g cap : Nat) (hS : Kd.S k24 24 W base ok (.slice (some ⟨g, 0, none⟩) rows.length cap) rows) (hj : j < rows.length) :
    ∃ v, W.cell? ⟨g, j * 2, none⟩ = some (.int .i64 (rd_T24 rows (j : Int)).f0) ∧ W.cell? ⟨g, j * 2 + 1, none⟩ = some v := by
  obtain ⟨oki, c, hcl, hM, hcc, hfr, hoki, hH⟩ := Kd.S_elem hS (rd_T24 rows (j : Int)) (j : Int) (by omega) (by omega)
  rw [Int.toNat_natCast] at hM hcc hfr
  have he : rows.getD j (rd_T24 rows (j : Int)) = rd_T24 rows (j : Int) := by rw [rdT_nat rows hj, List.getD_eq_getElem?_getD, List.getElem?_eq_getElem hj]; rfl
  rw [he] at hM
  obtain ⟨v, rfl, hR⟩ := k24_openM hM
  exact ⟨v, hcc 0 _ rfl, hcc 1 _ rfl⟩
set_option maxHeartbeats 8000000 in
set_option maxRecDepth 100000 in
theorem Both_yes (k : Nat) (A0 : Option Addr) (c0 : Nat) (l0 rows : List S24) (w : World) (hr0 : Kd.C k24 w A0 l0.length l0) (hc0 : l0.length ≤ c0) (hG : Tz w) (hT : TabP (l0.length : Int) l0)
    (hM : bitset_MayTable.f k (l0.length : Int) l0 = some true) (hTu : bitset_Turn.f k (l0.length : Int) l0 = some ((l0.length : Int), rows, 0)) (hRk : Rok l0.length l0.length rows) :
    Calls Tryd.prog 45 #[.agg #[.int .i64 l0.length, .slice A0 l0.length c0]] w fun e w' => ∃ v : Value, e = .returned (.tuple #[.agg #[.int .i64 (l0.length : Int), v], .int .i64 0]) ∧ Kd.S k24 24 w' w.heap.size (fun _ => True) v (bothA 0 l0 rows) ∧ Below w.heap.size w w' := by
  have hu24 := Tryd.underlying24
  have hu56 := Tryd.underlying56
  have HC := Aside0.mk hr0
  have HG := Aside0.mk hG
  have HM := Aside0.mk hM
  have HTu := Aside0.mk hTu
  clear hr0 hG hM hTu
  obtain ⟨o1, ho1⟩ : ∃ o1 : Obj, o1 = .cells #[.int .i64 l0.length, .slice A0 l0.length c0] 56 (0, 0) := ⟨_, rfl⟩
  obtain ⟨o2, ho2⟩ : ∃ o2 : Obj, o2 = .cells #[.int .i64 0, .slice none 0 0] 56 (0, 0) := ⟨_, rfl⟩
  have K0 : ((w.alloc o1).alloc o2).heap[w.heap.size]? = some o1 := blk_alloc (blk_new w o1) _
  have K1 : ((w.alloc o1).alloc o2).heap[w.heap.size + 1]? = some o2 := by have := blk_new (w.alloc o1) o2; rwa [World.size_alloc] at this
  have HB0 : Below w.heap.size w ((w.alloc o1).alloc o2) := below_alloc (below_alloc (Below.refl _ _) _) _
  have hs3 : w.heap.size + 2 ≤ ((w.alloc o1).alloc o2).heap.size := by rw [World.size_alloc, World.size_alloc]; omega
  rw [ho1, ho2] at K0 K1 HB0 hs3
  clear ho1 ho2 o1 o2
  have KA := Aside0.mk K0
  have KD := Aside0.mk K1
  have HB := Aside0.mk HB0
  have HS3 := Aside0.mk hs3
  clear K0 K1 HB0 hs3
  refine (callsIn_wide (n := 6)).1 ?_
  refine callsIn_of_wp Tryd.func45 rfl trivial ?_ rfl
  simp only [Tryd.ntmps45, List.size_toArray, List.length_cons, List.length_nil, Nat.reduceAdd, Nat.reduceSub, Array.replicate_succ, Array.replicate_zero, List.push_toArray, List.append_toArray, List.nil_append, List.cons_append]
  gi_wp2_with fail
  refine ⟨trivial, ?_⟩; gi_at_call 85
  refine (callsIn_wide.2 (bitset_MayTable.calls k l0.length _ _ l0 true _ (Kd.C_alloc (Kd.C_alloc HC.out _) _) hc0 HM.out)).mono ?_
  rintro e w0 ⟨rfl, hb⟩
  have n0_ := Aside0.mk (blk_below KA.out hb); have n2_ := Aside0.mk (blk_below KD.out hb); have n3_ := Aside0.mk (below_step HB.out hb); have n4_ := Aside0.mk (Nat.le_trans HS3.out (below_size hb))
  clear KA KD HB hb HS3
  have KA := n0_; have KD := n2_; have HB := n3_; have HS3 := n4_
  clear n0_ n2_ n3_ n4_
  have q0 := (blk_cell KA.out 0).trans rfl; have q1 := (blk_cell KA.out 1).trans rfl
  gi_wp2_with fail
  refine ⟨trivial, ?_⟩; gi_at_call 87
  refine (callsIn_wide.2 (bitset_square.calls l0.length _ _ l0 true _ (Kd.C_below HC.out HB.out) hc0 (by unfold bitset_square.f; simp))).mono ?_
  rintro e w1 ⟨rfl, hb⟩
  have n0_ := Aside0.mk (blk_below KA.out hb); have n2_ := Aside0.mk (blk_below KD.out hb); have n3_ := Aside0.mk (below_step HB.out hb); have n4_ := Aside0.mk (Nat.le_trans HS3.out (below_size hb))
  clear KA KD HB hb HS3 q0 q1
  have KA := n0_; have KD := n2_; have HB := n3_; have HS3 := n4_
  clear n0_ n2_ n3_ n4_
  have q0 := (blk_cell KA.out 0).trans rfl; have q1 := (blk_cell KA.out 1).trans rfl
  gi_wp2_with fail
  refine ⟨trivial, ?_⟩; gi_at_call 42
  refine (callsIn_wide.2 (bitset_Turn.calls k l0.length _ _ l0 _ _ _ _ (Kd.C_below HC.out HB.out) hc0 (tz_at HG.out HB.out) HTu.out)).mono ?_
  rintro e w2 ⟨vt, rfl, ho, hb⟩
  obtain ⟨At, ct, et⟩ := Kd.S_slice ho
  subst et
  have n0_ := Aside0.mk (blk_below KA.out hb); have n2_ := Aside0.mk (blk_below KD.out hb); have n3_ := Aside0.mk (below_step HB.out hb)
  have HT := Aside0.mk (Kd.S_lower (Kd.S_mono (Kd.S_bound ho) (fun k_ hk_ => show w1.heap.size ≤ k_ ∧ k_ < w2.heap.size from ⟨hk_.2.1, hk_.2.2.1⟩)) (below_size HB.out))
  have HS2 := Aside0.mk (below_size hb)
  clear KA KD HB hb ho q0 q1
  have KA := n0_; have KD := n2_; have HB := n3_
  clear n0_ n2_ n3_
  have q0 := (blk_cell (blk_alloc KA.out (.cells #[.int .i64 l0.length, .slice At rows.length ct] 56 (0, 0))) 0).trans rfl; have q1 := (blk_cell (blk_alloc KA.out (.cells #[.int .i64 l0.length, .slice At rows.length ct] 56 (0, 0))) 1).trans rfl
  gi_wp2_with fail
  refine wpIn_loop (fun a W => ∃ (j : Nat) (rk : List S24) (u6 u7 u25 u26 u27 u28 u29 u30 u31 u32 u33 u34 u35 u36 u37 : Value), a = { tmps := #[.agg #[.int .i64 l0.length, .slice A0 l0.length c0], .pointer (some ⟨w.heap.size, 0, none⟩), .pointer (some ⟨w.heap.size + 1, 0, none⟩), .int .i64 0, .pointer (some ⟨w2.heap.size, 0, none⟩), .int .i64 0, u6, u7, .agg #[.int .i64 l0.length, .slice A0 l0.length c0], .bool true, .bool false, undef, .agg #[.int .i64 l0.length, .slice A0 l0.length c0], .bool true, .bool false, undef, .tuple #[.agg #[.int .i64 l0.length, .slice At rows.length ct], .int .i64 0], .agg #[.int .i64 l0.length, .slice A0 l0.length c0], .tuple #[.agg #[.int .i64 l0.length, .slice At rows.length ct], .int .i64 0], .agg #[.int .i64 l0.length, .slice At rows.length ct], .int .i64 0, .pointer (some ⟨w.heap.size, 1, none⟩), .slice A0 l0.length c0, .int .i64 l0.length, .int .i64 j, u25, u26, u27, u28, u29, u30, u31, u32, u33, u34, u35, u36, u37, undef], defers := [] } ∧ Aside0 (j ≤ l0.length) ∧ Aside0 (bothA j (l0.drop j) rk = bothA 0 l0 rows) ∧ Aside0 (Rok l0.length l0.length rk) ∧
      Aside0 (W.heap[w.heap.size]? = some (.cells #[.int .i64 l0.length, .slice A0 l0.length c0] 56 (0, 0))) ∧ Aside0 (W.heap[w.heap.size + 1]? = some (.cells #[.int .i64 0, .slice none 0 0] 56 (0, 0))) ∧ Aside0 (W.heap[w2.heap.size]? = some (.cells #[.int .i64 l0.length, .slice At rows.length ct] 56 (0, 0))) ∧
      Aside0 (Kd.S k24 24 W w.heap.size (fun k_ => w1.heap.size ≤ k_ ∧ k_ < w2.heap.size) (.slice At rows.length ct) rk) ∧ Aside0 (Below w.heap.size w W))
    (fun a _ => l0.length - (intOf (a.tmps.getD 24 undef)).toNat) ?start ?round
  case start =>
    exact ⟨0, rows, undef, undef, undef, undef, undef, undef, undef, undef, undef, undef, undef, undef, undef, undef, undef, rfl, ⟨Nat.zero_le _⟩, ⟨rfl⟩, ⟨hRk⟩, ⟨blk_alloc KA.out _⟩, ⟨blk_alloc KD.out _⟩, ⟨blk_new _ _⟩, ⟨Kd.S_alloc HT.out _⟩, ⟨below_alloc HB.out _⟩⟩
  case round =>
    clear KA KD HB HT q0 q1
    rintro a wr ⟨j, rk, u6, u7, u25, u26, u27, u28, u29, u30, u31, u32, u33, u34, u35, u36, u37, rfl, hj, hA, hRj, KA, KD, KU, HT, HB⟩
    by_cases hlt : j < l0.length
    · obtain ⟨ad, A1, c1, eA, q0w, q1w, hlc, hC1⟩ := at_T24 HC.out (j : Int) (by omega) (by omega)
      subst eA
      simp only [Int.toNat_natCast] at q0w q1w
      obtain ⟨s, hs⟩ : ∃ s, rd_T24 l0 (j : Int) = s := ⟨_, rfl⟩
      have hsl : s = l0[j] := by rw [← hs, rdT_nat l0 hlt]
      rw [hs] at q0w q1w hlc hC1
      have hsm : MayP (l0.length : Int) s.f1 ∧ s.f0 = (l0.length : Int) := by
        have := hT.2.2.2 _ (List.getElem_mem hlt)
        rw [← hsl] at this
        refine ⟨?_, this.2⟩
        have h2 := this.1; unfold MayS at h2; rwa [this.2] at h2
      obtain ⟨s0, ws⟩ := s
      obtain rfl : s0 = (l0.length : Int) := hsm.2
      simp only at q0w q1w hlc hC1 hsm
      have q0 := (HB.out.cell (World.block_lt_of_cell? w _ q0w)).trans q0w
      have q1 := (HB.out.cell (World.block_lt_of_cell? w _ q1w)).trans q1w
      have hd : decide (j < l0.length) = true := decide_eq_true hlt
      have HF := Aside0.mk (Kd.C_F (Kd.heap_int .u64) hC1)
      clear hC1 q0w q1w
      gi_wp2_with fail
      have hUr := blk_lt KU.out
      have hw12 : w.heap.size + 2 ≤ w1.heap.size := HS3.out
      have hl4 : l0.length ≤ 4096 := hT.2.2.1
      have hwl : ws.length = (l0.length + 63) / 64 := by simpa using hsm.1.2.2.1
      have KA4 := Aside0.mk (blk_drew (blk_alloc KA.out (.cells #[.int .i64 l0.length, .slice A1 ws.length c1] 24 (0, 0))))
      have KD4 := Aside0.mk (blk_drew (blk_alloc KD.out (.cells #[.int .i64 l0.length, .slice A1 ws.length c1] 24 (0, 0))))
      have KU4 := Aside0.mk (blk_drew (blk_alloc KU.out (.cells #[.int .i64 l0.length, .slice A1 ws.length c1] 24 (0, 0))))
      have KS4 := Aside0.mk (blk_drew (blk_new wr (.cells #[.int .i64 l0.length, .slice A1 ws.length c1] 24 (0, 0))))
      have HT4 := Aside0.mk (Kd.S_drew (Kd.S_alloc HT.out (.cells #[.int .i64 l0.length, .slice A1 ws.length c1] 24 (0, 0))))
      have HB4 := Aside0.mk (below_drew1 (below_alloc HB.out (.cells #[.int .i64 l0.length, .slice A1 ws.length c1] 24 (0, 0))))
      have HL4 := Aside0.mk (show wr.heap.size + 1 ≤ (World.drew (wr.alloc (.cells #[.int .i64 l0.length, .slice A1 ws.length c1] 24 (0, 0)))).heap.size from (by show wr.heap.size + 1 ≤ (wr.alloc (.cells #[.int .i64 l0.length, .slice A1 ws.length c1] 24 (0, 0))).heap.size; rw [World.size_alloc]; exact Nat.le_refl _))
      have hjl : j < rk.length := by rw [hRj.out.1]; exact hlt
      obtain ⟨g, cap, ev, hgb, hgl, cells, hcells⟩ := Kd.S_form HT.out (by omega)
      injection ev with e1 e2 e3
      subst e1 e3
      have hT4 := HT4.out
      rw [e2] at hT4
      obtain ⟨v, z0, z1⟩ := row_cells rk j _ _ _ g ct hT4 hjl
      have u1 := (blk_cell KU4.out 1).trans rfl
      rw [e2] at u1
      simp only [List.getElem?_toArray, List.getElem?_cons_zero, List.getElem?_cons_succ] at u1
      have hmx : Tryd.prog.follows .mixedOrders = true := by kernel_rfl
      have HE2 := Aside0.mk e2
      have HWL := Aside0.mk hwl
      clear e2 hwl
      refine wpIn_wide.2 ?_
      refine start_ (n := 8) (S := fun w' => w'.cell? ⟨w2.heap.size, 1, none⟩ = some (.slice (some ⟨g, 0, none⟩) rk.length ct) ∧ w'.cell? ⟨wr.heap.size, 0, none⟩ = some (.int .i64 l0.length) ∧ w'.cell? ⟨wr.heap.size, 1, none⟩ = some (.slice A1 ws.length c1) ∧ w'.cell? ⟨g, j * 2, none⟩ = some (.int .i64 (rd_T24 rk (j : Int)).f0) ∧ w'.cell? ⟨g, j * 2 + 1, none⟩ = some v) (ds := [7]) #[false, false, false, false, false, false, false, false] hmx (by kernel_rfl) rfl ⟨u1, (blk_cell KS4.out 0).trans rfl, (blk_cell KS4.out 1).trans rfl, z0, z1⟩ (fun hHeld => ?_)
      clear u1 z0 z1
      generalize World.drew (wr.alloc (.cells #[.int .i64 l0.length, .slice A1 ws.length c1] 24 (0, 0))) = W4 at KA4 KD4 KU4 KS4 HT4 HB4 HL4 hT4 hHeld ⊢
      refine pure_ (i := 0) (N := some 29) (v := ?_) (a' := ?_) #[true, false, false, false, false, false, false, false] rfl rfl (by kernel_rfl) (fun _ _ _ h => h) (Or.inl ⟨by rfl, ?_⟩) ?_ ?_
      rotate_left
      · intro w'
        go_simp
        with_reducible rfl
      rotate_left
      · simp only [Act.put, List.setIfInBounds_toArray, List.set_cons_zero, List.set_cons_succ, i64_w, i32_w]
        rfl
      refine pure_ (i := 2) (N := some 31) (v := ?_) (a' := ?_) #[true, false, true, false, false, false, false, false] rfl rfl (by kernel_rfl) (fun _ _ _ h => h) (Or.inl ⟨by rfl, ?_⟩) ?_ ?_
      rotate_left
      · intro w'
        go_simp
        with_reducible rfl
      rotate_left
      · simp only [Act.put, List.setIfInBounds_toArray, List.set_cons_zero, List.set_cons_succ, i64_w, i32_w]
        rfl
      refine take_ (i := 1) (N := some 30) (v := ?_) (a' := ?_) #[true, true, true, false, false, false, false, false] rfl rfl (by kernel_rfl) (fun _ _ _ h => h) (Or.inl ⟨by rfl, ?_⟩) hHeld ?_ ?_
      rotate_left
      · rintro w' ⟨s0, s1, s2, s3, s4⟩
        go_simp
        with_reducible rfl
      rotate_left
      · simp only [Act.put, List.setIfInBounds_toArray, List.set_cons_zero, List.set_cons_succ, i64_w, i32_w]
        rfl
      refine take_ (i := 5) (N := some 34) (v := ?_) (a' := ?_) #[true, true, true, false, false, true, false, false] rfl rfl (by kernel_rfl) (fun _ _ _ h => h) (Or.inl ⟨by rfl, ?_⟩) hHeld ?_ ?_
      rotate_left
      · rintro w' ⟨s0, s1, s2, s3, s4⟩
        go_simp
        with_reducible rfl
      rotate_left
      · simp only [Act.put, List.setIfInBounds_toArray, List.set_cons_zero, List.set_cons_succ, i64_w, i32_w]
        rfl
      refine pure_ (i := 3) (N := some 32) (v := ?_) (a' := ?_) #[true, true, true, true, false, true, false, false] rfl rfl (by kernel_rfl) (fun _ _ _ h => h) (Or.inl ⟨by rfl, ?_⟩) ?_ ?_
      rotate_left
      · intro w'
        go_simp
        with_reducible rfl
      rotate_left
      · simp only [Act.put, List.setIfInBounds_toArray, List.set_cons_zero, List.set_cons_succ, i64_w, i32_w]
        rfl
      refine take_ (i := 4) (N := some 33) (v := ?_) (a' := ?_) #[true, true, true, true, true, true, false, false] rfl rfl (by kernel_rfl) (fun _ _ _ h => h) (Or.inl ⟨by rfl, ?_⟩) hHeld ?_ ?_
      rotate_left
      · rintro w' ⟨s0, s1, s2, s3, s4⟩
        go_simp
        with_reducible rfl
      rotate_left
      · simp only [Act.put, List.setIfInBounds_toArray, List.set_cons_zero, List.set_cons_succ, i64_w, i32_w]
        rfl
      refine one_ (i := 6) (N := some 35) #[true, true, true, true, true, true, true, false] rfl rfl (by kernel_rfl) (by decide) (fun K hK => ?_)
      refine Kd.N_lit_step k24 (w0 := W4) W4.heap.size 24 ?hg (N' := 35) ?hd (xs := [(⟨(l0.length : Int), ws⟩ : S24)]) (inner := [.int .i64 l0.length, .slice A1 ws.length c1]) (ok := fun k_ => ¬ (w1.heap.size ≤ k_ ∧ k_ < w2.heap.size)) (okp := fun k_ => ¬ (w1.heap.size ≤ k_ ∧ k_ < w2.heap.size)) ?hr ?hp (fun _ hk => hk) ?hf (Below.refl _ _) (Nat.le_refl _) (by simp) ?_
      case hd => rfl
      case hg => rfl
      case hr => first | (go_simp; done) | (go_simp; rfl)
      case hf => have := HL4.out; intro h; omega
      case hp => exact Reps.c2 (k24_mkF _ _ (⟨(l0.length : Int), ws⟩ : S24) hlc (Kd.F_mono (Kd.F_below HF.out HB4.out) (fun k_ hk_ h => by omega))) (Reps.none _ _)
      intro vl w5 hN hb _ _
      obtain ⟨Al, cl, rfl⟩ := Kd.N_slice hN
      have hc1l := (Kd.N_reads' hN).2.1
      obtain ⟨s0, s1, s2, s3, s4⟩ := hHeld
      have t3 := (hb.cell (World.block_lt_of_cell? W4 _ s3)).trans s3
      have t4 := (hb.cell (World.block_lt_of_cell? W4 _ s4)).trans s4
      refine hK.out _ _ ⟨(hb.cell (World.block_lt_of_cell? W4 _ s0)).trans s0, (hb.cell (World.block_lt_of_cell? W4 _ s1)).trans s1, (hb.cell (World.block_lt_of_cell? W4 _ s2)).trans s2, t3, t4⟩ (fun _ => ?_)
      clear hK K
      obtain ⟨v', z0, z1, hcall⟩ := fold_rowK rk j w w5 _ g ct (below_step HB4.out hb) (Kd.S_below hT4 hb) hjl ⟨(l0.length : Int), ws⟩ Al cl hc1l (fun P hP => Kd.C_kept_ownV (base := 0) (Kd.N_V hN) (fun k_ hk_ hs_ => hk_ (hP k_ hs_))) (by
        rw [rdT_nat rk hjl, hRj.out.2 _ (List.getElem_mem hjl), HWL.out]
        exact Nat.le_refl _)
      obtain rfl : v' = v := by rw [t4] at z1; injection z1 with h; exact h.symm
      have HCALL := Aside0.mk hcall
      clear hcall s0 s1 s2 s3 s4 t3 t4 z0 z1
      refine last_ (i := 7) (N := some 36) #[true, true, true, true, true, true, true, true] rfl rfl (by kernel_rfl) (by decide) (fun K hK => ?_)
      refine goes_ Tryd.func88 (by kernel_rfl) rfl #[.agg #[.int .i64 (rd_T24 rk (j : Int)).f0, v'], .slice Al 1 cl, .func (.func 89) #[] #[]] (by rfl) rfl rfl (by (try simp only [List.map_toArray, List.map_cons, List.map_nil]); first | done | rfl) ?_
      refine HCALL.out.mono ?_
      rintro e w6 ⟨rfl, hS6, hB6, hK6, hO6⟩
      refine ⟨_, rfl, ?_⟩
      refine hK.out _ _ ?_
      clear hK K
      refine done_ (by kernel_rfl) ?_
      have KA6 := Aside0.mk ((hK6.2 _ (blk_lt (blk_below KA4.out hb)) (fun h => by omega)).trans (blk_below KA4.out hb))
      have KD6 := Aside0.mk ((hK6.2 _ (blk_lt (blk_below KD4.out hb)) (fun h => by omega)).trans (blk_below KD4.out hb))
      have KU6 := Aside0.mk ((hK6.2 _ (blk_lt (blk_below KU4.out hb)) (fun h => by omega)).trans (blk_below KU4.out hb))
      gi_wp2_with fail
      rw [show ((j : Int) + 1) = ((j + 1 : Nat) : Int) from by omega]
      refine ⟨⟨j + 1, bothS j rk ⟨(l0.length : Int), ws⟩, _, _, _, _, _, _, _, _, _, _, _, _, _, _, _, rfl, ⟨hlt⟩, ⟨?_⟩, ⟨hRj.out.both hlt HWL.out⟩, KA6, KD6, KU6, ⟨?_⟩, ⟨hB6⟩⟩, ?_⟩
      · have := hA.out
        rw [List.drop_eq_getElem_cons hlt, ← hsl] at this
        exact this
      · rw [HE2.out]
        exact hS6
      · show l0.length - (intOf (.int .i64 ((j + 1 : Nat) : Int))).toNat < l0.length - (intOf (.int .i64 (j : Int))).toNat
        simp only [intOf, Int.toNat_natCast]
        omega
    · have hje : j = l0.length := by have := hj.out; omega
      subst hje
      have hd : decide (l0.length < l0.length) = false := by simp
      have q0 := (blk_cell KU.out 0).trans rfl
      have q1 := (blk_cell KU.out 1).trans rfl
      have q2 := (blk_cell KD.out 0).trans rfl
      have q3 := (blk_cell KD.out 1).trans rfl
      have z0 := blk_frozen KD.out 0
      have z1 := blk_frozen KD.out 1
      gi_wp2_with fail
      have hw12 : w.heap.size + 2 ≤ w1.heap.size := HS3.out
      obtain ⟨X, hX⟩ : ∃ X, (wr.setCell ⟨w.heap.size + 1, 0, none⟩ (Value.int IntKind.i64 l0.length)).setCell ⟨w.heap.size + 1, 1, none⟩ (Value.slice At rows.length ct) = X := ⟨_, rfl⟩
      have hKX : Kept wr X (fun k_ => k_ = w.heap.size + 1) := by
        refine ⟨by rw [← hX, World.size_setCell, World.size_setCell]; exact Nat.le_refl _, fun k_ hk_ hn_ => ?_⟩
        rw [← hX, Below.heap_setCell _ _ _ _ hn_, Below.heap_setCell _ _ _ _ hn_]
      have hXg : X.heap[w.heap.size + 1]? = some (.cells #[.int .i64 l0.length, .slice At rows.length ct] 56 (0, 0)) := hX ▸ blk_put (blk_put KD.out 0 (Value.int IntKind.i64 l0.length) rfl) 1 (Value.slice At rows.length ct) rfl
      have hXB := wb (g := w.heap.size + 1) hX.symm HB.out (by omega)
      have hXS := Kd.S_kept HT.out hKX (fun k_ hk_ e => by omega)
      try rw [hX]
      have c0 := (blk_cell hXg 0).trans rfl
      have c1 := (blk_cell hXg 1).trans rfl
      refine bodyPost_ret (v := .tuple #[.agg #[.int .i64 l0.length, .slice At rows.length ct], .int .i64 0]) ?_ rfl ⟨_, rfl, ?_, hXB⟩
      · simp [results, Tryd.f45, go_sem, c0, c1]
      · have hA2 : rk = bothA 0 l0 rows := by
          have := hA.out
          rw [List.drop_length] at this
          exact this
        rw [← hA2]
        exact Kd.S_mono hXS (fun _ _ => trivial)
end Go.Proofs.YtjmkhdhffmlhiaaDoor.PAll
end
section
namespace Go.Proofs.YtjmkhdhffmlhiaaDoor.PAll
set_option linter.unusedVariables false
set_option linter.unusedSimpArgs false
open Go.RowKit Go.Shelf Go.Proofs.YtjmkhdhffmlhiaaDoorW.PrintWords Go.Proofs.YtjmkhdhffmlhiaaDoorW.PrintLast Go.Proofs.YtjmkhdhffmlhiaaDoorW.PrintMore
attribute [local go_sem] Oper.semAt_some
set_option maxHeartbeats 8000000 in
set_option maxRecDepth 100000 in
theorem Both_no (k : Nat) (n : Int) (A0 : Option Addr) (c0 : Nat) (l0 : List S24) (w : World) (hr0 : Kd.C k24 w A0 l0.length l0) (hc0 : l0.length ≤ c0) (b : Bool) (hb2 : b = true → n ≠ (l0.length : Int)) (hM : bitset_MayTable.f k n l0 = some b) :
    Calls Tryd.prog 45 #[.agg #[.int .i64 n, .slice A0 l0.length c0]] w fun e w' => ∃ v : Value, e = .returned (.tuple #[.agg #[.int .i64 0, v], .int .i64 (if b = true then 60 else 61)]) ∧ Kd.S k24 24 w' w.heap.size (fun _ => True) v [] ∧ Below w.heap.size w w' := by
  have hu24 := Tryd.underlying24
  have hu56 := Tryd.underlying56
  have HC := Aside0.mk hr0
  have HM := Aside0.mk hM
  have HN := Aside0.mk hb2
  clear hr0 hM hb2
  obtain ⟨o1, ho1⟩ : ∃ o1 : Obj, o1 = .cells #[.int .i64 n, .slice A0 l0.length c0] 56 (0, 0) := ⟨_, rfl⟩
  obtain ⟨o2, ho2⟩ : ∃ o2 : Obj, o2 = .cells #[.int .i64 0, .slice none 0 0] 56 (0, 0) := ⟨_, rfl⟩
  have K0 : ((w.alloc o1).alloc o2).heap[w.heap.size]? = some o1 := blk_alloc (blk_new w o1) _
  have K1 : ((w.alloc o1).alloc o2).heap[w.heap.size + 1]? = some o2 := by have := blk_new (w.alloc o1) o2; rwa [World.size_alloc] at this
  have HB0 : Below w.heap.size w ((w.alloc o1).alloc o2) := below_alloc (below_alloc (Below.refl _ _) _) _
  rw [ho1, ho2] at K0 K1 HB0
  clear ho1 ho2 o1 o2
  have KA := Aside0.mk K0
  have KD := Aside0.mk K1
  have HB := Aside0.mk HB0
  clear K0 K1 HB0
  refine (callsIn_wide (n := 6)).1 ?_
  refine callsIn_of_wp Tryd.func45 rfl trivial ?_ rfl
  simp only [Tryd.ntmps45, List.size_toArray, List.length_cons, List.length_nil, Nat.reduceAdd, Nat.reduceSub, Array.replicate_succ, Array.replicate_zero, List.push_toArray, List.append_toArray, List.nil_append, List.cons_append]
  gi_wp2_with fail
  refine ⟨trivial, ?_⟩; gi_at_call 85
  refine (callsIn_wide.2 (bitset_MayTable.calls k n _ _ l0 b _ (Kd.C_alloc (Kd.C_alloc HC.out _) _) hc0 HM.out)).mono ?_
  rintro e w1 ⟨rfl, hb⟩
  have n0_ := Aside0.mk (blk_below KA.out hb); have n2_ := Aside0.mk (blk_below KD.out hb); have n3_ := Aside0.mk (below_step HB.out hb)
  clear KA KD HB hb
  have KA := n0_; have KD := n2_; have HB := n3_
  clear n0_ n2_ n3_
  have q0 := (blk_cell KA.out 0).trans rfl; have q1 := (blk_cell KA.out 1).trans rfl
  have k0 := (blk_cell KD.out 0).trans rfl; have k1 := (blk_cell KD.out 1).trans rfl; have z0 := blk_frozen KD.out 0; have z1 := blk_frozen KD.out 1
  cases b with
  | false =>
    gi_wp2_with fail
    obtain ⟨X, hX⟩ : ∃ X, (World.setCell w1 ⟨w.heap.size + 1, 0, none⟩ (Value.int IntKind.i64 0)).setCell ⟨w.heap.size + 1, 1, none⟩ (Value.slice none 0 0) = X := ⟨_, rfl⟩
    have hXg : X.heap[w.heap.size + 1]? = some (.cells #[.int .i64 0, Value.slice none 0 0] 56 (0, 0)) := hX ▸ blk_put (blk_put KD.out 0 (Value.int IntKind.i64 0) rfl) 1 (Value.slice none 0 0) rfl
    have hXB := wb (g := w.heap.size + 1) hX.symm HB.out (by omega)
    try rw [hX]
    have c0' := (blk_cell hXg 0).trans rfl
    have c1' := (blk_cell hXg 1).trans rfl
    refine bodyPost_ret (v := .tuple #[.agg #[.int .i64 0, .slice none 0 0], .int .i64 61]) ?_ rfl ⟨_, rfl, Kd.S_nil _ _ _ _ _, hXB⟩
    simp [results, Tryd.f45, go_sem, c0', c1']
  | true =>
    gi_wp2_with fail
    refine ⟨trivial, ?_⟩; gi_at_call 87
    refine (callsIn_wide.2 (bitset_square.calls n _ _ l0 false _ (Kd.C_below HC.out HB.out) hc0 (by unfold bitset_square.f; have hne := HN.out (by trivial); simpa using hne))).mono ?_
    rintro e w2 ⟨rfl, hb⟩
    have n2_ := Aside0.mk (blk_below KD.out hb); have n3_ := Aside0.mk (below_step HB.out hb)
    clear KA KD HB hb q0 q1 k0 k1 z0 z1
    have KD := n2_; have HB := n3_
    clear n2_ n3_
    have k0 := (blk_cell KD.out 0).trans rfl; have k1 := (blk_cell KD.out 1).trans rfl; have z0 := blk_frozen KD.out 0; have z1 := blk_frozen KD.out 1
    gi_wp2_with fail
    obtain ⟨X, hX⟩ : ∃ X, (World.setCell w2 ⟨w.heap.size + 1, 0, none⟩ (Value.int IntKind.i64 0)).setCell ⟨w.heap.size + 1, 1, none⟩ (Value.slice none 0 0) = X := ⟨_, rfl⟩
    have hXg : X.heap[w.heap.size + 1]? = some (.cells #[.int .i64 0, Value.slice none 0 0] 56 (0, 0)) := hX ▸ blk_put (blk_put KD.out 0 (Value.int IntKind.i64 0) rfl) 1 (Value.slice none 0 0) rfl
    have hXB := wb (g := w.heap.size + 1) hX.symm HB.out (by omega)
    try rw [hX]
    have c0' := (blk_cell hXg 0).trans rfl
    have c1' := (blk_cell hXg 1).trans rfl
    refine bodyPost_ret (v := .tuple #[.agg #[.int .i64 0, .slice none 0 0], .int .i64 60]) ?_ rfl ⟨_, rfl, Kd.S_nil _ _ _ _ _, hXB⟩
    simp [results, Tryd.f45, go_sem, c0', c1']
theorem bitset_Both.calls (k : Nat) (a0_0 : Int) (A0_1 : Option Addr) (c0_1 : Nat) (l0_1 : List (S24)) (r1 : Int) (r2 : List (S24)) (r3 : Int) (w : World) (hr0_1 : Kd.C k24 w A0_1 l0_1.length l0_1) (hc0_1 : l0_1.length ≤ c0_1) (hG : Tz w) (h : bitset_Both.f k a0_0 l0_1 = some (r1, r2, r3)) :
    Calls Tryd.prog 45 #[.agg #[.int .i64 a0_0, .slice A0_1 l0_1.length c0_1]] w fun e w' => ∃ v1_ : Value, e = .returned (.tuple #[.agg #[.int .i64 r1, v1_], .int .i64 r3]) ∧ Kd.S k24 24 w' w.heap.size (fun _ => True) v1_ r2 ∧ Below w.heap.size w w' := by
  unfold bitset_Both.f at h
  by_cases hg : Goods l0_1 ∧ l0_1.length ≤ 9223372036854775807
  · rw [if_pos hg] at h
    obtain ⟨b, hM, h⟩ := Option.bind_eq_some_iff.1 h
    cases b with
    | true =>
      have hT : TabP a0_0 l0_1 := tabp_true.1 (MayTable_is hg.1 hg.2 hM).symm
      rw [if_pos rfl] at h
      by_cases hn : a0_0 = (l0_1.length : Int)
      · rw [if_pos hn] at h
        obtain ⟨t, hTu, h⟩ := Option.bind_eq_some_iff.1 h
        subst hn
        have hR : RowsAre l0_1.length l0_1.length (fun x j => hb (l0_1.getD x ⟨0, []⟩).f1 j) l0_1 := by have := RowsAre.of hT hg.1; rwa [Int.toNat_natCast] at this
        obtain ⟨rows, hR2, hE⟩ := Turn_rows hT.2.2.1 hT.2.2.1 hR
        have ht := Ev.eq (Ev.of (bitset_Turn.mono _ _) hTu) hE
        subst ht
        simp only [Option.some.injEq, Prod.mk.injEq] at h
        obtain ⟨rfl, rfl, rfl⟩ := h
        exact Both_yes k A0_1 c0_1 l0_1 rows w hr0_1 hc0_1 hG hT hM hTu hR2.rok
      · rw [if_neg hn] at h
        cases h
        exact Both_no k a0_0 A0_1 c0_1 l0_1 w hr0_1 hc0_1 true (fun _ => hn) hM
    | false =>
      rw [if_neg (by decide)] at h
      cases h
      exact Both_no k a0_0 A0_1 c0_1 l0_1 w hr0_1 hc0_1 false (fun h => by cases h) hM
  · rw [if_neg hg] at h; cases h
end Go.Proofs.YtjmkhdhffmlhiaaDoor.PAll
end
section
namespace Go.Proofs.YtjmkhdhffmlhiaaDoor.PAll
open Go.RowKit Go.Proofs.YtjmkhdhffmlhiaaDoorW.PrintWords Go.Proofs.YtjmkhdhffmlhiaaDoorW.PrintLast Go.Proofs.YtjmkhdhffmlhiaaDoorW.PrintMore
attribute [local go_sem] max2_int min2_int max_two min_two max_three min_three max_four min_four w64_u8 w64_mod256   -- for this text's walks alone
set_option linter.unusedVariables false
set_option linter.unusedSimpArgs false
mutual
def slopelaw3_sameTable.j0 : Nat → Bool → Int → List (S24) → Int → List (S24) → Option (Bool)
  | 0, _, _, _, _, _ => none
  | k + 1, x19, x102000, x102001, x103000, x103001 => if x19 = true then (some false) else (slopelaw3_sameTable.l0 k 0 x102000 x102001 x103000 x103001)
def slopelaw3_sameTable.l0 : Nat → Int → Int → List (S24) → Int → List (S24) → Option (Bool)
  | 0, _, _, _, _, _ => none
  | k + 1, x5, x102000, x102001, x103000, x103001 => if x5 < (x102001.length : Int) then (if 0 ≤ x5 then (if x5 < (x103001.length : Int) then ((slopelaw3_same.f k ((rd_T24 x102001 x5).f0) ((rd_T24 x102001 x5).f1) ((rd_T24 x103001 x5).f0) ((rd_T24 x103001 x5).f1)).bind fun t105 => (if t105 = true then (slopelaw3_sameTable.l0 k (wrap64 (x5 + 1)) x102000 x102001 x103000 x103001) else (some false))) else (none)) else (none)) else (some true)
end
def slopelaw3_sameTable.f (k : Nat) (a0_0 : Int) (l0_1 : List (S24)) (a1_0 : Int) (l1_1 : List (S24)) : Option (Bool) := if a0_0 = a1_0 then (slopelaw3_sameTable.j0 k ((l0_1.length : Int) != (l1_1.length : Int)) a0_0 l0_1 a1_0 l1_1) else (slopelaw3_sameTable.j0 k true a0_0 l0_1 a1_0 l1_1)
def slopelaw3_sameTable.T6 : Bool × List (List Nat × List Nat) := (true, [([], []), ([0], [0]), ([], []), ([1, 2], [1, 2]), ([3], [3]), ([], []), ([5], [5]), ([], []), ([6, 7], [6, 7]), ([8], [8]), ([4, 9], [4, 9]), ([10], [10])])
def slopelaw3_sameTable.B6 : List Nat := [0, 1, 0, 7, 15, 0, 32, 0, 224, 480, 1023, 2047]
theorem slopelaw3_sameTable.tab6 : rtab .any (opsOf Tryd.f44 6) = slopelaw3_sameTable.T6 := by kernel_rfl
theorem slopelaw3_sameTable.bits6 : waitsOk slopelaw3_sameTable.T6.2 slopelaw3_sameTable.B6 = true := by kernel_rfl
set_option maxHeartbeats 8000000 in
set_option maxRecDepth 100000 in
theorem slopelaw3_sameTable.calls (k : Nat) (a0_0 : Int) (A0_1 : Option Addr) (c0_1 : Nat) (l0_1 : List (S24)) (a1_0 : Int) (A1_1 : Option Addr) (c1_1 : Nat) (l1_1 : List (S24)) (r : Bool) (w : World) (hr0_1 : Kd.C k24 w A0_1 l0_1.length l0_1) (hc0_1 : l0_1.length ≤ c0_1) (hr1_1 : Kd.C k24 w A1_1 l1_1.length l1_1) (hc1_1 : l1_1.length ≤ c1_1) (h : slopelaw3_sameTable.f k a0_0 l0_1 a1_0 l1_1 = some r) :
    Calls Tryd.prog 44 #[.agg #[.int .i64 a0_0, .slice A0_1 l0_1.length c0_1], .agg #[.int .i64 a1_0, .slice A1_1 l1_1.length c1_1]] w fun e w' => e = .returned (.bool r) ∧ Below w.heap.size w w' := by
  have hu56 := Tryd.underlying56
  have hu24 := Tryd.underlying24
  have HR0_1 := Aside0.mk hr0_1
  have HC0_1 := Aside0.mk hc0_1
  clear hr0_1 hc0_1
  have HR1_1 := Aside0.mk hr1_1
  have HC1_1 := Aside0.mk hc1_1
  clear hr1_1 hc1_1
  have HB := Aside0.mk (Below.refl w.heap.size w)
  have H : (if a0_0 = a1_0 then (slopelaw3_sameTable.j0 k ((l0_1.length : Int) != (l1_1.length : Int)) a0_0 l0_1 a1_0 l1_1) else (slopelaw3_sameTable.j0 k true a0_0 l0_1 a1_0 l1_1)) = some r := h
  clear h
  have HC3 := Aside0.mk H
  clear H
  go_enter Tryd.func44, Tryd.ntmps44
  go_upto_region 1 with (first | ((with_reducible refine gate_dst (N := 2) rfl ?_); (try (refine gate_guard (by rfl) ?_; dsimp only)); refine box_event ?hg (N := 2) ?hd (cs := #[.int .i64 a0_0, .slice A0_1 l0_1.length c0_1]) (t := 56) ?hr ?_; (case hd => rfl); (case hg => rfl); (case hr => first | (go_simp; done) | (go_simp; rfl)); intro gb101 hg w4 hbox hb; have n0_ := Aside0.mk (below_step (by repeat (first | (with_reducible first | exact HB.out | apply below_alloc | apply pw_below_drewN | apply below_drew1) | exact HB.out)) hb); have n1_ := Aside0.mk (hbox); have n2_ := Aside0.mk ((by rw [hg]; exact (below_size (by repeat (first | (with_reducible first | exact HB.out | apply below_alloc | apply pw_below_drewN | apply below_drew1) | exact HB.out))) : w.heap.size ≤ gb101)); have n3_ := Aside0.mk ((by rw [hg]; exact (below_size (by repeat (first | (with_reducible first | exact HB.out | apply below_alloc | apply pw_below_drewN | apply below_drew1) | exact HB.out))) : w.heap.size ≤ gb101)); clear HB; have HB := n0_; have BK101 := n1_; have GW101 := n2_; have GE101 := n3_; clear n0_ n1_ n2_ n3_; clear hb hbox hg) | ((with_reducible refine gate_dst (N := 3) rfl ?_); (try (refine gate_guard (by rfl) ?_; dsimp only)); refine box_event ?hg (N := 3) ?hd (cs := #[.int .i64 a1_0, .slice A1_1 l1_1.length c1_1]) (t := 56) ?hr ?_; (case hd => rfl); (case hg => rfl); (case hr => first | (go_simp; done) | (go_simp; rfl)); intro gb102 hg w5 hbox hb; have n0_ := Aside0.mk (blk_below (g := gb101) (o := .cells #[.int .i64 a0_0, .slice A0_1 l0_1.length c0_1] 56 (0, 0)) (by (with_reducible repeat (first | refine blk_drewN ?_ _ | refine blk_drew ?_ | refine blk_alloc ?_ _)); exact BK101.out) hb); have n1_ := Aside0.mk (below_step (by repeat (first | (with_reducible first | exact HB.out | apply below_alloc | apply pw_below_drewN | apply below_drew1 | refine below_set ?_ GE101.out) | exact HB.out)) hb); have n2_ := Aside0.mk (hbox); have n3_ := Aside0.mk ((by rw [hg]; exact (below_size (by repeat (first | (with_reducible first | exact HB.out | apply below_alloc | apply pw_below_drewN | apply below_drew1 | refine below_set ?_ GE101.out) | exact HB.out))) : w.heap.size ≤ gb102)); have n4_ := Aside0.mk ((by rw [hg]; exact (below_size (by repeat (first | (with_reducible first | exact HB.out | apply below_alloc | apply pw_below_drewN | apply below_drew1 | refine below_set ?_ GE101.out) | exact HB.out))) : w.heap.size ≤ gb102)); have n5_ := Aside0.mk ((by rw [hg]; exact Nat.ne_of_lt (blk_lt (g := gb101) (o := .cells #[.int .i64 a0_0, .slice A0_1 l0_1.length c0_1] 56 (0, 0)) (by (with_reducible repeat (first | refine blk_drewN ?_ _ | refine blk_drew ?_ | refine blk_alloc ?_ _)); exact BK101.out)) : gb101 ≠ gb102)); have n6_ := Aside0.mk ((by rw [hg]; exact Nat.ne_of_gt (blk_lt (g := gb101) (o := .cells #[.int .i64 a0_0, .slice A0_1 l0_1.length c0_1] 56 (0, 0)) (by (with_reducible repeat (first | refine blk_drewN ?_ _ | refine blk_drew ?_ | refine blk_alloc ?_ _)); exact BK101.out)) : gb102 ≠ gb101)); clear BK101; clear HB; have BK101 := n0_; have HB := n1_; have BK102 := n2_; have GW102 := n3_; have GE102 := n4_; have NB101_102 := n5_; have NB102_101 := n6_; clear n0_ n1_ n2_ n3_ n4_ n5_ n6_; clear hb hbox hg))
  (try simp only [Act.put, List.setIfInBounds_toArray, List.set_cons_zero, List.set_cons_succ])
  go_cut [19] (fun v19 wc => ∃ (kq : Nat) (x19_2 : Bool), v19 = .bool x19_2 ∧ Aside0 (slopelaw3_sameTable.j0 kq x19_2 a0_0 l0_1 a1_0 l1_1 = some r) ∧ Aside0 (kq ≤ k) ∧ Aside0 (wc.heap[gb101]? = some (.cells #[.int .i64 a0_0, (.slice A0_1 l0_1.length c0_1)] 56 (0, 0))) ∧ Aside0 (wc.heap[gb102]? = some (.cells #[.int .i64 a1_0, (.slice A1_1 l1_1.length c1_1)] 56 (0, 0))) ∧ Aside0 (Below w.heap.size w wc))
  case first =>
    have H := HC3.out
    clear HC3
    by_cases c6 : a0_0 = a1_0
    · rw [if_pos c6] at H
      have c6b0 : (a0_0 == a1_0) = true := beq_iff_eq.mpr c6
      have c6b1 : (a0_0 != a1_0) = false := bne_eq_false_iff_eq.mpr c6
      clear c6
      (first | rw [c6b0] | (simp only [i64_w, i32_w]; rw [c6b0]) | skip)
      have H' := Aside0.mk H
      clear H
      have hnb7 := NB101_102.out
      have hnc7 := NB102_101.out
      have hcz8_0 : w5.cell? ⟨gb101, 0, none⟩ = some (.int .i64 a0_0) := (blk_cell BK101.out 0).trans rfl
      have hcz8_1 : w5.cell? ⟨gb101, 1, none⟩ = some (.slice A0_1 l0_1.length c0_1) := (blk_cell BK101.out 1).trans rfl
      have hfz8_0 := blk_frozen BK101.out 0
      have hfz8_1 := blk_frozen BK101.out 1
      have hcz9_0 : w5.cell? ⟨gb102, 0, none⟩ = some (.int .i64 a1_0) := (blk_cell BK102.out 0).trans rfl
      have hcz9_1 : w5.cell? ⟨gb102, 1, none⟩ = some (.slice A1_1 l1_1.length c1_1) := (blk_cell BK102.out 1).trans rfl
      have hfz9_0 := blk_frozen BK102.out 0
      have hfz9_1 := blk_frozen BK102.out 1
      go_wp2
      go_meet
      case rel => exact ⟨_, (((l0_1.length : Int) != (l1_1.length : Int))), (by first | rfl | (simp; done) | (simp [*]; done)), H', ⟨by first | omega | exact Nat.le_refl _⟩, ⟨by (with_reducible repeat (first | refine blk_drewN ?_ _ | refine blk_drew ?_ | refine blk_alloc ?_ _)); exact BK101.out⟩, ⟨by (with_reducible repeat (first | refine blk_drewN ?_ _ | refine blk_drew ?_ | refine blk_alloc ?_ _)); exact BK102.out⟩, ⟨by repeat (first | (with_reducible first | exact HB.out | apply below_alloc | apply pw_below_drewN | apply below_drew1 | refine below_set ?_ GE101.out | refine below_set ?_ GE102.out) | exact HB.out)⟩⟩
    · rw [if_neg c6] at H
      have c6b0 : (a0_0 == a1_0) = false := beq_eq_false_iff_ne.mpr c6
      have c6b1 : (a0_0 != a1_0) = true := bne_iff_ne.mpr c6
      (first | rw [c6b0] | (simp only [i64_w, i32_w]; rw [c6b0]) | skip)
      have H' := Aside0.mk H
      clear H
      have hnb10 := NB101_102.out
      have hnc10 := NB102_101.out
      have hcz11_0 : w5.cell? ⟨gb101, 0, none⟩ = some (.int .i64 a0_0) := (blk_cell BK101.out 0).trans rfl
      have hcz11_1 : w5.cell? ⟨gb101, 1, none⟩ = some (.slice A0_1 l0_1.length c0_1) := (blk_cell BK101.out 1).trans rfl
      have hfz11_0 := blk_frozen BK101.out 0
      have hfz11_1 := blk_frozen BK101.out 1
      have hcz12_0 : w5.cell? ⟨gb102, 0, none⟩ = some (.int .i64 a1_0) := (blk_cell BK102.out 0).trans rfl
      have hcz12_1 : w5.cell? ⟨gb102, 1, none⟩ = some (.slice A1_1 l1_1.length c1_1) := (blk_cell BK102.out 1).trans rfl
      have hfz12_0 := blk_frozen BK102.out 0
      have hfz12_1 := blk_frozen BK102.out 1
      go_wp2
      go_meet
      case rel => exact ⟨_, (true), (by first | rfl | (simp; done) | (simp [*]; done)), H', ⟨by first | omega | exact Nat.le_refl _⟩, ⟨by (with_reducible repeat (first | refine blk_drewN ?_ _ | refine blk_drew ?_ | refine blk_alloc ?_ _)); exact BK101.out⟩, ⟨by (with_reducible repeat (first | refine blk_drewN ?_ _ | refine blk_drew ?_ | refine blk_alloc ?_ _)); exact BK102.out⟩, ⟨by repeat (first | (with_reducible first | exact HB.out | apply below_alloc | apply pw_below_drewN | apply below_drew1 | refine below_set ?_ GE101.out | refine below_set ?_ GE102.out) | exact HB.out)⟩⟩
  case rest =>
    clear HC3
    try clear c1
    try clear p2
    try clear c4
    try clear c6
    try clear c6b0
    try clear c6b1
    try clear c7
    try clear c10
    try clear hcz11_0
    try clear hcz11_1
    try clear hcz12_0
    try clear hcz12_1
    try clear hcz8_0
    try clear hcz8_1
    try clear hcz9_0
    try clear hcz9_1
    try clear hfz11_0
    try clear hfz11_1
    try clear hfz12_0
    try clear hfz12_1
    try clear hfz8_0
    try clear hfz8_1
    try clear hfz9_0
    try clear hfz9_1
    obtain ⟨kq, x19_2, rfl, HA, HJ2, BK101, BK102, HB⟩ := hcut
    cases kq with
    | zero => exact absurd HA.out (by simp [slopelaw3_sameTable.j0])
    | succ kj2 =>
      have H := HA.out
      clear HA
      simp only [slopelaw3_sameTable.j0] at H
      by_cases c13 : x19_2 = true
      · subst c13
        have H1 : (some false) = some r := by rw [if_pos rfl] at H; exact H
        clear H
        have H := H1
        clear H1
        obtain rfl := Option.some.inj H
        go_wp2
        go_ret
        exact ⟨by first | rfl | (simp [errW_none, errW_some] <;> rfl) | (simp [*, errW_none, errW_some] <;> rfl), by repeat (first | (with_reducible first | exact HB.out | apply below_alloc | apply pw_below_drewN | apply below_drew1 | refine below_set ?_ GE101.out | refine below_set ?_ GE102.out) | exact HB.out)⟩
      · replace c13 := Bool.eq_false_iff.mpr c13
        subst c13
        have H1 : (slopelaw3_sameTable.l0 kj2 0 a0_0 l0_1 a1_0 l1_1) = some r := by rw [if_neg (show ¬ (false = true) by decide)] at H; exact H
        clear H
        have H := H1
        clear H1
        have H' := Aside0.mk H
        clear H
        go_wp2
        go_loopg [5] kj2 (fun kq v5 w' => ∃ (x5_2 : Int), v5 = .int .i64 x5_2 ∧ Aside0 (slopelaw3_sameTable.l0 kq x5_2 a0_0 l0_1 a1_0 l1_1 = some r) ∧ Aside0 (kq ≤ kj2) ∧ Aside0 (w'.heap[gb101]? = some (.cells #[.int .i64 a0_0, (.slice A0_1 l0_1.length c0_1)] 56 (0, 0))) ∧ Aside0 (w'.heap[gb102]? = some (.cells #[.int .i64 a1_0, (.slice A1_1 l1_1.length c1_1)] 56 (0, 0))) ∧ Aside0 (Below w.heap.size w w'))
        case atStart => exact ⟨(0), (by first | rfl | (simp; done) | (simp [*]; done)), H', ⟨Nat.le_refl _⟩, ⟨by (with_reducible repeat (first | refine blk_drewN ?_ _ | refine blk_drew ?_ | refine blk_alloc ?_ _)); exact BK101.out⟩, ⟨by (with_reducible repeat (first | refine blk_drewN ?_ _ | refine blk_drew ?_ | refine blk_alloc ?_ _)); exact BK102.out⟩, ⟨by repeat (first | (with_reducible first | exact HB.out | apply below_alloc | apply pw_below_drewN | apply below_drew1 | refine below_set ?_ GE101.out | refine below_set ?_ GE102.out) | exact HB.out)⟩⟩
        case round =>
          clear H'
          try clear c1
          try clear p2
          try clear c4
          try clear c6
          try clear c6b0
          try clear c6b1
          try clear c7
          try clear c10
          try clear c13
          try clear hcz11_0
          try clear hcz11_1
          try clear hcz12_0
          try clear hcz12_1
          try clear hcz8_0
          try clear hcz8_1
          try clear hcz9_0
          try clear hcz9_1
          try clear hfz11_0
          try clear hfz11_1
          try clear hfz12_0
          try clear hfz12_1
          try clear hfz8_0
          try clear hfz8_1
          try clear hfz9_0
          try clear hfz9_1
          try clear p2
          obtain ⟨x5_2, rfl, HA, HK2, BK101, BK102, HB⟩ := hrel
          cases gk with
          | zero => exact absurd HA.out (by simp [slopelaw3_sameTable.l0])
          | succ k2 =>
            have H := HA.out
            clear HA
            simp only [slopelaw3_sameTable.l0] at H
            by_cases c14 : x5_2 < (l0_1.length : Int)
            · rw [if_pos c14] at H
              have c14b0 : decide (x5_2 < (l0_1.length : Int)) = true := decide_eq_true c14
              clear c14
              by_cases c15 : 0 ≤ x5_2
              · rw [if_pos c15] at H
                have c15b0 : decide (0 ≤ x5_2) = true := decide_eq_true c15
                clear c15
                by_cases c16 : x5_2 < (l1_1.length : Int)
                · rw [if_pos c16] at H
                  have c16b0 : decide (x5_2 < (l1_1.length : Int)) = true := decide_eq_true c16
                  clear c16
                  replace H := Option.bind_eq_some_iff.mp H
                  obtain ⟨t105, A170, H⟩ := H
                  replace H : (if t105 = true then (slopelaw3_sameTable.l0 k2 (wrap64 (x5_2 + 1)) a0_0 l0_1 a1_0 l1_1) else (some false)) = some r := H
                  have A17 := Aside0.mk A170
                  clear A170
                  by_cases c18 : t105 = true
                  · subst c18
                    have H1 : (slopelaw3_sameTable.l0 k2 (wrap64 (x5_2 + 1)) a0_0 l0_1 a1_0 l1_1) = some r := by rw [if_pos rfl] at H; exact H
                    clear H
                    have H := H1
                    clear H1
                    have H' := Aside0.mk H
                    clear H
                    have hnb19 := NB101_102.out
                    have hnc19 := NB102_101.out
                    have hcz20_0 : wr.cell? ⟨gb101, 0, none⟩ = some (.int .i64 a0_0) := (blk_cell BK101.out 0).trans rfl
                    have hcz20_1 : wr.cell? ⟨gb101, 1, none⟩ = some (.slice A0_1 l0_1.length c0_1) := (blk_cell BK101.out 1).trans rfl
                    have hfz20_0 := blk_frozen BK101.out 0
                    have hfz20_1 := blk_frozen BK101.out 1
                    try go_wp2
                    have n0_ := Aside0.mk (blk_drew BK101.out)
                    have n1_ := Aside0.mk (blk_drew BK102.out)
                    have n2_ := Aside0.mk (below_drew1 HB.out)
                    clear BK101
                    clear BK102
                    clear HB
                    have BK101 := n0_
                    have BK102 := n1_
                    have HB := n2_
                    clear n0_ n1_ n2_
                    have p103 : 0 ≤ (x5_2 : Int) := of_decide_eq_true (by first | (with_reducible assumption) | assumption)
                    have q103 : x5_2 < (l0_1.length : Int) := of_decide_eq_true (by first | (with_reducible assumption) | assumption)
                    obtain ⟨ad103, A103_1, c103_1, e103, hx103_0, hx103_1, hl103_1, hi103_1⟩ := at_T24 HR0_1.out x5_2 p103 q103
                    have hw103_1 := hx103_1
                    have hw103_0 := hx103_0
                    cases e103
                    replace hx103_0 := (HB.out.cell (World.block_lt_of_cell? w _ hx103_0)).trans hx103_0
                    replace hx103_1 := (HB.out.cell (World.block_lt_of_cell? w _ hx103_1)).trans hx103_1
                    have HR103_1 := Aside0.mk hi103_1
                    have HC103_1 := Aside0.mk hl103_1
                    clear hi103_1 hl103_1
                    replace p103 := eq_true p103
                    replace q103 := eq_true q103
                    have p104 : 0 ≤ (x5_2 : Int) := of_decide_eq_true (by first | (with_reducible assumption) | assumption)
                    have q104 : x5_2 < (l1_1.length : Int) := of_decide_eq_true (by first | (with_reducible assumption) | assumption)
                    obtain ⟨ad104, A104_1, c104_1, e104, hx104_0, hx104_1, hl104_1, hi104_1⟩ := at_T24 HR1_1.out x5_2 p104 q104
                    have hw104_1 := hx104_1
                    have hw104_0 := hx104_0
                    cases e104
                    replace hx104_0 := (HB.out.cell (World.block_lt_of_cell? w _ hx104_0)).trans hx104_0
                    replace hx104_1 := (HB.out.cell (World.block_lt_of_cell? w _ hx104_1)).trans hx104_1
                    have HR104_1 := Aside0.mk hi104_1
                    have HC104_1 := Aside0.mk hl104_1
                    clear hi104_1 hl104_1
                    replace p104 := eq_true p104
                    replace q104 := eq_true q104
                    refine start_ (n := 12) (S := fun w' => w'.cell? ⟨gb101, 0, none⟩ = some (.int .i64 a0_0) ∧ w'.cell? ⟨gb101, 1, none⟩ = some (.slice (some ad103) l0_1.length c0_1) ∧ w'.cell? ⟨gb102, 0, none⟩ = some (.int .i64 a1_0) ∧ w'.cell? ⟨gb102, 1, none⟩ = some (.slice (some ad104) l1_1.length c1_1) ∧ w'.cell? (ad103.add ((x5_2).toNat * 2)) = some (.int .i64 ((rd_T24 l0_1 x5_2).f0)) ∧ w'.cell? ⟨(ad103.add ((x5_2).toNat * 2)).block, (ad103.add ((x5_2).toNat * 2)).off + 1, none⟩ = some (.slice A103_1 ((rd_T24 l0_1 x5_2).f1).length c103_1) ∧ w'.cell? (ad104.add ((x5_2).toNat * 2)) = some (.int .i64 ((rd_T24 l1_1 x5_2).f0)) ∧ w'.cell? ⟨(ad104.add ((x5_2).toNat * 2)).block, (ad104.add ((x5_2).toNat * 2)).off + 1, none⟩ = some (.slice A104_1 ((rd_T24 l1_1 x5_2).f1).length c104_1)) (ds := []) #[false, false, false, false, false, false, false, false, false, false, false, false] (by kernel_rfl) rfl rfl ⟨(blk_cell BK101.out 0).trans rfl, (blk_cell BK101.out 1).trans rfl, (blk_cell BK102.out 0).trans rfl, (blk_cell BK102.out 1).trans rfl, ((HB.out.cell (World.block_lt_of_cell? w _ hw103_0)).trans hw103_0), ((HB.out.cell (World.block_lt_of_cell? w _ hw103_1)).trans hw103_1), ((HB.out.cell (World.block_lt_of_cell? w _ hw104_0)).trans hw104_0), ((HB.out.cell (World.block_lt_of_cell? w _ hw104_1)).trans hw104_1)⟩ (fun hHeld => ?_); refine with_tabW slopelaw3_sameTable.tab6 slopelaw3_sameTable.bits6 (fun HT_ HW_ => ?_)
                    generalize wr.drew = w21 at BK101 BK102 HB HR103_1 HR104_1 hx103_0 hx103_1 hx104_0 hx104_1 hHeld ⊢
                    refine pure_ (i := 0) (N := some 27) (v := ?_) (a' := ?_) #[true, false, false, false, false, false, false, false, false, false, false, false] rfl rfl (any_of HT_.out (by kernel_rfl)) (fun _ _ _ h => h) (Or.inl ⟨by rfl, ?_⟩) ?_ ?_
                    rotate_left
                    · intro w'
                      go_simp
                      with_reducible rfl
                    rotate_left
                    · simp only [Act.put, List.setIfInBounds_toArray, List.set_cons_zero, List.set_cons_succ, i64_w, i32_w]
                      rfl
                    refine pure_ (i := 2) (N := some 29) (v := ?_) (a' := ?_) #[true, false, true, false, false, false, false, false, false, false, false, false] rfl rfl (any_of HT_.out (by kernel_rfl)) (fun _ _ _ h => h) (Or.inl ⟨by rfl, ?_⟩) ?_ ?_
                    rotate_left
                    · intro w'
                      go_simp
                      with_reducible rfl
                    rotate_left
                    · simp only [Act.put, List.setIfInBounds_toArray, List.set_cons_zero, List.set_cons_succ, i64_w, i32_w]
                      rfl
                    refine pure_ (i := 5) (N := some 32) (v := ?_) (a' := ?_) #[true, false, true, false, false, true, false, false, false, false, false, false] rfl rfl (any_of HT_.out (by kernel_rfl)) (fun _ _ _ h => h) (Or.inl ⟨by rfl, ?_⟩) ?_ ?_
                    rotate_left
                    · intro w'
                      go_simp
                      with_reducible rfl
                    rotate_left
                    · simp only [Act.put, List.setIfInBounds_toArray, List.set_cons_zero, List.set_cons_succ, i64_w, i32_w]
                      rfl
                    refine pure_ (i := 7) (N := some 34) (v := ?_) (a' := ?_) #[true, false, true, false, false, true, false, true, false, false, false, false] rfl rfl (any_of HT_.out (by kernel_rfl)) (fun _ _ _ h => h) (Or.inl ⟨by rfl, ?_⟩) ?_ ?_
                    rotate_left
                    · intro w'
                      go_simp
                      with_reducible rfl
                    rotate_left
                    · simp only [Act.put, List.setIfInBounds_toArray, List.set_cons_zero, List.set_cons_succ, i64_w, i32_w]
                      rfl
                    refine take_ (i := 1) (N := some 28) (v := ?_) (a' := ?_) #[true, true, true, false, false, true, false, true, false, false, false, false] rfl rfl (take_ofW HT_.out HW_.out (by kernel_rfl)) (fun _ _ _ h => h) (Or.inl ⟨by rfl, ?_⟩) hHeld ?_ ?_
                    rotate_left
                    · rintro w' ⟨s0, s1, s2, s3, s4, s5, s6, s7⟩
                      go_simp
                      with_reducible rfl
                    rotate_left
                    · simp only [Act.put, List.setIfInBounds_toArray, List.set_cons_zero, List.set_cons_succ, i64_w, i32_w]
                      rfl
                    refine pure_ (i := 3) (N := some 30) (v := ?_) (a' := ?_) #[true, true, true, true, false, true, false, true, false, false, false, false] rfl rfl (any_of HT_.out (by kernel_rfl)) (fun _ _ _ h => h) (Or.inl ⟨by rfl, ?_⟩) ?_ ?_
                    rotate_left
                    · intro w'
                      go_simp
                      with_reducible rfl
                    rotate_left
                    · simp only [Act.put, List.setIfInBounds_toArray, List.set_cons_zero, List.set_cons_succ, i64_w, i32_w]
                      rfl
                    refine take_ (i := 4) (N := some 31) (v := ?_) (a' := ?_) #[true, true, true, true, true, true, false, true, false, false, false, false] rfl rfl (take_ofW HT_.out HW_.out (by kernel_rfl)) (fun _ _ _ h => h) (Or.inl ⟨by rfl, ?_⟩) hHeld ?_ ?_
                    rotate_left
                    · rintro w' ⟨s0, s1, s2, s3, s4, s5, s6, s7⟩
                      go_simp
                      with_reducible rfl
                    rotate_left
                    · simp only [Act.put, List.setIfInBounds_toArray, List.set_cons_zero, List.set_cons_succ, i64_w, i32_w]
                      rfl
                    refine take_ (i := 6) (N := some 33) (v := ?_) (a' := ?_) #[true, true, true, true, true, true, true, true, false, false, false, false] rfl rfl (take_ofW HT_.out HW_.out (by kernel_rfl)) (fun _ _ _ h => h) (Or.inl ⟨by rfl, ?_⟩) hHeld ?_ ?_
                    rotate_left
                    · rintro w' ⟨s0, s1, s2, s3, s4, s5, s6, s7⟩
                      go_simp
                      with_reducible rfl
                    rotate_left
                    · simp only [Act.put, List.setIfInBounds_toArray, List.set_cons_zero, List.set_cons_succ, i64_w, i32_w]
                      rfl
                    refine pure_ (i := 8) (N := some 35) (v := ?_) (a' := ?_) #[true, true, true, true, true, true, true, true, true, false, false, false] rfl rfl (any_of HT_.out (by kernel_rfl)) (fun _ _ _ h => h) (Or.inl ⟨by rfl, ?_⟩) ?_ ?_
                    rotate_left
                    · intro w'
                      go_simp
                      with_reducible rfl
                    rotate_left
                    · simp only [Act.put, List.setIfInBounds_toArray, List.set_cons_zero, List.set_cons_succ, i64_w, i32_w]
                      rfl
                    refine take_ (i := 9) (N := some 36) (v := ?_) (a' := ?_) #[true, true, true, true, true, true, true, true, true, true, false, false] rfl rfl (take_ofW HT_.out HW_.out (by kernel_rfl)) (fun _ _ _ h => h) (Or.inl ⟨by rfl, ?_⟩) hHeld ?_ ?_
                    rotate_left
                    · rintro w' ⟨s0, s1, s2, s3, s4, s5, s6, s7⟩
                      go_simp
                      with_reducible rfl
                    rotate_left
                    · simp only [Act.put, List.setIfInBounds_toArray, List.set_cons_zero, List.set_cons_succ, i64_w, i32_w]
                      rfl
                    refine one_ (i := 10) (N := some 37) #[true, true, true, true, true, true, true, true, true, true, true, false] rfl rfl (one_of HT_.out (by kernel_rfl)) (by decide) (fun K hK => ?_)
                    refine goes_ Tryd.func20 (by kernel_rfl) rfl #[.agg #[.int .i64 ((rd_T24 l0_1 x5_2).f0), .slice A103_1 ((rd_T24 l0_1 x5_2).f1).length c103_1], .agg #[.int .i64 ((rd_T24 l1_1 x5_2).f0), .slice A104_1 ((rd_T24 l1_1 x5_2).f1).length c104_1]] (by rfl) rfl rfl (by (try simp only [List.map_toArray, List.map_cons, List.map_nil]); first | done | rfl | (simp only [List.length_drop, List.length_take]; rfl)) ?_
                    with_reducible refine (slopelaw3_same.calls k2 ((rd_T24 l0_1 x5_2).f0) _ _ ((rd_T24 l0_1 x5_2).f1) ((rd_T24 l1_1 x5_2).f0) _ _ ((rd_T24 l1_1 x5_2).f1) true _ ?side1 ?side2 ?side3 ?side4 A17.out).mono ?_
                    (case side1 => repeat (first | exact (Kd.C_below HR103_1.out HB.out) | (with_reducible refine Kd.C_alloc ?_ _) | (with_reducible refine Kd.C_drewN ?_ _) | (with_reducible refine Kd.C_drew ?_)))
                    (case side2 => exact HC103_1.out)
                    (case side3 => repeat (first | exact (Kd.C_below HR104_1.out HB.out) | (with_reducible refine Kd.C_alloc ?_ _) | (with_reducible refine Kd.C_drewN ?_ _) | (with_reducible refine Kd.C_drew ?_)))
                    (case side4 => exact HC104_1.out)
                    rintro e w22 ⟨rfl, hb⟩
                    refine ⟨_, rfl, ?_⟩
                    have n0_ := Aside0.mk (blk_below (g := gb101) (o := .cells #[.int .i64 a0_0, .slice (some ad103) l0_1.length c0_1] 56 (0, 0)) (by (with_reducible repeat (first | refine blk_drewN ?_ _ | refine blk_drew ?_ | refine blk_alloc ?_ _)); exact BK101.out) hb)
                    have n1_ := Aside0.mk (blk_below (g := gb102) (o := .cells #[.int .i64 a1_0, .slice (some ad104) l1_1.length c1_1] 56 (0, 0)) (by (with_reducible repeat (first | refine blk_drewN ?_ _ | refine blk_drew ?_ | refine blk_alloc ?_ _)); exact BK102.out) hb)
                    have n2_ := Aside0.mk (below_step (by repeat (first | (with_reducible first | exact HB.out | apply below_alloc | apply pw_below_drewN | apply below_drew1 | refine below_set ?_ GE101.out | refine below_set ?_ GE102.out) | exact HB.out)) hb)
                    clear BK101
                    clear BK102
                    clear HB
                    have BK101 := n0_
                    have BK102 := n1_
                    have HB := n2_
                    clear n0_ n1_ n2_
                    (try clear hb)
                    (try clear hb2)
                    (try clear hk)
                    (try clear hi)
                    refine hK.out _ _ ⟨(blk_cell BK101.out 0).trans rfl, (blk_cell BK101.out 1).trans rfl, (blk_cell BK102.out 0).trans rfl, (blk_cell BK102.out 1).trans rfl, ((HB.out.cell (World.block_lt_of_cell? w _ hw103_0)).trans hw103_0), ((HB.out.cell (World.block_lt_of_cell? w _ hw103_1)).trans hw103_1), ((HB.out.cell (World.block_lt_of_cell? w _ hw104_0)).trans hw104_0), ((HB.out.cell (World.block_lt_of_cell? w _ hw104_1)).trans hw104_1)⟩ (fun hHeld => ?_)
                    clear hK K
                    refine norm_ (a' := ?_) ?_ ?_
                    rotate_left
                    · show Act.put _ (some 37) _ = _
                      simp only [Act.put, List.setIfInBounds_toArray, List.set_cons_zero, List.set_cons_succ, i64_w, i32_w]
                      rfl
                    refine pure_ (i := 11) (N := some 38) (v := ?_) (a' := ?_) #[true, true, true, true, true, true, true, true, true, true, true, true] rfl rfl (any_of HT_.out (by kernel_rfl)) (fun _ _ _ h => h) (Or.inl ⟨by rfl, ?_⟩) ?_ ?_
                    rotate_left
                    · intro w'
                      go_simp
                      with_reducible rfl
                    rotate_left
                    · simp only [Act.put, List.setIfInBounds_toArray, List.set_cons_zero, List.set_cons_succ, i64_w, i32_w]
                      rfl
                    refine done_ (done_of HT_.out (by kernel_rfl)) ?_
                    try go_wp2
                    go_roundg k2
                    case measure => have := HJ2.out; have := HK2.out; omega
                    case rel => exact ⟨(wrap64 (x5_2 + 1)), (by first | rfl | (simp; done) | (simp [*]; done)), H', ⟨by have := HJ2.out; have := HK2.out; omega⟩, ⟨by (with_reducible repeat (first | refine blk_drewN ?_ _ | refine blk_drew ?_ | refine blk_alloc ?_ _)); exact BK101.out⟩, ⟨by (with_reducible repeat (first | refine blk_drewN ?_ _ | refine blk_drew ?_ | refine blk_alloc ?_ _)); exact BK102.out⟩, ⟨by repeat (first | (with_reducible first | exact HB.out | apply below_alloc | apply pw_below_drewN | apply below_drew1 | refine below_set ?_ GE101.out | refine below_set ?_ GE102.out) | exact HB.out)⟩⟩
                  · replace c18 := Bool.eq_false_iff.mpr c18
                    subst c18
                    have H1 : (some false) = some r := by rw [if_neg (show ¬ (false = true) by decide)] at H; exact H
                    clear H
                    have H := H1
                    clear H1
                    obtain rfl := Option.some.inj H
                    have hnb23 := NB101_102.out
                    have hnc23 := NB102_101.out
                    have hcz24_0 : wr.cell? ⟨gb101, 0, none⟩ = some (.int .i64 a0_0) := (blk_cell BK101.out 0).trans rfl
                    have hcz24_1 : wr.cell? ⟨gb101, 1, none⟩ = some (.slice A0_1 l0_1.length c0_1) := (blk_cell BK101.out 1).trans rfl
                    have hfz24_0 := blk_frozen BK101.out 0
                    have hfz24_1 := blk_frozen BK101.out 1
                    try go_wp2
                    have n0_ := Aside0.mk (blk_drew BK101.out)
                    have n1_ := Aside0.mk (blk_drew BK102.out)
                    have n2_ := Aside0.mk (below_drew1 HB.out)
                    clear BK101
                    clear BK102
                    clear HB
                    have BK101 := n0_
                    have BK102 := n1_
                    have HB := n2_
                    clear n0_ n1_ n2_
                    have p103 : 0 ≤ (x5_2 : Int) := of_decide_eq_true (by first | (with_reducible assumption) | assumption)
                    have q103 : x5_2 < (l0_1.length : Int) := of_decide_eq_true (by first | (with_reducible assumption) | assumption)
                    obtain ⟨ad103, A103_1, c103_1, e103, hx103_0, hx103_1, hl103_1, hi103_1⟩ := at_T24 HR0_1.out x5_2 p103 q103
                    have hw103_1 := hx103_1
                    have hw103_0 := hx103_0
                    cases e103
                    replace hx103_0 := (HB.out.cell (World.block_lt_of_cell? w _ hx103_0)).trans hx103_0
                    replace hx103_1 := (HB.out.cell (World.block_lt_of_cell? w _ hx103_1)).trans hx103_1
                    have HR103_1 := Aside0.mk hi103_1
                    have HC103_1 := Aside0.mk hl103_1
                    clear hi103_1 hl103_1
                    replace p103 := eq_true p103
                    replace q103 := eq_true q103
                    have p104 : 0 ≤ (x5_2 : Int) := of_decide_eq_true (by first | (with_reducible assumption) | assumption)
                    have q104 : x5_2 < (l1_1.length : Int) := of_decide_eq_true (by first | (with_reducible assumption) | assumption)
                    obtain ⟨ad104, A104_1, c104_1, e104, hx104_0, hx104_1, hl104_1, hi104_1⟩ := at_T24 HR1_1.out x5_2 p104 q104
                    have hw104_1 := hx104_1
                    have hw104_0 := hx104_0
                    cases e104
                    replace hx104_0 := (HB.out.cell (World.block_lt_of_cell? w _ hx104_0)).trans hx104_0
                    replace hx104_1 := (HB.out.cell (World.block_lt_of_cell? w _ hx104_1)).trans hx104_1
                    have HR104_1 := Aside0.mk hi104_1
                    have HC104_1 := Aside0.mk hl104_1
                    clear hi104_1 hl104_1
                    replace p104 := eq_true p104
                    replace q104 := eq_true q104
                    refine start_ (n := 12) (S := fun w' => w'.cell? ⟨gb101, 0, none⟩ = some (.int .i64 a0_0) ∧ w'.cell? ⟨gb101, 1, none⟩ = some (.slice (some ad103) l0_1.length c0_1) ∧ w'.cell? ⟨gb102, 0, none⟩ = some (.int .i64 a1_0) ∧ w'.cell? ⟨gb102, 1, none⟩ = some (.slice (some ad104) l1_1.length c1_1) ∧ w'.cell? (ad103.add ((x5_2).toNat * 2)) = some (.int .i64 ((rd_T24 l0_1 x5_2).f0)) ∧ w'.cell? ⟨(ad103.add ((x5_2).toNat * 2)).block, (ad103.add ((x5_2).toNat * 2)).off + 1, none⟩ = some (.slice A103_1 ((rd_T24 l0_1 x5_2).f1).length c103_1) ∧ w'.cell? (ad104.add ((x5_2).toNat * 2)) = some (.int .i64 ((rd_T24 l1_1 x5_2).f0)) ∧ w'.cell? ⟨(ad104.add ((x5_2).toNat * 2)).block, (ad104.add ((x5_2).toNat * 2)).off + 1, none⟩ = some (.slice A104_1 ((rd_T24 l1_1 x5_2).f1).length c104_1)) (ds := []) #[false, false, false, false, false, false, false, false, false, false, false, false] (by kernel_rfl) rfl rfl ⟨(blk_cell BK101.out 0).trans rfl, (blk_cell BK101.out 1).trans rfl, (blk_cell BK102.out 0).trans rfl, (blk_cell BK102.out 1).trans rfl, ((HB.out.cell (World.block_lt_of_cell? w _ hw103_0)).trans hw103_0), ((HB.out.cell (World.block_lt_of_cell? w _ hw103_1)).trans hw103_1), ((HB.out.cell (World.block_lt_of_cell? w _ hw104_0)).trans hw104_0), ((HB.out.cell (World.block_lt_of_cell? w _ hw104_1)).trans hw104_1)⟩ (fun hHeld => ?_); refine with_tabW slopelaw3_sameTable.tab6 slopelaw3_sameTable.bits6 (fun HT_ HW_ => ?_)
                    generalize wr.drew = w25 at BK101 BK102 HB HR103_1 HR104_1 hx103_0 hx103_1 hx104_0 hx104_1 hHeld ⊢
                    refine pure_ (i := 0) (N := some 27) (v := ?_) (a' := ?_) #[true, false, false, false, false, false, false, false, false, false, false, false] rfl rfl (any_of HT_.out (by kernel_rfl)) (fun _ _ _ h => h) (Or.inl ⟨by rfl, ?_⟩) ?_ ?_
                    rotate_left
                    · intro w'
                      go_simp
                      with_reducible rfl
                    rotate_left
                    · simp only [Act.put, List.setIfInBounds_toArray, List.set_cons_zero, List.set_cons_succ, i64_w, i32_w]
                      rfl
                    refine pure_ (i := 2) (N := some 29) (v := ?_) (a' := ?_) #[true, false, true, false, false, false, false, false, false, false, false, false] rfl rfl (any_of HT_.out (by kernel_rfl)) (fun _ _ _ h => h) (Or.inl ⟨by rfl, ?_⟩) ?_ ?_
                    rotate_left
                    · intro w'
                      go_simp
                      with_reducible rfl
                    rotate_left
                    · simp only [Act.put, List.setIfInBounds_toArray, List.set_cons_zero, List.set_cons_succ, i64_w, i32_w]
                      rfl
                    refine pure_ (i := 5) (N := some 32) (v := ?_) (a' := ?_) #[true, false, true, false, false, true, false, false, false, false, false, false] rfl rfl (any_of HT_.out (by kernel_rfl)) (fun _ _ _ h => h) (Or.inl ⟨by rfl, ?_⟩) ?_ ?_
                    rotate_left
                    · intro w'
                      go_simp
                      with_reducible rfl
                    rotate_left
                    · simp only [Act.put, List.setIfInBounds_toArray, List.set_cons_zero, List.set_cons_succ, i64_w, i32_w]
                      rfl
                    refine pure_ (i := 7) (N := some 34) (v := ?_) (a' := ?_) #[true, false, true, false, false, true, false, true, false, false, false, false] rfl rfl (any_of HT_.out (by kernel_rfl)) (fun _ _ _ h => h) (Or.inl ⟨by rfl, ?_⟩) ?_ ?_
                    rotate_left
                    · intro w'
                      go_simp
                      with_reducible rfl
                    rotate_left
                    · simp only [Act.put, List.setIfInBounds_toArray, List.set_cons_zero, List.set_cons_succ, i64_w, i32_w]
                      rfl
                    refine take_ (i := 1) (N := some 28) (v := ?_) (a' := ?_) #[true, true, true, false, false, true, false, true, false, false, false, false] rfl rfl (take_ofW HT_.out HW_.out (by kernel_rfl)) (fun _ _ _ h => h) (Or.inl ⟨by rfl, ?_⟩) hHeld ?_ ?_
                    rotate_left
                    · rintro w' ⟨s0, s1, s2, s3, s4, s5, s6, s7⟩
                      go_simp
                      with_reducible rfl
                    rotate_left
                    · simp only [Act.put, List.setIfInBounds_toArray, List.set_cons_zero, List.set_cons_succ, i64_w, i32_w]
                      rfl
                    refine pure_ (i := 3) (N := some 30) (v := ?_) (a' := ?_) #[true, true, true, true, false, true, false, true, false, false, false, false] rfl rfl (any_of HT_.out (by kernel_rfl)) (fun _ _ _ h => h) (Or.inl ⟨by rfl, ?_⟩) ?_ ?_
                    rotate_left
                    · intro w'
                      go_simp
                      with_reducible rfl
                    rotate_left
                    · simp only [Act.put, List.setIfInBounds_toArray, List.set_cons_zero, List.set_cons_succ, i64_w, i32_w]
                      rfl
                    refine take_ (i := 4) (N := some 31) (v := ?_) (a' := ?_) #[true, true, true, true, true, true, false, true, false, false, false, false] rfl rfl (take_ofW HT_.out HW_.out (by kernel_rfl)) (fun _ _ _ h => h) (Or.inl ⟨by rfl, ?_⟩) hHeld ?_ ?_
                    rotate_left
                    · rintro w' ⟨s0, s1, s2, s3, s4, s5, s6, s7⟩
                      go_simp
                      with_reducible rfl
                    rotate_left
                    · simp only [Act.put, List.setIfInBounds_toArray, List.set_cons_zero, List.set_cons_succ, i64_w, i32_w]
                      rfl
                    refine take_ (i := 6) (N := some 33) (v := ?_) (a' := ?_) #[true, true, true, true, true, true, true, true, false, false, false, false] rfl rfl (take_ofW HT_.out HW_.out (by kernel_rfl)) (fun _ _ _ h => h) (Or.inl ⟨by rfl, ?_⟩) hHeld ?_ ?_
                    rotate_left
                    · rintro w' ⟨s0, s1, s2, s3, s4, s5, s6, s7⟩
                      go_simp
                      with_reducible rfl
                    rotate_left
                    · simp only [Act.put, List.setIfInBounds_toArray, List.set_cons_zero, List.set_cons_succ, i64_w, i32_w]
                      rfl
                    refine pure_ (i := 8) (N := some 35) (v := ?_) (a' := ?_) #[true, true, true, true, true, true, true, true, true, false, false, false] rfl rfl (any_of HT_.out (by kernel_rfl)) (fun _ _ _ h => h) (Or.inl ⟨by rfl, ?_⟩) ?_ ?_
                    rotate_left
                    · intro w'
                      go_simp
                      with_reducible rfl
                    rotate_left
                    · simp only [Act.put, List.setIfInBounds_toArray, List.set_cons_zero, List.set_cons_succ, i64_w, i32_w]
                      rfl
                    refine take_ (i := 9) (N := some 36) (v := ?_) (a' := ?_) #[true, true, true, true, true, true, true, true, true, true, false, false] rfl rfl (take_ofW HT_.out HW_.out (by kernel_rfl)) (fun _ _ _ h => h) (Or.inl ⟨by rfl, ?_⟩) hHeld ?_ ?_
                    rotate_left
                    · rintro w' ⟨s0, s1, s2, s3, s4, s5, s6, s7⟩
                      go_simp
                      with_reducible rfl
                    rotate_left
                    · simp only [Act.put, List.setIfInBounds_toArray, List.set_cons_zero, List.set_cons_succ, i64_w, i32_w]
                      rfl
                    refine one_ (i := 10) (N := some 37) #[true, true, true, true, true, true, true, true, true, true, true, false] rfl rfl (one_of HT_.out (by kernel_rfl)) (by decide) (fun K hK => ?_)
                    refine goes_ Tryd.func20 (by kernel_rfl) rfl #[.agg #[.int .i64 ((rd_T24 l0_1 x5_2).f0), .slice A103_1 ((rd_T24 l0_1 x5_2).f1).length c103_1], .agg #[.int .i64 ((rd_T24 l1_1 x5_2).f0), .slice A104_1 ((rd_T24 l1_1 x5_2).f1).length c104_1]] (by rfl) rfl rfl (by (try simp only [List.map_toArray, List.map_cons, List.map_nil]); first | done | rfl | (simp only [List.length_drop, List.length_take]; rfl)) ?_
                    with_reducible refine (slopelaw3_same.calls k2 ((rd_T24 l0_1 x5_2).f0) _ _ ((rd_T24 l0_1 x5_2).f1) ((rd_T24 l1_1 x5_2).f0) _ _ ((rd_T24 l1_1 x5_2).f1) false _ ?side1 ?side2 ?side3 ?side4 A17.out).mono ?_
                    (case side1 => repeat (first | exact (Kd.C_below HR103_1.out HB.out) | (with_reducible refine Kd.C_alloc ?_ _) | (with_reducible refine Kd.C_drewN ?_ _) | (with_reducible refine Kd.C_drew ?_)))
                    (case side2 => exact HC103_1.out)
                    (case side3 => repeat (first | exact (Kd.C_below HR104_1.out HB.out) | (with_reducible refine Kd.C_alloc ?_ _) | (with_reducible refine Kd.C_drewN ?_ _) | (with_reducible refine Kd.C_drew ?_)))
                    (case side4 => exact HC104_1.out)
                    rintro e w26 ⟨rfl, hb⟩
                    refine ⟨_, rfl, ?_⟩
                    have n0_ := Aside0.mk (blk_below (g := gb101) (o := .cells #[.int .i64 a0_0, .slice (some ad103) l0_1.length c0_1] 56 (0, 0)) (by (with_reducible repeat (first | refine blk_drewN ?_ _ | refine blk_drew ?_ | refine blk_alloc ?_ _)); exact BK101.out) hb)
                    have n1_ := Aside0.mk (blk_below (g := gb102) (o := .cells #[.int .i64 a1_0, .slice (some ad104) l1_1.length c1_1] 56 (0, 0)) (by (with_reducible repeat (first | refine blk_drewN ?_ _ | refine blk_drew ?_ | refine blk_alloc ?_ _)); exact BK102.out) hb)
                    have n2_ := Aside0.mk (below_step (by repeat (first | (with_reducible first | exact HB.out | apply below_alloc | apply pw_below_drewN | apply below_drew1 | refine below_set ?_ GE101.out | refine below_set ?_ GE102.out) | exact HB.out)) hb)
                    clear BK101
                    clear BK102
                    clear HB
                    have BK101 := n0_
                    have BK102 := n1_
                    have HB := n2_
                    clear n0_ n1_ n2_
                    (try clear hb)
                    (try clear hb2)
                    (try clear hk)
                    (try clear hi)
                    refine hK.out _ _ ⟨(blk_cell BK101.out 0).trans rfl, (blk_cell BK101.out 1).trans rfl, (blk_cell BK102.out 0).trans rfl, (blk_cell BK102.out 1).trans rfl, ((HB.out.cell (World.block_lt_of_cell? w _ hw103_0)).trans hw103_0), ((HB.out.cell (World.block_lt_of_cell? w _ hw103_1)).trans hw103_1), ((HB.out.cell (World.block_lt_of_cell? w _ hw104_0)).trans hw104_0), ((HB.out.cell (World.block_lt_of_cell? w _ hw104_1)).trans hw104_1)⟩ (fun hHeld => ?_)
                    clear hK K
                    refine norm_ (a' := ?_) ?_ ?_
                    rotate_left
                    · show Act.put _ (some 37) _ = _
                      simp only [Act.put, List.setIfInBounds_toArray, List.set_cons_zero, List.set_cons_succ, i64_w, i32_w]
                      rfl
                    refine pure_ (i := 11) (N := some 38) (v := ?_) (a' := ?_) #[true, true, true, true, true, true, true, true, true, true, true, true] rfl rfl (any_of HT_.out (by kernel_rfl)) (fun _ _ _ h => h) (Or.inl ⟨by rfl, ?_⟩) ?_ ?_
                    rotate_left
                    · intro w'
                      go_simp
                      with_reducible rfl
                    rotate_left
                    · simp only [Act.put, List.setIfInBounds_toArray, List.set_cons_zero, List.set_cons_succ, i64_w, i32_w]
                      rfl
                    refine done_ (done_of HT_.out (by kernel_rfl)) ?_
                    try go_wp2
                    go_ret
                    exact ⟨by first | rfl | (simp [errW_none, errW_some] <;> rfl) | (simp [*, errW_none, errW_some] <;> rfl), by repeat (first | (with_reducible first | exact HB.out | apply below_alloc | apply pw_below_drewN | apply below_drew1 | refine below_set ?_ GE101.out | refine below_set ?_ GE102.out) | exact HB.out)⟩
                · rw [if_neg c16] at H
                  exact absurd H (by simp)
              · rw [if_neg c15] at H
                exact absurd H (by simp)
            · rw [if_neg c14] at H
              have c14b0 : decide (x5_2 < (l0_1.length : Int)) = false := decide_eq_false c14
              clear c14
              obtain rfl := Option.some.inj H
              have hnb27 := NB101_102.out
              have hnc27 := NB102_101.out
              have hcz28_0 : wr.cell? ⟨gb101, 0, none⟩ = some (.int .i64 a0_0) := (blk_cell BK101.out 0).trans rfl
              have hcz28_1 : wr.cell? ⟨gb101, 1, none⟩ = some (.slice A0_1 l0_1.length c0_1) := (blk_cell BK101.out 1).trans rfl
              have hfz28_0 := blk_frozen BK101.out 0
              have hfz28_1 := blk_frozen BK101.out 1
              go_wp2
              go_ret
              exact ⟨by first | rfl | (simp [errW_none, errW_some] <;> rfl) | (simp [*, errW_none, errW_some] <;> rfl), by repeat (first | (with_reducible first | exact HB.out | apply below_alloc | apply pw_below_drewN | apply below_drew1 | refine below_set ?_ GE101.out | refine below_set ?_ GE102.out) | exact HB.out)⟩
end Go.Proofs.YtjmkhdhffmlhiaaDoor.PAll
end
