import Derived.Test.YtjmkhdhffmlhiaaBzBitLattice5
section
namespace Go.Proofs.Ytjmkhdhffmlhiaa.PAll
set_option linter.unusedVariables false
set_option linter.unusedSimpArgs false
open Go.RowKit Go.Proofs.YtjmkhdhffmlhiaaW.PrintWords Go.Proofs.YtjmkhdhffmlhiaaW.PrintLast Go.Proofs.YtjmkhdhffmlhiaaW.PrintMore
attribute [local go_sem] Oper.semAt_some
set_option maxHeartbeats 8000000 in
set_option maxRecDepth 100000 in
theorem BitLattice_out (k : Nat) (n : Int) (Ax : Option Addr) (cx : Nat) (x : List Int) (Ay : Option Addr) (cy : Nat) (y : List Int) (Az : Option Addr) (cz : Nat) (z : List Int) (r1 r2 r3 e f g : Int) (a b c : List Int) (w : World) (hx : Kd.C (Kd.int .i64) w Ax x.length x) (hc_x : x.length ≤ cx) (hy : Kd.C (Kd.int .i64) w Ay y.length y) (hc_y : y.length ≤ cy) (hz : Kd.C (Kd.int .i64) w Az z.length z) (hc_z : z.length ≤ cz) (ha0 : slopelaw3_alive.f k = some true)
    (ha1 : bitset_Make.f k n x = some (r1, a, e)) (hb1 : bitset_Make.f k n y = some (r2, b, f)) (hc1 : bitset_Make.f k n z = some (r3, c, g))
    (hcase : (n < 0 ∧ (e != 0) = true) ∨ (¬ n < 0 ∧ n > 4096 ∧ (e != 0) = true) ∨ ((0 ≤ n ∧ n ≤ 4096) ∧ (e != 0) = true) ∨ ((0 ≤ n ∧ n ≤ 4096) ∧ e = 0 ∧ (f != 0) = true) ∨ ((0 ≤ n ∧ n ≤ 4096) ∧ e = 0 ∧ f = 0 ∧ (g != 0) = true)) :
    Calls Try.prog 12 #[.int .i64 n, .slice Ax x.length cx, .slice Ay y.length cy, .slice Az z.length cz] w fun e w' => e = .returned (.bool true) ∧ Below w.heap.size w w' := by
  have hu24 := Try.underlying26
  have HX_x := Aside0.mk hx
  have HX_y := Aside0.mk hy
  have HX_z := Aside0.mk hz
  have ha := Aside0.mk ha0; have h_a := Aside0.mk ha1; have h_b := Aside0.mk hb1; have h_c := Aside0.mk hc1; have HCASE := Aside0.mk hcase
  clear hx hy hz ha0 ha1 hb1 hc1 hcase
  have HB := Aside0.mk (Below.refl w.heap.size w)
  refine (callsIn_wide (n := 6)).1 ?_
  refine callsIn_of_wp Try.func12 rfl trivial ?_ rfl
  simp only [Try.ntmps12, List.size_toArray, List.length_cons, List.length_nil, Nat.reduceAdd, Nat.reduceSub, Array.replicate_succ, Array.replicate_zero, List.push_toArray, List.append_toArray, List.nil_append, List.cons_append]
  gi_wp2_with fail
  refine ⟨trivial, ?_⟩; gi_at_call 37
  refine (callsIn_wide.2 (slopelaw3_alive.calls k true _ ha.out)).mono ?_
  rintro e_ w1 ⟨rfl, hb⟩
  have mB := Aside0.mk (below_step HB.out hb)
  clear HB; have HB := mB; clear mB
  clear hb
  gi_wp2_with fail
  refine ⟨trivial, ?_⟩; gi_at_call 14
  refine (callsIn_wide.2 (bitset_Make.calls k n _ _ x _ _ _ _ (Kd.C_below HX_x.out HB.out) hc_x h_a.out)).mono ?_
  rintro e_ w2 ⟨v, rfl, ho, hb⟩
  obtain ⟨A_a, c_a, rfl⟩ := Kd.R_slice ho
  have mB := Aside0.mk (below_alloc (below_step HB.out hb) (.cells #[.int .i64 r1, .slice A_a a.length c_a] 26 (0, 0)))
  clear HB; have HB := mB; clear mB
  clear ho hb
  gi_wp2_with fail
  refine ⟨trivial, ?_⟩; gi_at_call 14
  refine (callsIn_wide.2 (bitset_Make.calls k n _ _ y _ _ _ _ (Kd.C_below HX_y.out HB.out) hc_y h_b.out)).mono ?_
  rintro e_ w3 ⟨v, rfl, ho, hb⟩
  obtain ⟨A_b, c_b, rfl⟩ := Kd.R_slice ho
  have mB := Aside0.mk (below_alloc (below_step HB.out hb) (.cells #[.int .i64 r2, .slice A_b b.length c_b] 26 (0, 0)))
  clear HB; have HB := mB; clear mB
  clear ho hb
  gi_wp2_with fail
  refine ⟨trivial, ?_⟩; gi_at_call 14
  refine (callsIn_wide.2 (bitset_Make.calls k n _ _ z _ _ _ _ (Kd.C_below HX_z.out HB.out) hc_z h_c.out)).mono ?_
  rintro e_ w4 ⟨v, rfl, ho, hb⟩
  obtain ⟨A_c, c_c, rfl⟩ := Kd.R_slice ho
  have mB := Aside0.mk (below_alloc (below_step HB.out hb) (.cells #[.int .i64 r3, .slice A_c c.length c_c] 26 (0, 0)))
  clear HB; have HB := mB; clear mB
  clear ho hb
  rcases HCASE.out with ⟨hn, he⟩ | ⟨hn0, hn, he⟩ | ⟨hn, he⟩ | ⟨hn, rfl, he⟩ | ⟨hn, rfl, rfl, he⟩
  · clear HCASE
    have hd1 : decide (n < 0) = true := decide_eq_true hn
    gi_wp2_with fail
    refine ⟨trivial, ?_⟩; gi_at_call 19
    refine (callsIn_wide.2 (slopelaw3_num.calls e e _ rfl)).mono ?_
    rintro e_ w5 ⟨rfl, hd⟩
    have mB := Aside0.mk (below_step HB.out hd.below)
    clear HB; have HB := mB; clear mB
    clear hd
    gi_wp2_with fail
    try (refine ⟨trivial, ?_⟩; gi_wp2_with fail)
    try (refine ⟨trivial, ?_⟩; gi_wp2_with fail)
    refine bodyPost_ret (v := .bool true) ?_ rfl ⟨rfl, HB.out⟩
    simp [results, Try.f12, go_sem]
  · clear HCASE
    have hd1 : decide (n < 0) = false := decide_eq_false (by omega); have hd2 : decide (n > 4096) = true := decide_eq_true hn
    gi_wp2_with fail
    refine ⟨trivial, ?_⟩; gi_at_call 19
    refine (callsIn_wide.2 (slopelaw3_num.calls e e _ rfl)).mono ?_
    rintro e_ w5 ⟨rfl, hd⟩
    have mB := Aside0.mk (below_step HB.out hd.below)
    clear HB; have HB := mB; clear mB
    clear hd
    gi_wp2_with fail
    try (refine ⟨trivial, ?_⟩; gi_wp2_with fail)
    try (refine ⟨trivial, ?_⟩; gi_wp2_with fail)
    refine bodyPost_ret (v := .bool true) ?_ rfl ⟨rfl, HB.out⟩
    simp [results, Try.f12, go_sem]
  · clear HCASE
    have hd1 : decide (n < 0) = false := decide_eq_false (by omega); have hd2 : decide (n > 4096) = false := decide_eq_false (by omega); clear hn
    gi_wp2_with fail
    refine ⟨trivial, ?_⟩; gi_at_call 19
    refine (callsIn_wide.2 (slopelaw3_num.calls e e _ rfl)).mono ?_
    rintro e_ w5 ⟨rfl, hd⟩
    have mB := Aside0.mk (below_step HB.out hd.below)
    clear HB; have HB := mB; clear mB
    clear hd
    gi_wp2_with fail
    try (refine ⟨trivial, ?_⟩; gi_wp2_with fail)
    try (refine ⟨trivial, ?_⟩; gi_wp2_with fail)
    refine bodyPost_ret (v := .bool true) ?_ rfl ⟨rfl, HB.out⟩
    simp [results, Try.f12, go_sem]
  · clear HCASE
    have hd1 : decide (n < 0) = false := decide_eq_false (by omega); have hd2 : decide (n > 4096) = false := decide_eq_false (by omega); clear hn
    gi_wp2_with fail
    refine ⟨trivial, ?_⟩; gi_at_call 19
    refine (callsIn_wide.2 (slopelaw3_num.calls 0 0 _ rfl)).mono ?_
    rintro e_ w5 ⟨rfl, hd⟩
    have mB := Aside0.mk (below_step HB.out hd.below)
    clear HB; have HB := mB; clear mB
    clear hd
    gi_wp2_with fail
    refine ⟨trivial, ?_⟩; gi_at_call 19
    refine (callsIn_wide.2 (slopelaw3_num.calls f f _ rfl)).mono ?_
    rintro e_ w6 ⟨rfl, hd⟩
    have mB := Aside0.mk (below_step HB.out hd.below)
    clear HB; have HB := mB; clear mB
    clear hd
    gi_wp2_with fail
    try (refine ⟨trivial, ?_⟩; gi_wp2_with fail)
    try (refine ⟨trivial, ?_⟩; gi_wp2_with fail)
    refine bodyPost_ret (v := .bool true) ?_ rfl ⟨rfl, HB.out⟩
    simp [results, Try.f12, go_sem]
  · clear HCASE
    have hd1 : decide (n < 0) = false := decide_eq_false (by omega); have hd2 : decide (n > 4096) = false := decide_eq_false (by omega); clear hn
    gi_wp2_with fail
    refine ⟨trivial, ?_⟩; gi_at_call 19
    refine (callsIn_wide.2 (slopelaw3_num.calls 0 0 _ rfl)).mono ?_
    rintro e_ w5 ⟨rfl, hd⟩
    have mB := Aside0.mk (below_step HB.out hd.below)
    clear HB; have HB := mB; clear mB
    clear hd
    gi_wp2_with fail
    refine ⟨trivial, ?_⟩; gi_at_call 19
    refine (callsIn_wide.2 (slopelaw3_num.calls 0 0 _ rfl)).mono ?_
    rintro e_ w6 ⟨rfl, hd⟩
    have mB := Aside0.mk (below_step HB.out hd.below)
    clear HB; have HB := mB; clear mB
    clear hd
    gi_wp2_with fail
    refine ⟨trivial, ?_⟩; gi_at_call 19
    refine (callsIn_wide.2 (slopelaw3_num.calls g g _ rfl)).mono ?_
    rintro e_ w7 ⟨rfl, hd⟩
    have mB := Aside0.mk (below_step HB.out hd.below)
    clear HB; have HB := mB; clear mB
    clear hd
    gi_wp2_with fail
    try (refine ⟨trivial, ?_⟩; gi_wp2_with fail)
    try (refine ⟨trivial, ?_⟩; gi_wp2_with fail)
    refine bodyPost_ret (v := .bool true) ?_ rfl ⟨rfl, HB.out⟩
    simp [results, Try.f12, go_sem]
set_option maxHeartbeats 4000000 in
theorem BitLattice_well {N : Nat} (hN : N ≤ 4096) {pa pb pc : Nat → Bool} {a b c : List Int} (ha : Is N pa a) (hb1 : Is N pb b) (hc : Is N pc c) (Ax : Option Addr) (cx : Nat) (x : List Int) (Ay : Option Addr) (cy : Nat) (y : List Int) (Az : Option Addr) (cz : Nat) (z : List Int) (w : World) (hx : Kd.C (Kd.int .i64) w Ax x.length x) (hc_x : x.length ≤ cx) (hy : Kd.C (Kd.int .i64) w Ay y.length y) (hc_y : y.length ≤ cy) (hz : Kd.C (Kd.int .i64) w Az z.length z) (hc_z : z.length ≤ cz)
    (y36 : Ev (fun k => bitset_Make.f k (N : Int) x) ((N : Int), a, 0)) (y37 : Ev (fun k => bitset_Make.f k (N : Int) y) ((N : Int), b, 0)) (y38 : Ev (fun k => bitset_Make.f k (N : Int) z) ((N : Int), c, 0)) :
    Calls Try.prog 12 #[.int .i64 N, .slice Ax x.length cx, .slice Ay y.length cy, .slice Az z.length cz] w fun e w' => e = .returned (.bool true) ∧ Below w.heap.size w w' := by
  obtain ⟨K0, x0⟩ := alive_ev
  obtain ⟨K36, x36⟩ := y36
  obtain ⟨K37, x37⟩ := y37
  obtain ⟨K38, x38⟩ := y38
  obtain ⟨ab, iab, K1, x1⟩ := union2 hN ha hb1
  obtain ⟨ba, iba, K2, x2⟩ := union2 hN hb1 ha
  obtain ⟨bc, ibc, K3, x3⟩ := union2 hN hb1 hc
  obtain ⟨lf, ilf, K4, x4⟩ := union2 hN iab hc
  obtain ⟨rg, irg, K5, x5⟩ := union2 hN ha ibc
  obtain ⟨al, ial, K6, x6⟩ := union3 hN ha hb1 hc
  obtain ⟨ib, iib, K7, x7⟩ := inter2 hN ha hb1
  obtain ⟨ic, iic, K8, x8⟩ := inter2 hN ha hc
  obtain ⟨ov, iov, K9, x9⟩ := inter2 hN ha ibc
  obtain ⟨sm, ism, K10, x10⟩ := union2 hN iib iic
  obtain ⟨K11, x11⟩ := Is.same hN iab iba (fun e _ => Bool.or_comm _ _)
  obtain ⟨K12, x12⟩ := Is.same hN ilf irg (fun e _ => Bool.or_assoc _ _ _)
  obtain ⟨K13, x13⟩ := Is.same hN ilf ial (fun e _ => rfl)
  obtain ⟨K14, x14⟩ := Is.same hN iov ism (fun e _ => Bool.and_or_distrib_left _ _ _)
  obtain ⟨K15, x15⟩ := equal2 hN iov ism (fun e _ => Bool.and_or_distrib_left _ _ _)
  obtain ⟨K16, x16⟩ := subset2 hN iib ha (fun e _ h => by revert h; cases pa e <;> simp)
  obtain ⟨K17, x17⟩ := subset2 hN ha iab (fun e _ h => by rw [h]; rfl)
  obtain ⟨ra, ira, K18, x18⟩ := rest1 hN ha
  obtain ⟨rb, irb, K19, x19⟩ := rest1 hN hb1
  obtain ⟨rab, irab, K20, x20⟩ := rest1 hN iab
  obtain ⟨bo, ibo, K21, x21⟩ := inter2 hN ira irb
  obtain ⟨mi, imi, K22, x22⟩ := minus2 hN ha hb1
  obtain ⟨mb, imb, K23, x23⟩ := inter2 hN ha irb
  obtain ⟨di, idi, K24, x24⟩ := differ2 hN ha hb1
  obtain ⟨du, idu, K25, x25⟩ := minus2 hN iab iib
  obtain ⟨K26, x26⟩ := Is.same hN irab ibo (fun e _ => by cases pa e <;> cases pb e <;> rfl)
  obtain ⟨K27, x27⟩ := Is.same hN imi imb (fun e _ => rfl)
  obtain ⟨K28, x28⟩ := Is.same hN idi idu (fun e _ => by cases pa e <;> cases pb e <;> rfl)
  obtain ⟨K29, x29⟩ := disjoint2 hN ha ira (fun e _ => by cases pa e <;> rfl)
  obtain ⟨K30, x30⟩ := disjoint2 hN imi hb1 (fun e _ => by cases pa e <;> cases pb e <;> rfl)
  obtain ⟨K31, x31⟩ := count1 hN iab
  obtain ⟨K32, x32⟩ := count1 hN iib
  obtain ⟨K33, x33⟩ := count1 hN ha
  obtain ⟨K34, x34⟩ := count1 hN hb1
  obtain ⟨K35, x35⟩ := count1 hN ira
  have s1 := counts_add pa pb (List.range N)
  have s2 := counts_rest pa (List.range N)
  rw [List.length_range] at s2
  have l2 : (List.range N).countP pb ≤ N := by have := List.countP_le_length (p := pb) (l := List.range N); rwa [List.length_range] at this
  obtain ⟨k, hk⟩ : ∃ k, k = K0 + K36 + K37 + K38 + K1 + K2 + K3 + K4 + K5 + K6 + K7 + K8 + K9 + K10 + K11 + K12 + K13 + K14 + K15 + K16 + K17 + K18 + K19 + K20 + K21 + K22 + K23 + K24 + K25 + K26 + K27 + K28 + K29 + K30 + K31 + K32 + K33 + K34 + K35 := ⟨_, rfl⟩
  have z0 := x0 k (by omega)
  have z1 := x1 k (by omega)
  have z2 := x2 k (by omega)
  have z3 := x3 k (by omega)
  have z4 := x4 k (by omega)
  have z5 := x5 k (by omega)
  have z6 := x6 k (by omega)
  have z7 := x7 k (by omega)
  have z8 := x8 k (by omega)
  have z9 := x9 k (by omega)
  have z10 := x10 k (by omega)
  have z11 := x11 k (by omega)
  have z12 := x12 k (by omega)
  have z13 := x13 k (by omega)
  have z14 := x14 k (by omega)
  have z15 := x15 k (by omega)
  have z16 := x16 k (by omega)
  have z17 := x17 k (by omega)
  have z18 := x18 k (by omega)
  have z19 := x19 k (by omega)
  have z20 := x20 k (by omega)
  have z21 := x21 k (by omega)
  have z22 := x22 k (by omega)
  have z23 := x23 k (by omega)
  have z24 := x24 k (by omega)
  have z25 := x25 k (by omega)
  have z26 := x26 k (by omega)
  have z27 := x27 k (by omega)
  have z28 := x28 k (by omega)
  have z29 := x29 k (by omega)
  have z30 := x30 k (by omega)
  have z31 := x31 k (by omega)
  have z32 := x32 k (by omega)
  have z33 := x33 k (by omega)
  have z34 := x34 k (by omega)
  have z35 := x35 k (by omega)
  have z36 := x36 k (by omega)
  have z37 := x37 k (by omega)
  have z38 := x38 k (by omega)
  clear hk
  dsimp only at z0 z1 z2 z3 z4 z5 z6 z7 z8 z9 z10 z11 z12 z13 z14 z15 z16 z17 z18 z19 z20 z21 z22 z23 z24 z25 z26 z27 z28 z29 z30 z31 z32 z33 z34 z35 z36 z37 z38
  exact BitLattice_walk k N hN Ax cx x Ay cy y Az cz z a b c ab ba bc lf rg al ib ic ov sm ra rb rab bo mi mb di du _ _ _ _ _ (by omega) (by omega) l2 w hx hc_x hy hc_y hz hc_z z0 (z36) (z37) (z38) (z1) (z2) (z3) (z4) (z5) (z6) (z7) (z8) (z9) (z10) (z11) (z12) (z13) (z14) (z15) (z16) (z17) (z18) (z19) (z20) (z21) (z22) (z23) (z24) (z25) (z26) (z27) (z28) (z29) (z30) (z31) (z32) (z33) (z34) (z35)
theorem BitLattice_calls (n : Int) (Ax : Option Addr) (cx : Nat) (x : List Int) (Ay : Option Addr) (cy : Nat) (y : List Int) (Az : Option Addr) (cz : Nat) (z : List Int) (w : World) (hx : Kd.C (Kd.int .i64) w Ax x.length x) (hc_x : x.length ≤ cx) (hy : Kd.C (Kd.int .i64) w Ay y.length y) (hc_y : y.length ≤ cy) (hz : Kd.C (Kd.int .i64) w Az z.length z) (hc_z : z.length ≤ cz)
    (lx : x.length ≤ 9223372036854775807) (ly : y.length ≤ 9223372036854775807) (lz : z.length ≤ 9223372036854775807) :
    Calls Try.prog 12 #[.int .i64 n, .slice Ax x.length cx, .slice Ay y.length cy, .slice Az z.length cz] w fun e w' => e = .returned (.bool true) ∧ Below w.heap.size w w' := by
  obtain ⟨⟨n1, a, e⟩, m1, y1⟩ := Make_eq n x lx
  obtain ⟨⟨n2, b, f⟩, m2, y2⟩ := Make_eq n y ly
  obtain ⟨⟨n3, c, g⟩, m3, y3⟩ := Make_eq n z lz
  obtain ⟨K0, x0⟩ := alive_ev
  obtain ⟨K1, x1⟩ := id y1
  obtain ⟨K2, x2⟩ := id y2
  obtain ⟨K3, x3⟩ := id y3
  obtain ⟨k, hk⟩ : ∃ k, k = K0 + K1 + K2 + K3 := ⟨_, rfl⟩
  have z0 := x0 k (by omega); have z1 := x1 k (by omega); have z2 := x2 k (by omega); have z3 := x3 k (by omega)
  dsimp only at z0 z1 z2 z3
  by_cases hn : 0 ≤ n ∧ n ≤ 4096
  · by_cases he : e = 0
    · by_cases hf : f = 0
      · by_cases hg : g = 0
        · subst he hf hg
          obtain ⟨N, rfl⟩ := Int.eq_ofNat_of_zero_le (show 0 ≤ n by omega)
          have hN : N ≤ 4096 := by omega
          obtain ⟨p, ip, rfl⟩ : ∃ p, Is N p a ∧ n1 = (N : Int) := by
            rcases m1 with ⟨_, q⟩ | ⟨h1, h2, ⟨_, q⟩ | ⟨_, ws, i, q⟩⟩
            · cases q
            · cases q
            · cases q; exact ⟨_, by simpa using i, rfl⟩
          obtain ⟨q, iq, rfl⟩ : ∃ p, Is N p b ∧ n2 = (N : Int) := by
            rcases m2 with ⟨_, q⟩ | ⟨h1, h2, ⟨_, q⟩ | ⟨_, ws, i, q⟩⟩
            · cases q
            · cases q
            · cases q; exact ⟨_, by simpa using i, rfl⟩
          obtain ⟨r, ir, rfl⟩ : ∃ p, Is N p c ∧ n3 = (N : Int) := by
            rcases m3 with ⟨_, q⟩ | ⟨h1, h2, ⟨_, q⟩ | ⟨_, ws, i, q⟩⟩
            · cases q
            · cases q
            · cases q; exact ⟨_, by simpa using i, rfl⟩
          exact BitLattice_well hN ip iq ir Ax cx x Ay cy y Az cz z w hx hc_x hy hc_y hz hc_z y1 y2 y3
        · exact BitLattice_out k n Ax cx x Ay cy y Az cz z n1 n2 n3 e f g a b c w hx hc_x hy hc_y hz hc_z z0 z1 z2 z3 (.inr (.inr (.inr (.inr ⟨hn, he, hf, bne_iff_ne.2 hg⟩))))
      · exact BitLattice_out k n Ax cx x Ay cy y Az cz z n1 n2 n3 e f g a b c w hx hc_x hy hc_y hz hc_z z0 z1 z2 z3 (.inr (.inr (.inr (.inl ⟨hn, he, bne_iff_ne.2 hf⟩))))
    · exact BitLattice_out k n Ax cx x Ay cy y Az cz z n1 n2 n3 e f g a b c w hx hc_x hy hc_y hz hc_z z0 z1 z2 z3 (.inr (.inr (.inl ⟨hn, bne_iff_ne.2 he⟩)))
  · have he : e = 60 := by
      rcases m1 with ⟨_, q⟩ | ⟨h1, h2, _⟩
      · cases q; rfl
      · exact absurd ⟨h1, h2⟩ hn
    exact BitLattice_out k n Ax cx x Ay cy y Az cz z n1 n2 n3 e f g a b c w hx hc_x hy hc_y hz hc_z z0 z1 z2 z3 (by
      by_cases h0 : n < 0
      · exact .inl ⟨h0, by rw [he]; rfl⟩
      · exact .inr (.inl ⟨h0, by omega, by rw [he]; rfl⟩))
end Go.Proofs.Ytjmkhdhffmlhiaa.PAll
end
