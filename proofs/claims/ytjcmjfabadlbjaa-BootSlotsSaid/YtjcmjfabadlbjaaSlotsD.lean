/- BootSlots's code, step by step: a boot turns one slot alone, the one with the lesser number; a whole torn one is a boot, an empty one nothing. -/
import Derived.Test.YtjcmjfabadlbjaaTornRow
import Derived.Test.YtjcmjfabadlbjaaEqDisk
namespace Go.Proofs.Ytjcmjfabadlbjaa.Boot
open Go.RowKit Go.Proofs.YtjcmjfabadlbjaaW.PrintWords Go.Proofs.YtjcmjfabadlbjaaW.PrintLast Go.Proofs.YtjcmjfabadlbjaaW.PrintMore Go.Proofs.Ytjcmjfabadlbjaa.PS3 Go.Proofs.Ytjcmjfabadlbjaa.Byt Go.Proofs.Ytjcmjfabadlbjaa.Slot

attribute [local go_sem high] eqA45

theorem and1 (n : Int) : Go.bits .and .i64 n 1 = n % 2 := by
  have h0 : (BitVec.ofInt 64 1).toNat = 2 ^ 1 - 1 := by decide
  have key : (BitVec.ofInt 64 n &&& BitVec.ofInt 64 1).toNat = (n % ((2 ^ 64 : Nat) : Int)).toNat % 2 ^ 1 := by
    rw [BitVec.toNat_and, BitVec.toNat_ofInt, h0, Nat.and_two_pow_sub_one_eq_mod]
  show IntKind.i64.wrap ((BitVec.ofInt 64 n &&& BitVec.ofInt 64 1).toNat : Nat) = n % 2
  rw [key, IntKind.wrap_i64]
  omega

theorem beq_list {a b : ByteArray} (h : a = b) : (a.toList == b.toList) = true := by subst h; exact beq_self_eq_true _
theorem ne_list {a b : ByteArray} (h : a.data.toList ≠ b.data.toList) : (a.toList == b.toList) = false := by
  rw [← beq_toListBytes]
  exact Bool.eq_false_iff.2 fun e => h (by rw [(MapKept.bytes_beq a b).1 e])

theorem rem17w (n : Int) : 0 ≤ wrap64 ((IntKind.u64.wrap n).tmod 17) ∧ wrap64 ((IntKind.u64.wrap n).tmod 17) ≤ 16 := by
  have hu : 0 ≤ IntKind.u64.wrap n ∧ IntKind.u64.wrap n < 18446744073709551616 := by rw [IntKind.wrap_u64]; omega
  rw [Int.tmod_eq_emod_of_nonneg (by omega)]
  unfold wrap64
  omega

/-- Two disks in variables, and what is behind. -/
def Two (w : World) (g g2 : Nat) (a b a' b' : ByteArray) (W : World) : Prop :=
  (W.cell? ⟨g, 0, none⟩ = some (.string a) ∧ W.cell? ⟨g, 1, none⟩ = some (.string b) ∧ W.cell? ⟨g2, 0, none⟩ = some (.string a') ∧ W.cell? ⟨g2, 1, none⟩ = some (.string b')) ∧ Aside0 (Var W g a b ∧ Var W g2 a' b' ∧ Below w.heap.size w W)
theorem Two.mk_ {w W : World} {g g2 : Nat} {a b a' b' : ByteArray} (h1 : Var W g a b) (h2 : Var W g2 a' b') (h3 : Below w.heap.size w W) : Two w g g2 a b a' b' W :=
  ⟨⟨h1.c0, h1.c1, h2.c0, h2.c1⟩, ⟨h1, h2, h3⟩⟩
theorem Two.below {w W W' : World} {g g2 : Nat} {a b a' b' : ByteArray} (h : Two w g g2 a b a' b' W) (hb : Below W.heap.size W W') : Two w g g2 a b a' b' W' :=
  .mk_ (h.2.out.1.below hb) (h.2.out.2.1.below hb) (below_step h.2.out.2.2 hb)

set_option maxHeartbeats 4000000 in
set_option maxRecDepth 100000 in
theorem slots_walk (n at_ : Int) (w : World) :
    Calls Try.prog 11 #[.int .i64 n, .int .i64 at_] w fun e w' => e = .returned (.bool true) ∧ Below w.heap.size w w' := by
  obtain ⟨m, hm⟩ : ∃ m, Go.bits .and .i64 n 15 = m := ⟨_, rfl⟩
  have hm0 : 0 ≤ m ∧ m ≤ 15 := by rw [and15] at hm; omega
  go_enter Try.func11, Try.ntmps11
  go_wp2_with (first
    | (go_at_call 31; (with_reducible refine (awake_calls _).mono ?_); rintro e w1 ⟨rfl, hb1⟩; have HB := Aside0.mk hb1; clear hb1)
    | (go_at_call 29; (with_reducible refine (new_calls _).mono ?_); rintro e w2 ⟨rfl, hb1⟩; have n0_ := Aside0.mk (below_step HB.out hb1); clear HB hb1; have HB := n0_; clear n0_))
  have hstart : Aside0 (BootsAt w m w2.heap.size m.toNat (.int .i64 0) (w2.alloc (.cells #[.string newA, .string newB] 45))) :=
    ⟨0, newA, newB, rfl, by omega, by omega, inv_new, Var.new _ _ _, below_alloc HB.out _, HB.out.size⟩
  clear HB
  generalize w2.alloc (.cells #[.string newA, .string newB] 45) = W at *
  generalize w2.heap.size = g at *
  go_loopg [6] (m.toNat) (fun gk i wr => BootsAt w m g gk i wr)
  case atStart => exact hstart.out
  case round =>
    clear hstart
    obtain ⟨k, a, b, rfl, hk, hkm, hI, hV, hB, hg⟩ := hrel
    by_cases hlt : (k : Int) < m
    · have d1 : decide ((k : Int) < m) = true := decide_eq_true hlt
      obtain ⟨gk', rfl⟩ : ∃ gk', gk = gk' + 1 := ⟨gk - 1, by omega⟩
      obtain ⟨a', b', hw, -, hI2, -, hs1, hs2, hs3, hs4⟩ := inv_write hI (by omega) 16 (by omega) (by omega)
      have ht := inv_bootF hI 16
      rw [hw] at ht
      replace ht := Aside0.mk ht
      replace hI2 := Aside0.mk (hI2 rfl)
      have p0 := hV.c0
      have p1 := hV.c1
      replace hB := Aside0.mk hB
      clear hw hI
      obtain ⟨q, hq⟩ : ∃ q : Int, Go.bits .and .i64 (k : Int) 1 = q := ⟨_, rfl⟩
      have hq2 : (q = 0 ∧ a' = a ∧ (b'.toList == b.toList) = false) ∨ (q = 1 ∧ b' = b ∧ (a'.toList == a.toList) = false) := by
        rw [and1] at hq
        rcases (by omega : (k : Int) % 2 = 0 ∨ (k : Int) % 2 = 1) with h | h
        · refine .inl ⟨by omega, hs1 h, ne_list (hs3 rfl h)⟩
        · refine .inr ⟨by omega, hs2 h, ne_list (hs4 rfl h)⟩
      clear hs1 hs2 hs3 hs4
      have e1 : ((k : Int) + 1 != IntKind.i64.wrap ((k : Int) + 1)) = false := by rw [IntKind.wrap_i64]; exact bne_eq_false_iff_eq.mpr (by omega)
      have e2 : IntKind.i64.wrap (1 - 0) = 1 := by decide
      have e3 : IntKind.i64.wrap (1 - 1) = 0 := by decide
      have e4 : IntKind.i64.wrap 1 = 1 := by decide
      have e5 : IntKind.i64.wrap 0 = 0 := by decide
      replace hV := Aside0.mk hV
      rcases hq2 with ⟨rfl, hu, hne⟩ | ⟨rfl, hu, hne⟩
      · replace hu := beq_list hu
        have hz := Aside0.mk hV.out.lt
        replace hV := hV.out
        go_wp2_with (go_at_call 23; (with_reducible refine (boot_calls _ _ _ _ _ _ ht.out _).mono ?_); rintro e w3 ⟨rfl, hb1⟩; have h2 := Two.mk_ ((hV.below hb1).alloc (.cells #[.string a', .string b'] 45)) (Var.new w3 a' b') (below_alloc (below_step hB.out hb1) (.cells #[.string a', .string b'] 45)); replace h2 := Aside0.mk h2; clear hB hb1)
        clear hV hz
        generalize w3.alloc (.cells #[.string a', .string b'] 45) = W3 at *
        generalize w3.heap.size = g2 at *
        go_region_held3 (fun W => (W.cell? ⟨g, 0, none⟩ = some (.string a) ∧ W.cell? ⟨g, 1, none⟩ = some (.string b) ∧ W.cell? ⟨g2, 0, none⟩ = some (.string a') ∧ W.cell? ⟨g2, 1, none⟩ = some (.string b')) ∧ Aside0 (Var W g a b ∧ Var W g2 a' b' ∧ Below w.heap.size w W))
          (first | exact (Two.below (w := w) (by assumption) hb1) | exact h2.out.below (below_drew (Below.refl _ _)) | exact h2.out)
          (first | (go_at_call 19; (with_reducible refine (num_below 0 _).mono ?_); rintro e w' ⟨rfl, hb1⟩))
        rename_i hHeld
        have hV := hHeld.2.out.1
        have hV2 := hHeld.2.out.2.1
        have hB := Aside0.mk hHeld.2.out.2.2
        clear hHeld h2 p0 p1
        have q0 := hV2.c0
        have q1 := hV2.c1
        have f0 := hV.f0
        have f1 := hV.f1
        have c0 := hV.c0
        have c1 := hV.c1
        have hV7 := Aside0.mk (hV.store a' b')
        have hB7 := Aside0.mk ((hB.out.setCell (p := ⟨g, 0, none⟩) hg (.string a')).setCell (p := ⟨g, 1, none⟩) hg (.string b'))
        clear hV hV2 hB
        go_wp2_with fail
        clear q0 q1 f0 f1 c0 c1
        go_roundg gk'
        case measure => exact Nat.lt_succ_self _
        case rel => exact ⟨k + 1, a', b', rfl, by omega, by omega, hI2.out, hV7.out, hB7.out, hg⟩
      · replace hu := beq_list hu
        have hz := Aside0.mk hV.out.lt
        replace hV := hV.out
        go_wp2_with (go_at_call 23; (with_reducible refine (boot_calls _ _ _ _ _ _ ht.out _).mono ?_); rintro e w3 ⟨rfl, hb1⟩; have h2 := Two.mk_ ((hV.below hb1).alloc (.cells #[.string a', .string b'] 45)) (Var.new w3 a' b') (below_alloc (below_step hB.out hb1) (.cells #[.string a', .string b'] 45)); replace h2 := Aside0.mk h2; clear hB hb1)
        clear hV hz
        generalize w3.alloc (.cells #[.string a', .string b'] 45) = W3 at *
        generalize w3.heap.size = g2 at *
        go_region_held3 (fun W => (W.cell? ⟨g, 0, none⟩ = some (.string a) ∧ W.cell? ⟨g, 1, none⟩ = some (.string b) ∧ W.cell? ⟨g2, 0, none⟩ = some (.string a') ∧ W.cell? ⟨g2, 1, none⟩ = some (.string b')) ∧ Aside0 (Var W g a b ∧ Var W g2 a' b' ∧ Below w.heap.size w W))
          (first | exact (Two.below (w := w) (by assumption) hb1) | exact h2.out.below (below_drew (Below.refl _ _)) | exact h2.out)
          (first | (go_at_call 19; (with_reducible refine (num_below 0 _).mono ?_); rintro e w' ⟨rfl, hb1⟩))
        rename_i hHeld
        have hV := hHeld.2.out.1
        have hV2 := hHeld.2.out.2.1
        have hB := Aside0.mk hHeld.2.out.2.2
        clear hHeld h2 p0 p1
        have q0 := hV2.c0
        have q1 := hV2.c1
        have f0 := hV.f0
        have f1 := hV.f1
        have c0 := hV.c0
        have c1 := hV.c1
        have hV7 := Aside0.mk (hV.store a' b')
        have hB7 := Aside0.mk ((hB.out.setCell (p := ⟨g, 0, none⟩) hg (.string a')).setCell (p := ⟨g, 1, none⟩) hg (.string b'))
        clear hV hV2 hB
        go_wp2_with fail
        clear q0 q1 f0 f1 c0 c1
        go_roundg gk'
        case measure => exact Nat.lt_succ_self _
        case rel => exact ⟨k + 1, a', b', rfl, by omega, by omega, hI2.out, hV7.out, hB7.out, hg⟩
    · have d1 : decide ((k : Int) < m) = false := decide_eq_false hlt
      obtain rfl : (k : Int) = m := by omega
      obtain ⟨a', b', hw, -, -, -, -, -, -, -⟩ := inv_write hI (by omega) 16 (by omega) (by omega)
      obtain ⟨a0, b0, hw0, -, -, hz0, -, -, -, -⟩ := inv_write hI (by omega) 0 (by omega) (by omega)
      obtain ⟨rfl, rfl⟩ := hz0 rfl
      have hq := rem17w at_
      obtain ⟨a2, b2, hw2, hI2, -, -, -, -, -, -⟩ := inv_write hI (by omega) _ hq.1 hq.2
      have ht := inv_bootF hI 16
      have ht16 := inv_tornBF hI 16 (by omega) (by omega)
      have ht0 := inv_tornBF hI 0 (by omega) (by omega)
      have htk := inv_tornBF hI _ hq.1 hq.2
      rw [hw] at ht ht16
      rw [hw0] at ht0
      rw [hw2] at htk
      obtain ⟨c', hc', hI3⟩ : ∃ c' : Int, (c' = k ∨ c' = k + 1) ∧ Inv a2 b2 c' := hI2.elim (fun h => ⟨k, .inl rfl, h⟩) (fun h => ⟨k + 1, .inr rfl, h⟩)
      have hcnt := Aside0.mk (inv_count hI)
      have hcnt2 := Aside0.mk (inv_count hI3)
      replace ht := Aside0.mk ht
      replace ht16 := Aside0.mk ht16
      replace ht0 := Aside0.mk ht0
      replace htk := Aside0.mk htk
      have e1 : ((k : Int) + 1 == (k : Int)) = false := beq_eq_false_iff_ne.mpr (by omega)
      replace hV := Aside0.mk hV
      replace hB := Aside0.mk hB
      clear hw hw0 hw2 hI2 hI3 hq hI hkm hk hlt
      have p0 := hV.out.c0
      have p1 := hV.out.c1
      replace hV := hV.out
      rcases hc' with rfl | rfl
      all_goals
        go_wp2_with (first
          | (go_at_call 23; (with_reducible refine (boot_calls _ _ _ _ _ _ ht.out _).mono ?_); rintro e w3 ⟨rfl, hb1⟩; have hV := hV.below hb1; have n0_ := Aside0.mk (below_step hB.out hb1); clear hB hb1; have hB := n0_; clear n0_; have hX := Var.new w3 a' b'; have hV := hV.alloc (.cells #[.string a', .string b'] 45); have n0_ := Aside0.mk (below_alloc hB.out (.cells #[.string a', .string b'] 45)); clear hB; have hB := n0_; clear n0_; have v_0 := hV.c0; have v_1 := hV.c1; have x_0 := hX.c0; have x_1 := hX.c1)
          | (go_at_call 25; (with_reducible refine (tornB_calls _ _ _ _ _ _ ht16.out _).mono ?_); rintro e w4 ⟨rfl, hb1⟩; have hV := hV.below hb1; have hX := hX.below hb1; have n0_ := Aside0.mk (below_step hB.out hb1); clear hB hb1; have hB := n0_; clear n0_; have hY := Var.new w4 a' b'; have hV := hV.alloc (.cells #[.string a', .string b'] 45); have hX := hX.alloc (.cells #[.string a', .string b'] 45); have n0_ := Aside0.mk (below_alloc hB.out (.cells #[.string a', .string b'] 45)); clear hB; have hB := n0_; clear n0_; have v_0 := hV.c0; have v_1 := hV.c1; have x_0 := hX.c0; have x_1 := hX.c1; have y_0 := hY.c0; have y_1 := hY.c1)
          | (go_at_call 25; (with_reducible refine (tornB_calls _ _ _ _ _ _ ht0.out _).mono ?_); rintro e w5 ⟨rfl, hb1⟩; have hV := hV.below hb1; have hX := hX.below hb1; have hY := hY.below hb1; have n0_ := Aside0.mk (below_step hB.out hb1); clear hB hb1; have hB := n0_; clear n0_; have hZ := Var.new w5 a0 b0; have hV := hV.alloc (.cells #[.string a0, .string b0] 45); have hX := hX.alloc (.cells #[.string a0, .string b0] 45); have hY := hY.alloc (.cells #[.string a0, .string b0] 45); have n0_ := Aside0.mk (below_alloc hB.out (.cells #[.string a0, .string b0] 45)); clear hB; have hB := n0_; clear n0_; have v_0 := hV.c0; have v_1 := hV.c1; have x_0 := hX.c0; have x_1 := hX.c1; have y_0 := hY.c0; have y_1 := hY.c1; have z_0 := hZ.c0; have z_1 := hZ.c1)
          | (go_at_call 21; (with_reducible refine (count_calls _ _ _ _ hcnt.out _).mono ?_); rintro e w6 ⟨rfl, hb1⟩; have hV := hV.below hb1; have hX := hX.below hb1; have hY := hY.below hb1; have hZ := hZ.below hb1; have n0_ := Aside0.mk (below_step hB.out hb1); clear hB hb1; have hB := n0_; clear n0_; have v_0 := hV.c0; have v_1 := hV.c1; have x_0 := hX.c0; have x_1 := hX.c1; have y_0 := hY.c0; have y_1 := hY.c1; have z_0 := hZ.c0; have z_1 := hZ.c1)
          | (go_at_call 25; (with_reducible refine (tornB_calls _ _ _ _ _ _ htk.out _).mono ?_); rintro e w7 ⟨rfl, hb1⟩; have hV := hV.below hb1; have hX := hX.below hb1; have hY := hY.below hb1; have hZ := hZ.below hb1; have n0_ := Aside0.mk (below_step hB.out hb1); clear hB hb1; have hB := n0_; clear n0_; have hU := Var.new w7 a2 b2; have hV := hV.alloc (.cells #[.string a2, .string b2] 45); have hX := hX.alloc (.cells #[.string a2, .string b2] 45); have hY := hY.alloc (.cells #[.string a2, .string b2] 45); have hZ := hZ.alloc (.cells #[.string a2, .string b2] 45); have n0_ := Aside0.mk (below_alloc hB.out (.cells #[.string a2, .string b2] 45)); clear hB; have hB := n0_; clear n0_; have v_0 := hV.c0; have v_1 := hV.c1; have x_0 := hX.c0; have x_1 := hX.c1; have y_0 := hY.c0; have y_1 := hY.c1; have z_0 := hZ.c0; have z_1 := hZ.c1; have u_0 := hU.c0; have u_1 := hU.c1)
          | (go_at_call 21; (with_reducible refine (count_calls _ _ _ _ hcnt2.out _).mono ?_); rintro e w8 ⟨rfl, hb1⟩; have hV := hV.below hb1; have hX := hX.below hb1; have hY := hY.below hb1; have hZ := hZ.below hb1; have n0_ := Aside0.mk (below_step hB.out hb1); clear hB hb1; have hB := n0_; clear n0_; have v_0 := hV.c0; have v_1 := hV.c1; have x_0 := hX.c0; have x_1 := hX.c1; have y_0 := hY.c0; have y_1 := hY.c1; have z_0 := hZ.c0; have z_1 := hZ.c1)
          | (go_at_call 19; (with_reducible refine (num_below 0 _).mono ?_); rintro e w9 ⟨rfl, hb1⟩; have hV := hV.below hb1; have hX := hX.below hb1; have hY := hY.below hb1; have hZ := hZ.below hb1; have n0_ := Aside0.mk (below_step hB.out hb1); clear hB hb1; have hB := n0_; clear n0_; have v_0 := hV.c0; have v_1 := hV.c1; have x_0 := hX.c0; have x_1 := hX.c1; have y_0 := hY.c0; have y_1 := hY.c1; have z_0 := hZ.c0; have z_1 := hZ.c1))
        go_ret
        exact ⟨rfl, hB.out⟩

end Go.Proofs.Ytjcmjfabadlbjaa.Boot
