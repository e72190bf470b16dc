/- BootTornRow's code, step by step: some boots, then a row of torn ones: each count is the last one or one more. -/
import Derived.Test.YtjcmjfabadlbjaaRises
namespace Go.Proofs.Ytjcmjfabadlbjaa.Boot
open Go.RowKit Go.Proofs.YtjcmjfabadlbjaaW.PrintWords Go.Proofs.YtjcmjfabadlbjaaW.PrintLast Go.Proofs.YtjcmjfabadlbjaaW.PrintMore Go.Proofs.Ytjcmjfabadlbjaa.PS3 Go.Proofs.Ytjcmjfabadlbjaa.Byt Go.Proofs.Ytjcmjfabadlbjaa.Slot

theorem and7 (n : Int) : Go.bits .and .i64 n 7 = n % 8 := by
  have h0 : (BitVec.ofInt 64 7).toNat = 2 ^ 3 - 1 := by decide
  have key : (BitVec.ofInt 64 n &&& BitVec.ofInt 64 7).toNat = (n % ((2 ^ 64 : Nat) : Int)).toNat % 2 ^ 3 := by
    rw [BitVec.toNat_and, BitVec.toNat_ofInt, h0, Nat.and_two_pow_sub_one_eq_mod]
  show IntKind.i64.wrap ((BitVec.ofInt 64 n &&& BitVec.ofInt 64 7).toNat : Nat) = n % 8
  rw [key, IntKind.wrap_i64]
  omega
theorem and15 (n : Int) : Go.bits .and .i64 n 15 = n % 16 := by
  have h0 : (BitVec.ofInt 64 15).toNat = 2 ^ 4 - 1 := by decide
  have key : (BitVec.ofInt 64 n &&& BitVec.ofInt 64 15).toNat = (n % ((2 ^ 64 : Nat) : Int)).toNat % 2 ^ 4 := by
    rw [BitVec.toNat_and, BitVec.toNat_ofInt, h0, Nat.and_two_pow_sub_one_eq_mod]
  show IntKind.i64.wrap ((BitVec.ofInt 64 n &&& BitVec.ofInt 64 15).toNat : Nat) = n % 16
  rw [key, IntKind.wrap_i64]
  omega

theorem rem17 (n : Int) : 0 ≤ IntKind.i64.wrap ((IntKind.u64.wrap n).tmod 17) ∧ IntKind.i64.wrap ((IntKind.u64.wrap n).tmod 17) ≤ 16 := by
  have hu : 0 ≤ IntKind.u64.wrap n ∧ IntKind.u64.wrap n < 18446744073709551616 := by rw [IntKind.wrap_u64]; omega
  rw [Int.tmod_eq_emod_of_nonneg (by omega), IntKind.wrap_i64]
  omega

/-- What holds at a round's head of the loop of boots. -/
def BootsAt (w : World) (n : Int) (g : Nat) (gk : Nat) (i : Value) (wr : World) : Prop :=
  ∃ (k : Nat) (a b : ByteArray), i = .int .i64 k ∧ (k : Int) ≤ n ∧ (k : Int) + gk = n ∧ Inv a b k ∧ Var wr g a b ∧ Below w.heap.size w wr ∧ w.heap.size ≤ g
/-- .. of the torn ones. -/
def TornsAt (w : World) (l : List Int) (g : Nat) (gk : Nat) (v i : Value) (wr : World) : Prop :=
  ∃ (k : Nat) (c : Int) (a b : ByteArray), i = .int .i64 k ∧ v = .int .i64 c ∧ k ≤ l.length ∧ k + gk = 20 ∧ 0 ≤ c ∧ c ≤ k + 7 ∧ Inv a b c ∧ Var wr g a b ∧ Below w.heap.size w wr ∧ w.heap.size ≤ g

set_option maxHeartbeats 4000000 in
set_option maxRecDepth 100000 in
theorem row_walk (n : Int) (a0 : Option Addr) (l : List Int) (cap : Nat) (w : World) (hr : ReadsInt w .i64 a0 l.length l) (hl : l.length * 8 ≤ 140737488351232) :
    Calls Try.prog 12 #[.int .i64 n, .slice a0 l.length cap] w fun e w' => e = .returned (.bool true) ∧ Below w.heap.size w w' := by
  replace hr := Aside0.mk hr
  obtain ⟨m, hm⟩ : ∃ m, Go.bits .and .i64 n 7 = m := ⟨_, rfl⟩
  have hm0 : 0 ≤ m ∧ m ≤ 7 := by rw [and7] at hm; omega
  go_enter Try.func12, Try.ntmps12
  go_wp2_with (first
    | (go_at_call 31; (with_reducible refine (awake_calls _).mono ?_); rintro e w1 ⟨rfl, hb1⟩; have HB := Aside0.mk hb1; clear hb1)
    | (go_at_call 29; (with_reducible refine (new_calls _).mono ?_); rintro e w2 ⟨rfl, hb1⟩; have n0_ := Aside0.mk (below_step HB.out hb1); clear HB hb1; have HB := n0_; clear n0_))
  have hstart : Aside0 (BootsAt w m w2.heap.size m.toNat (.int .i64 0) (w2.alloc (.cells #[.string newA, .string newB] 45))) :=
    ⟨0, newA, newB, rfl, by omega, by omega, inv_new, Var.new _ _ _, below_alloc HB.out _, HB.out.size⟩
  clear HB
  generalize w2.alloc (.cells #[.string newA, .string newB] 45) = W at *
  generalize w2.heap.size = g at *
  go_loopg [6] (m.toNat) (fun gk i wr => BootsAt w m g gk i wr)
  case atStart => exact hstart.out
  case round =>
    clear hstart
    obtain ⟨k, a, b, rfl, hk, hkm, hI, hV, hB, hg⟩ := hrel
    by_cases hlt : (k : Int) < m
    · have d1 : decide ((k : Int) < m) = true := decide_eq_true hlt
      obtain ⟨gk', rfl⟩ : ∃ gk', gk = gk' + 1 := ⟨gk - 1, by omega⟩
      obtain ⟨a', b', hw, -, hI2, -, -, -, -, -⟩ := inv_write hI (by omega) 16 (by omega) (by omega)
      have ht := inv_bootF hI 16
      rw [hw] at ht
      replace ht := Aside0.mk ht
      replace hI2 := Aside0.mk (hI2 rfl)
      have p0 := hV.c0
      have p1 := hV.c1
      replace hB := Aside0.mk hB
      clear hw hI
      go_wp2_with (first
        | (go_at_call 23; (with_reducible refine (boot_calls a b _ _ _ _ ht.out _).mono ?_); rintro e w3 ⟨rfl, hb1⟩; have hV := hV.below hb1; have n0_ := Aside0.mk (below_step hB.out hb1); clear hB hb1; have hB := n0_; clear n0_; have hV6 := Var.new w3 a' b'; have hV := hV.alloc (.cells #[.string a', .string b'] 45); have n0_ := Aside0.mk (below_alloc hB.out (.cells #[.string a', .string b'] 45)); clear hB; have hB := n0_; clear n0_)
        | (go_at_call 19; (with_reducible refine (num_below 0 _).mono ?_); rintro e w4 ⟨rfl, hb1⟩; have hV6 := hV6.below hb1; have p2 := hV6.c0; have p3 := hV6.c1; have hW := hV.below hb1; have f0 := hW.f0; have f1 := hW.f1; have c0 := hW.c0; have c1 := hW.c1; replace hW := Aside0.mk hW; have n0_ := Aside0.mk (below_step hB.out hb1); clear hB hb1; have hB := n0_; clear n0_))
      have hV7 := Aside0.mk (hW.out.store a' b')
      have hB7 := Aside0.mk ((hB.out.setCell (p := ⟨g, 0, none⟩) hg (.string a')).setCell (p := ⟨g, 1, none⟩) hg (.string b'))
      clear hW hB hV hV6 p2 p3 f0 f1 c0 c1
      go_roundg gk'
      case measure => exact Nat.lt_succ_self _
      case rel => exact ⟨k + 1, a', b', rfl, by omega, by omega, hI2.out, hV7.out, hB7.out, hg⟩
    · have d1 : decide ((k : Int) < m) = false := decide_eq_false hlt
      obtain rfl : (k : Int) = m := by omega
      clear hlt hk hkm
      replace hV := Aside0.mk hV
      replace hB := Aside0.mk hB
      replace hI := Aside0.mk hI
      go_wp2
      have hstart : Aside0 (TornsAt w l g 20 (.int .i64 k) (.int .i64 0) wr) := ⟨0, k, a, b, rfl, rfl, by omega, by omega, by omega, by omega, hI.out, hV.out, hB.out, hg⟩
      clear hV hB hI
      clear hm hm0
      go_loopg [10, 11] 20 (fun gk v i wr => TornsAt w l g gk v i wr)
      case atStart => exact hstart.out
      case round =>
        clear hstart
        obtain ⟨k, c, a, b, rfl, rfl, hk, hk20, hc0, hck, hI, hV, hB, hg⟩ := hrel
        have hR := hr.out.below hB
        by_cases hlt : k < l.length
        · by_cases h20 : k < 20
          · obtain ⟨ad, rfl, hcell⟩ := hR.at_ (k : Int) (by omega) (by omega)
            rw [Int.toNat_natCast] at hcell
            have d1 : decide ((k : Int) < (l.length : Int)) = true := decide_eq_true (by omega)
            have d2 : decide ((k : Int) < 20) = true := decide_eq_true (by omega)
            replace hB := Aside0.mk hB
            clear hR
            obtain ⟨gk', rfl⟩ : ∃ gk', gk = gk' + 1 := ⟨gk - 1, by omega⟩
            have p0 := hV.c0
            have p1 := hV.c1
            replace hV := Aside0.mk hV
            have hq := rem17 (rd l k)
            obtain ⟨a', b', hw, hI2, -, -, -, -, -, -⟩ := inv_write hI (by omega) _ hq.1 hq.2
            have ht := inv_tornBF hI _ hq.1 hq.2
            rw [hw] at ht
            replace ht := Aside0.mk ht
            obtain ⟨c', hc', hI3⟩ : ∃ c', (c' = c ∨ c' = c + 1) ∧ Inv a' b' c' := hI2.elim (fun h => ⟨c, .inl rfl, h⟩) (fun h => ⟨c + 1, .inr rfl, h⟩)
            have hcnt := Aside0.mk (inv_count hI3)
            replace hI3 := Aside0.mk hI3
            have e1 : decide (c' < c) = false := decide_eq_false (by omega)
            have e2 : decide (c + 1 < c') = false := decide_eq_false (by omega)
            clear hw hq hI hI2
            go_wp2
            go_cut [12, 13] from 37 to 84 (fun v6 v7 wc => ∃ g6 : Nat, v6 = .pointer (some ⟨g6, 0, none⟩) ∧ v7 = .int .i64 0 ∧ Aside0 (Var wc g6 a' b' ∧ Below wr.heap.size wr wc ∧ wr.heap.size ≤ g6))
            case first =>
              have hlt2 : g < wr.heap.size := hV.out.lt
              have hlt3 : (ad.add k).block < wr.heap.size := World.block_lt_of_cell? _ _ hcell
              go_region_held3 (fun W => W.cell? ⟨g, 0, none⟩ = some (.string a) ∧ W.cell? ⟨g, 1, none⟩ = some (.string b) ∧ W.cell? (ad.add k) = some (.int .i64 (rd l k)))
                (first | go_keep | exact keep_call (by assumption) hb1 | exact keep_alloc (by assumption) | exact keep_store (by assumption) hlt2 hlt3 | exact keep_realloc (by assumption) (Nat.lt_of_lt_of_le hlt2 hb1.size) (Nat.lt_of_lt_of_le hlt3 hb1.size))
                (first | (go_at_call 25; (first | ((with_reducible refine (tornB_boxed wr a b _ a' b' 0 ht.out).mono ?_); rintro e w3 ⟨rfl, hb1, q0, q1, q2, q3⟩) | ((with_reducible refine (tornB_calls a b _ a' b' 0 ht.out _).mono ?_); rintro e w3 ⟨rfl, hb1⟩))))
              · rename_i hHeld
                have hV2 := Aside0.mk (Var.new w3 a' b')
                have hB2 := Aside0.mk (below_alloc (below_step (below_drew (Below.refl _ _)) hb1) (.cells #[.string a', .string b'] 45))
                have hz2 : wr.heap.size ≤ w3.heap.size := hb1.size
                clear hHeld hb1
                go_wp2_with fail
                go_meet
                case rel => exact ⟨_, rfl, rfl, ⟨hV2.out, hB2.out, hz2⟩⟩
              · rename_i hHeld
                have hV2 := Aside0.mk ((Var.below (W := (wr.alloc (.cells #[.string ⟨#[]⟩, .string ⟨#[]⟩] 45)).drew) ⟨(Var.new wr _ _).out⟩ hb1).store a' b')
                have hB2 := Aside0.mk (((boxed1d hb1).2.2.setCell (p := ⟨wr.heap.size, 0, none⟩) (Nat.le_refl _) (.string a')).setCell (p := ⟨wr.heap.size, 1, none⟩) (Nat.le_refl _) (.string b'))
                clear hHeld hb1 q0 q1 q2 q3
                go_wp2_with fail
                go_meet
                case rel => exact ⟨_, rfl, rfl, ⟨hV2.out, hB2.out, Nat.le_refl _⟩⟩
            case rest =>
              obtain ⟨g6, rfl, rfl, hc6⟩ := hcut
              obtain ⟨hV6, hB6, hg6⟩ := hc6
              have p2 := hV6.c0
              have p3 := hV6.c1
              have hW := hV.out.below hB6
              replace hB6 := Aside0.mk (below_step hB.out hB6)
              replace hV6 := Aside0.mk hV6
              clear hV p0 p1 hcell
              go_wp2_with (first
                | (go_at_call 21; (with_reducible refine (count_calls a' b' c' 0 hcnt.out _).mono ?_); rintro e w4 ⟨rfl, hb1⟩; replace p2 := pw_cell_below hb1 p2; replace p3 := pw_cell_below hb1 p3; replace hW := hW.below hb1; have f0 := hW.f0; have f1 := hW.f1; have c0 := hW.c0; have c1 := hW.c1; have n0_ := Aside0.mk (below_step hB6.out hb1); clear hB6 hb1; have hB6 := n0_; clear n0_)
                | (go_at_call 19; (with_reducible refine (num_below 0 _).mono ?_); rintro e w4 ⟨rfl, hb1⟩; replace p2 := pw_cell_below hb1 p2; replace p3 := pw_cell_below hb1 p3; replace hW := hW.below hb1; have f0 := hW.f0; have f1 := hW.f1; have c0 := hW.c0; have c1 := hW.c1; have n0_ := Aside0.mk (below_step hB6.out hb1); clear hB6 hb1; have hB6 := n0_; clear n0_))
              have hV7 := Aside0.mk (hW.store a' b')
              have hB7 := Aside0.mk ((hB6.out.setCell (p := ⟨g, 0, none⟩) hg (.string a')).setCell (p := ⟨g, 1, none⟩) hg (.string b'))
              clear hW hB6 hV6 p2 p3 f0 f1 c0 c1
              go_roundg gk'
              case measure => exact Nat.lt_succ_self _
              case rel => exact ⟨k + 1, c', a', b', rfl, rfl, by omega, by omega, by omega, by omega, hI3.out, hV7.out, hB7.out, hg⟩
          · have d1 : decide ((k : Int) < (l.length : Int)) = true := decide_eq_true (by omega)
            have d2 : decide ((k : Int) < 20) = false := decide_eq_false (by omega)
            have hm := Aside0.mk (inv_may hI)
            have p0 := hV.c0
            have p1 := hV.c1
            replace hB := Aside0.mk hB
            clear hV hR hI hck
            go_wp2_with (go_at_call 27; (with_reducible refine (may_calls a b true hm.out _).mono ?_); rintro e w3 ⟨rfl, hb1⟩; have n0_ := Aside0.mk (below_step hB.out hb1); clear hB hb1; have hB := n0_; clear n0_)
            go_ret
            exact ⟨rfl, hB.out⟩
        · have d1 : decide ((k : Int) < (l.length : Int)) = false := decide_eq_false (by omega)
          have hm := Aside0.mk (inv_may hI)
          have p0 := hV.c0
          have p1 := hV.c1
          replace hB := Aside0.mk hB
          clear hV hR hI hck
          go_wp2_with (go_at_call 27; (with_reducible refine (may_calls a b true hm.out _).mono ?_); rintro e w3 ⟨rfl, hb1⟩; have n0_ := Aside0.mk (below_step hB.out hb1); clear hB hb1; have hB := n0_; clear n0_)
          go_ret
          exact ⟨rfl, hB.out⟩

theorem row_row (n : Int) (a : Option Addr) (len cap : Nat) (zs : List Int) (W : World) (h : (a = none ∧ len = 0 ∧ cap = 0 ∧ zs = []) ∨ ∃ x, a = some x ∧ len ≤ cap ∧ cap ≤ maxLen ∧ zs.length = cap ∧ (∀ i, i < zs.length → W.cell? (x.add i) = some (.int .i64 (zs.getD i 0))) ∧ ∀ n ∈ zs, (Lit.int .i64 n).wf = true) (y : len * 8 ≤ 140737488351232) :
    Calls Try.prog 12 #[.int .i64 n, .slice a len cap] W fun e w' => e = .returned (.bool true) ∧ Below W.heap.size W w' := by
  obtain ⟨l, rfl, hr, -, -, -⟩ := ReadsInt.ofRowC h
  exact row_walk n a l cap W hr y

end Go.Proofs.Ytjcmjfabadlbjaa.Boot
