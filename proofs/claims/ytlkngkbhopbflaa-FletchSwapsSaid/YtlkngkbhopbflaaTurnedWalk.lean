/- One byte of a text turned: what FletchTurned's code does, step by step, and that it answers true. No condition beyond the row's own reach. -/
import Derived.Test.YtlkngkbhopbflaaPureFletchBehind
import Derived.Laws.BitsAllLaws
import Derived.Test.YtlkngkbhopbflaaByt
import Derived.Deep.QuietTactic
import Derived.BigQuiet
namespace Go.Proofs.Ytlkngkbhopbflaa.Turned
open Go.RowKit Go.Proofs.YtlkngkbhopbflaaW.PrintWords Go.Proofs.YtlkngkbhopbflaaW.PrintLast Go.Proofs.Ytlkngkbhopbflaa.Plain Go.Proofs.Ytlkngkbhopbflaa.Byt

theorem sum_calls (s : ByteArray) (hs : s.size ≤ 9223372036854775807) (w : World) :
    Calls Try.prog 14 #[.string s] w fun e w' => e = .returned (.int .i64 (sum s.data.toList)) ∧ Drawn0 w w' :=
  PFletchBehind.fletch_Sum.calls (s.size + 1) s _ w (Pure.sum_f s hs _ (by omega))
theorem awake_calls (w : World) : Calls Try.prog 16 #[] w fun e w' => e = .returned (.bool true) ∧ Drawn0 w w' :=
  PFletchBehind.watchwordlaw6_awake.calls 9 true w Pure.awake_tells

set_option maxHeartbeats 4000000 in
set_option maxRecDepth 100000 in
theorem turned_walk (s : ByteArray) (at_ by_ : Int) (w : World) (h0 : 0 < s.size) (h1 : s.size ≤ 200)
    (k : Nat) (hk : k < s.data.toList.length) (x y : UInt8) (hx : Aside0 (s.data.toList[k] = x)) (p q r t v : Bool)
    (e1 : wrap64 ((IntKind.u64.wrap at_).tmod (s.size : Int)) = (k : Int))
    (e2 : Go.bits .xor .u8 (x.toNat : Int) (wrap64 (1 + Go.bits .and .i64 by_ 127) % 256) = (y.toNat : Int))
    (hp : ((x.toNat : Int) == 0) = p) (hq : ((y.toNat : Int) == 255) = q) (hr : ((x.toNat : Int) == 255) = r) (ht : ((y.toNat : Int) == 0) = t)
    (hcs : Aside0 ((p = true ∧ q = true ∧ v = true) ∨ (r = true ∧ t = true ∧ p = false ∧ v = true) ∨ (p = true ∧ q = false ∧ r = false ∧ v = false) ∨ (p = false ∧ r = true ∧ t = false ∧ v = false) ∨ (p = false ∧ r = false ∧ v = false)))
    (hv : (sum s.data.toList == sum (s.data.toList.set k y)) = v) :
    Calls Try.prog 5 #[.string s, .int .i64 at_, .int .i64 by_] w fun e w' => e = .returned (.bool true) ∧ Below w.heap.size w w' := by
  have c0 : ((s.size : Int) == 0) = false := beq_eq_false_iff_ne.mpr (by omega)
  have c1 : decide ((200 : Int) < (s.size : Int)) = false := decide_eq_false (by omega)
  obtain ⟨r0, r1⟩ := sum_range s.data.toList
  have d0 : decide (0 ≤ sum s.data.toList) = true := decide_eq_true r0
  have d1 : decide (sum s.data.toList ≤ 65535) = true := decide_eq_true (by omega)
  clear r0 r1
  have hz : (⟨(s.data.toList.set k y).toArray⟩ : ByteArray).size ≤ 9223372036854775807 := by
    show (s.data.toList.set k y).toArray.size ≤ _
    rw [List.size_toArray, List.length_set, Array.length_toList]
    have : s.data.size = s.size := rfl
    omega
  have hidx : ∀ h : k < s.size, (s[k]'h) = x := fun h => hx.out
  go_enter Try.func5, Try.ntmps5
  go_wp2_with (first
    | (go_at_call 16; (with_reducible refine (awake_calls _).mono ?_); rintro e w' ⟨rfl, ⟨nd, rfl⟩⟩)
    | ((with_reducible refine gate_dst (N := 23) rfl ?_); refine law_bytes rfl 9 25 5 _ rfl Try.underlying9 Try.underlying25 Try.underlying5 s rfl ?_; intro b cap W1 hb hB hbl hcap; have hc := hB.cell k hk; have hf := hB.free k hk; rw [hx.out] at hc; replace hbl := Aside0.mk hbl; replace hb := Aside0.mk hb; replace hB := hB.set k y))
  have hcell := hB.cell k (by simpa using hk)
  rw [List.getElem_set_self] at hcell
  have hconv : ∀ n, (convert 25 9 (.slice (some ⟨b, 0, none⟩) s.size cap)).run Try.prog ((W1.setCell ⟨b, k, none⟩ (.int .u8 (y.toNat : Int))).drewN n) = .ok (.string ⟨(s.data.toList.set k y).toArray⟩) ((W1.setCell ⟨b, k, none⟩ (.int .u8 (y.toNat : Int))).drewN n) := by
    intro n
    have h3 := (hB.drewN n).string (P := Try.prog) 25 9 5 cap Try.underlying25 Try.underlying5 Try.underlying9
    rw [List.length_set] at h3
    exact h3
  have hbel : Aside0 (Below w.heap.size w (W1.setCell ⟨b, k, none⟩ (.int .u8 (y.toNat : Int)))) := ⟨by
    have h5 : Below w.heap.size (w.drewN nd) W1 := hbl.out
    have h4 : Below w.heap.size w W1 := (pw_below_drewN (Below.refl _ _) nd).trans h5
    have h6 : w.heap.size ≤ b := hb.out
    exact h4.setCell h6 _⟩
  clear hB hc hf hbl
  generalize W1.setCell ⟨b, k, none⟩ (.int .u8 (y.toNat : Int)) = W2 at *
  go_quiet ((first | (go_at_call 14; exact Calls.quiet_of ((sum_calls _ (by first | assumption | omega) _).mono fun _ _ h => ⟨h.1, h.2.out⟩))))
  rcases hcs.out with ⟨rfl, rfl, rfl⟩ | ⟨rfl, rfl, rfl, rfl⟩ | ⟨rfl, rfl, rfl, rfl⟩ | ⟨rfl, rfl, rfl, rfl⟩ | ⟨rfl, rfl, rfl⟩
  all_goals
    go_wp2
    go_ret
    exact ⟨by simp, pw_below_drewN hbel.out _⟩

set_option maxHeartbeats 4000000 in
set_option maxRecDepth 100000 in
theorem turned_empty (s : ByteArray) (at_ by_ : Int) (w : World) (h0 : s.size = 0) :
    Calls Try.prog 5 #[.string s, .int .i64 at_, .int .i64 by_] w fun e w' => e = .returned (.bool true) ∧ Below w.heap.size w w' := by
  have c0 : ((s.size : Int) == 0) = true := beq_iff_eq.mpr (by omega)
  clear h0
  go_enter Try.func5, Try.ntmps5
  go_wp2_with (go_at_call 16; (with_reducible refine (awake_calls _).mono ?_); rintro e w' ⟨rfl, ⟨nd, rfl⟩⟩)
  go_ret
  exact ⟨rfl, pw_below_drewN (Below.refl _ _) _⟩

set_option maxHeartbeats 4000000 in
set_option maxRecDepth 100000 in
theorem turned_long (s : ByteArray) (at_ by_ : Int) (w : World) (h0 : 200 < s.size) :
    Calls Try.prog 5 #[.string s, .int .i64 at_, .int .i64 by_] w fun e w' => e = .returned (.bool true) ∧ Below w.heap.size w w' := by
  have c0 : ((s.size : Int) == 0) = false := beq_eq_false_iff_ne.mpr (by omega)
  have c1 : decide ((200 : Int) < (s.size : Int)) = true := decide_eq_true (by omega)
  clear h0
  go_enter Try.func5, Try.ntmps5
  go_wp2_with (go_at_call 16; (with_reducible refine (awake_calls _).mono ?_); rintro e w' ⟨rfl, ⟨nd, rfl⟩⟩)
  go_ret
  exact ⟨rfl, pw_below_drewN (Below.refl _ _) _⟩

theorem and127 (n : Int) : Go.bits .and .i64 n 127 = n % 128 := by
  have h0 : (BitVec.ofInt 64 127).toNat = 2 ^ 7 - 1 := by decide
  have key : (BitVec.ofInt 64 n &&& BitVec.ofInt 64 127).toNat = (n % ((2 ^ 64 : Nat) : Int)).toNat % 2 ^ 7 := by
    rw [BitVec.toNat_and, BitVec.toNat_ofInt, h0, Nat.and_two_pow_sub_one_eq_mod]
  show IntKind.i64.wrap ((BitVec.ofInt 64 n &&& BitVec.ofInt 64 127).toNat : Nat) = n % 128
  rw [key, IntKind.wrap_i64]
  omega

/-- The turned byte: never the old one. -/
theorem xor_byte (x : UInt8) (by_ : Int) : ∃ y : UInt8, Go.bits .xor .u8 (x.toNat : Int) (wrap64 (1 + Go.bits .and .i64 by_ 127) % 256) = (y.toNat : Int) ∧ x ≠ y := by
  have hm : wrap64 (1 + Go.bits .and .i64 by_ 127) % 256 = (((1 + by_ % 128).toNat : Nat) : Int) := by
    rw [and127]; unfold wrap64; omega
  have h1 : 1 ≤ (1 + by_ % 128).toNat := by omega
  have h2 : (1 + by_ % 128).toNat ≤ 128 := by omega
  rw [hm]
  generalize (1 + by_ % 128).toNat = m at h1 h2
  have hx : x.toNat < 256 := x.toNat_lt
  have hxm : x.toNat ^^^ m < 256 := Nat.xor_lt_two_pow (n := 8) hx (by omega)
  refine ⟨UInt8.ofNat (x.toNat ^^^ m), ?_, fun h => ?_⟩
  · rw [u8_xor_nat x.toNat m hx (by omega), UInt8.toNat_ofNat']
    rw [Nat.mod_eq_of_lt hxm]
  · have h3 : x.toNat = x.toNat ^^^ m := by
      have := congrArg UInt8.toNat h
      rwa [UInt8.toNat_ofNat', Nat.mod_eq_of_lt hxm] at this
    have h4 : m = 0 := by
      have h5 : x.toNat ^^^ (x.toNat ^^^ m) = x.toNat ^^^ x.toNat := by rw [← h3]
      rw [← Nat.xor_assoc, Nat.xor_self, Nat.zero_xor] at h5
      exact h5
    omega

theorem five (p q r t v : Bool) (hpr : p = true → r = true → False) (hv : v = (p && q || r && t)) :
    ((p = true ∧ q = true ∧ v = true) ∨ (r = true ∧ t = true ∧ p = false ∧ v = true) ∨ (p = true ∧ q = false ∧ r = false ∧ v = false) ∨ (p = false ∧ r = true ∧ t = false ∧ v = false) ∨ (p = false ∧ r = false ∧ v = false)) := by
  subst hv
  revert hpr
  cases p <;> cases q <;> cases r <;> cases t <;> simp

theorem turned_calls (s : ByteArray) (at_ by_ : Int) (w : World) :
    Calls Try.prog 5 #[.string s, .int .i64 at_, .int .i64 by_] w fun e w' => e = .returned (.bool true) ∧ Below w.heap.size w w' := by
  by_cases h0 : s.size = 0
  · exact turned_empty s at_ by_ w h0
  by_cases h1 : 200 < s.size
  · exact turned_long s at_ by_ w h1
  have hsz : s.data.toList.length = s.size := by rw [Array.length_toList]; rfl
  have hu : 0 ≤ IntKind.u64.wrap at_ ∧ IntKind.u64.wrap at_ < 18446744073709551616 := by rw [IntKind.wrap_u64]; omega
  have hm : (IntKind.u64.wrap at_).tmod (s.size : Int) = (IntKind.u64.wrap at_) % (s.size : Int) := Int.tmod_eq_emod_of_nonneg hu.1
  have hm0 : 0 ≤ (IntKind.u64.wrap at_) % (s.size : Int) := Int.emod_nonneg _ (by omega)
  have hm1 : (IntKind.u64.wrap at_) % (s.size : Int) < (s.size : Int) := Int.emod_lt_of_pos _ (by omega)
  obtain ⟨k, hk⟩ := Int.eq_ofNat_of_zero_le hm0
  have hkl : k < s.data.toList.length := by omega
  obtain ⟨y, hy, hne⟩ := xor_byte s.data.toList[k] by_
  have h2 : s.data.toList.set k y = s.data.toList.take k ++ y :: s.data.toList.drop (k + 1) := by rw [List.set_eq_take_append_cons_drop, if_pos hkl]
  have h3 : s.data.toList = s.data.toList.take k ++ s.data.toList[k] :: s.data.toList.drop (k + 1) := by
    rw [← List.drop_eq_getElem_cons hkl, List.take_append_drop]
  have h4 := sum_turned (s.data.toList.take k) (s.data.toList.drop (k + 1)) s.data.toList[k] y hne
  rw [← h2, ← h3] at h4
  generalize hx : s.data.toList[k] = x at *
  have n0 : ∀ z : UInt8, ((z.toNat : Int) == 0) = (z == 0) := fun z => by
    rw [Bool.eq_iff_iff, beq_iff_eq, beq_iff_eq, ← UInt8.toNat_inj]; simp
  have n1 : ∀ z : UInt8, ((z.toNat : Int) == 255) = (z == 255) := fun z => by
    rw [Bool.eq_iff_iff, beq_iff_eq, beq_iff_eq, ← UInt8.toNat_inj]; simp; omega
  refine turned_walk s at_ by_ w (by omega) (by omega) k hkl x y ⟨hx⟩ (x == 0) (y == 255) (x == 255) (y == 0) _ (by rw [hm, hk]; unfold wrap64; omega) hy (n0 x) (n1 y) (n1 x) (n0 y) ⟨five _ _ _ _ _ ?_ ?_⟩ rfl
  · intro ha hb
    have ha' : x = 0 := by simpa using ha
    have hb' : x = 255 := by simpa using hb
    rw [ha'] at hb'; exact absurd hb' (by decide)
  · rw [Bool.eq_iff_iff, beq_iff_eq, h4]
    simp

end Go.Proofs.Ytlkngkbhopbflaa.Turned
