/- What SlotForms's code does, step by step, and that it answers true. -/
import Derived.Test.YtjcmjfabadlbjaaSlotAwake
import Derived.Laws.BitsAllLaws
namespace Go.Proofs.Ytjcmjfabadlbjaa.Slot
open Go.RowKit Go.Proofs.YtjcmjfabadlbjaaW.PrintWords Go.Proofs.YtjcmjfabadlbjaaW.PrintLast Go.Proofs.Ytjcmjfabadlbjaa.PS3 Go.Proofs.Ytjcmjfabadlbjaa.Byt

theorem awake_calls (w : World) : Calls Try.prog 20 #[] w fun e w' => e = .returned (.bool true) ∧ Below w.heap.size w w' :=
  watchwordlaw3_awake.calls 5 true rfl w awake_five
theorem num_calls (n : Int) (w : World) : Calls Try.prog 19 #[.int .i64 n] w fun e w' => e = .returned (.int .i64 n) ∧ Drawn0 w w' :=
  watchwordlaw0_Num.calls n n w rfl
theorem put_bad (c : Int) (h : ¬ In c) (w : World) : Calls Try.prog 13 #[.int .i64 c] w fun e w' => e = .returned (.tuple #[.string ⟨#[]⟩, .int .i64 300]) ∧ Below w.heap.size w w' := by
  have := put_calls c w
  rwa [putF_out c h] at this
theorem put_ok (c : Int) (h : In c) (w : World) : Calls Try.prog 13 #[.int .i64 c] w fun e w' => e = .returned (.tuple #[.string ⟨(putL c).toArray⟩, .int .i64 0]) ∧ Below w.heap.size w w' := by
  have := put_calls c w
  rwa [putF_in c h] at this
theorem get_bad (s : ByteArray) (h : getF s.data.toList = (0, 300)) (w : World) : Calls Try.prog 15 #[.string s] w fun e w' => e = .returned (.tuple #[.int .i64 0, .int .i64 300]) ∧ Below w.heap.size w w' :=
  slot_Get.calls 5 s 0 300 w (by rw [get_tells, h])
theorem torn_bad (a b : ByteArray) (k : Int) (h : tornF a b k = (⟨#[]⟩, 300)) (w : World) : Calls Try.prog 17 #[.string a, .string b, .int .i64 k] w fun e w' => e = .returned (.tuple #[.string ⟨#[]⟩, .int .i64 300]) ∧ Drawn0 w w' :=
  slot_Torn.calls a b k ⟨#[]⟩ 300 w (by rw [torn_tells, h])

theorem getF_short (l : List UInt8) (h : l.length ≠ 16) : getF l = (0, 300) := by unfold getF; rw [if_neg (fun h2 => h h2.1)]
theorem getF_const : getF [0, 0, 0, 1, 0, 0, 0, 0, 255, 255, 255, 254, 255, 255, 255, 255] = (0, 300) := by decide +kernel

set_option maxHeartbeats 4000000 in
set_option maxRecDepth 100000 in
theorem forms_walk (n x at_ d v p c : Int) (w : World) (i : Nat) (hi : i < 16) (b y : UInt8) (hb : Aside0 ((putL c)[i]? = some b))
    (hd : wrap64 (1 + Go.bits .and .i64 x 1023) = d) (hd0 : 1 ≤ d) (hd1 : d ≤ 1024)
    (hp : Go.bits .and .i64 n 1 = p) (hp2 : (p = 0 ∧ v = -d) ∨ (p = 1 ∧ v = 4294967295 + d))
    (hc : (IntKind.u64.wrap x) % 4294967296 = c) (hin : Aside0 (In c))
    (e1 : wrap64 ((IntKind.u64.wrap at_).tmod 16) = (i : Int))
    (e2 : Go.bits .xor .u8 (b.toNat : Int) (wrap64 (1 + Go.bits .and .i64 n 127) % 256) = (y.toNat : Int))
    (g1 : Aside0 (getF ((putL c).set i y) = (0, 300))) :
    Calls Try.prog 5 #[.int .i64 n, .int .i64 x, .int .i64 at_] w fun e w' => e = .returned (.bool true) ∧ Below w.heap.size w w' := by
  have HB := Aside0.mk (Below.refl w.heap.size w)
  have hlen := Aside0.mk (putL_length c)
  have hsz := put_size c
  have hs2 : (putL c).length = 16 := putL_length c
  have g2 : Aside0 (getF ((⟨(putL c).toArray⟩ : ByteArray).extract 0 15).data.toList = (0, 300)) := ⟨getF_short _ (by simp [hs2])⟩
  have g3 : Aside0 (getF ((⟨(putL c).toArray⟩ : ByteArray) ++ ⟨#[120]⟩).data.toList = (0, 300)) := ⟨getF_short _ (by simp [hs2])⟩
  have t1 : Aside0 (tornF ⟨(putL c).toArray⟩ ((⟨(putL c).toArray⟩ : ByteArray).extract 0 15) 0 = (⟨#[]⟩, 300)) := ⟨by unfold tornF; rw [if_neg (fun h => by have := h.2.1; rw [ByteArray.size_extract, hsz] at this; omega)]⟩
  have t2 : Aside0 (tornF ⟨(putL c).toArray⟩ ⟨(putL c).toArray⟩ (-d) = (⟨#[]⟩, 300)) := ⟨by unfold tornF; rw [if_neg (fun h => by have := h.2.2.1; omega)]⟩
  have hcell0 : Aside0 (∀ W B cap, BB W B cap (putL c) → W.cell? ⟨B, i, none⟩ = some (.int .u8 (b.toNat : Int))) := ⟨fun W B cap hB => by
    have h1 := hB.cell i (by rw [hs2]; exact hi)
    have h2 := hb.out
    rw [List.getElem?_eq_getElem (by rw [hs2]; exact hi)] at h2
    rw [h1, Option.some.inj h2]⟩
  rcases hp2 with ⟨rfl, rfl⟩ | ⟨rfl, rfl⟩
  all_goals
    go_enter Try.func5, Try.ntmps5
    go_wp2_with (first
      | (go_at_call 20; (with_reducible refine (awake_calls _).mono ?_); rintro e w1 ⟨rfl, hb1⟩; have n0_ := Aside0.mk (below_step HB.out hb1); clear HB hb1; have HB := n0_; clear n0_)
      | (go_at_call 13; (with_reducible refine (put_bad (-d) (by unfold In; omega) _).mono ?_); rintro e w2 ⟨rfl, hb1⟩; have n0_ := Aside0.mk (below_step (below_alloc HB.out _) hb1); clear HB hb1; have HB := n0_; clear n0_)
      | (go_at_call 13; (with_reducible refine (put_bad (4294967295 + d) (by unfold In; omega) _).mono ?_); rintro e w2 ⟨rfl, hb1⟩; have n0_ := Aside0.mk (below_step (below_alloc HB.out _) hb1); clear HB hb1; have HB := n0_; clear n0_)
      | (go_at_call 13; (with_reducible refine (put_ok c hin.out _).mono ?_); rintro e w3 ⟨rfl, hb1⟩; have n0_ := Aside0.mk (below_step HB.out hb1); clear HB hb1; have HB := n0_; clear n0_)
      | (go_at_call 19; (with_reducible refine (num_calls 0 _).mono ?_); rintro e w4 ⟨rfl, ⟨nd, rfl⟩⟩)
      | ((with_reducible refine gate_dst (N := 61) rfl ?_); refine law_bytes (w0 := w) w.heap.size rfl 9 41 5 _ rfl Try.underlying9 Try.underlying41 Try.underlying5 _ rfl (pw_below_drewN HB.out _) (by have hq := HB.out.size; exact hq) ?_; intro B cap W1 hBb hB hbl hbs; replace hB : BB W1 B cap (putL c) := hB; have hc1 := hcell0.out W1 B cap hB; have hf1 := hB.free i (by have := hB.len; rw [hs2] at this; omega); have hconv := (hB.set i y).string (P := Try.prog) 41 9 5 cap Try.underlying41 Try.underlying5 Try.underlying9; rw [List.length_set, hs2] at hconv; have n0_ := Aside0.mk (hbl.setCell (p := ⟨B, i, none⟩) hBb (.int .u8 (y.toNat : Int))); clear HB hbl hbs hB hBb; have HB := n0_; clear n0_)
      | (go_at_call 15; first
          | ((with_reducible refine (get_bad ⟨((putL c).set i y).toArray⟩ g1.out _).mono ?_); rintro e w5 ⟨rfl, hb1⟩; have n0_ := Aside0.mk (below_step HB.out hb1); clear HB hb1; have HB := n0_; clear n0_)
          | ((with_reducible refine (get_bad ((⟨(putL c).toArray⟩ : ByteArray).extract 0 15) g2.out _).mono ?_); rintro e w6 ⟨rfl, hb1⟩; have n0_ := Aside0.mk (below_step HB.out hb1); clear HB hb1; have HB := n0_; clear n0_)
          | ((with_reducible refine (get_bad ((⟨(putL c).toArray⟩ : ByteArray) ++ ⟨#[120]⟩) g3.out _).mono ?_); rintro e w7 ⟨rfl, hb1⟩; have n0_ := Aside0.mk (below_step HB.out hb1); clear HB hb1; have HB := n0_; clear n0_)
          | ((with_reducible refine (get_bad ⟨#[0, 0, 0, 1, 0, 0, 0, 0, 255, 255, 255, 254, 255, 255, 255, 255]⟩ getF_const _).mono ?_); rintro e w8 ⟨rfl, hb1⟩; have n0_ := Aside0.mk (below_step (pw_below_drewN HB.out _) hb1); clear HB hb1; have HB := n0_; clear n0_))
      | (go_at_call 17; first
          | ((with_reducible refine (torn_bad _ _ 0 t1.out _).mono ?_); rintro e w9 ⟨rfl, ⟨nd1, rfl⟩⟩)
          | ((with_reducible refine (torn_bad _ _ (-d) t2.out _).mono ?_); rintro e w9 ⟨rfl, ⟨nd2, rfl⟩⟩))
      | (go_at_call 19; (with_reducible refine (num_calls 300 _).mono ?_); rintro e w4 ⟨rfl, ⟨nd, rfl⟩⟩))
    go_ret
    exact ⟨by simp, pw_below_drewN HB.out _⟩

theorem and1 (n : Int) : Go.bits .and .i64 n 1 = n % 2 := by
  have h0 : (BitVec.ofInt 64 1).toNat = 2 ^ 1 - 1 := by decide
  have key : (BitVec.ofInt 64 n &&& BitVec.ofInt 64 1).toNat = (n % ((2 ^ 64 : Nat) : Int)).toNat % 2 ^ 1 := by
    rw [BitVec.toNat_and, BitVec.toNat_ofInt, h0, Nat.and_two_pow_sub_one_eq_mod]
  show IntKind.i64.wrap ((BitVec.ofInt 64 n &&& BitVec.ofInt 64 1).toNat : Nat) = n % 2
  rw [key, IntKind.wrap_i64]
  omega

theorem and127 (n : Int) : Go.bits .and .i64 n 127 = n % 128 := by
  have h0 : (BitVec.ofInt 64 127).toNat = 2 ^ 7 - 1 := by decide
  have key : (BitVec.ofInt 64 n &&& BitVec.ofInt 64 127).toNat = (n % ((2 ^ 64 : Nat) : Int)).toNat % 2 ^ 7 := by
    rw [BitVec.toNat_and, BitVec.toNat_ofInt, h0, Nat.and_two_pow_sub_one_eq_mod]
  show IntKind.i64.wrap ((BitVec.ofInt 64 n &&& BitVec.ofInt 64 127).toNat : Nat) = n % 128
  rw [key, IntKind.wrap_i64]
  omega

theorem and1023 (n : Int) : Go.bits .and .i64 n 1023 = n % 1024 := by
  have h0 : (BitVec.ofInt 64 1023).toNat = 2 ^ 10 - 1 := by decide
  have key : (BitVec.ofInt 64 n &&& BitVec.ofInt 64 1023).toNat = (n % ((2 ^ 64 : Nat) : Int)).toNat % 2 ^ 10 := by
    rw [BitVec.toNat_and, BitVec.toNat_ofInt, h0, Nat.and_two_pow_sub_one_eq_mod]
  show IntKind.i64.wrap ((BitVec.ofInt 64 n &&& BitVec.ofInt 64 1023).toNat : Nat) = n % 1024
  rw [key, IntKind.wrap_i64]
  omega

/-- The turned byte: never the old one. -/
theorem xor_byte (x : UInt8) (by_ : Int) : ∃ y : UInt8, Go.bits .xor .u8 (x.toNat : Int) (wrap64 (1 + Go.bits .and .i64 by_ 127) % 256) = (y.toNat : Int) ∧ x ≠ y := by
  have hm : wrap64 (1 + Go.bits .and .i64 by_ 127) % 256 = (((1 + by_ % 128).toNat : Nat) : Int) := by
    rw [and127]; unfold wrap64; omega
  have h1 : 1 ≤ (1 + by_ % 128).toNat := by omega
  have h2 : (1 + by_ % 128).toNat ≤ 128 := by omega
  rw [hm]
  generalize (1 + by_ % 128).toNat = m at h1 h2
  have hx : x.toNat < 256 := x.toNat_lt
  have hxm : x.toNat ^^^ m < 256 := Nat.xor_lt_two_pow (n := 8) hx (by omega)
  refine ⟨UInt8.ofNat (x.toNat ^^^ m), ?_, fun h => ?_⟩
  · rw [u8_xor_nat x.toNat m hx (by omega), UInt8.toNat_ofNat']
    rw [Nat.mod_eq_of_lt hxm]
  · have h3 : x.toNat = x.toNat ^^^ m := by
      have := congrArg UInt8.toNat h
      rwa [UInt8.toNat_ofNat', Nat.mod_eq_of_lt hxm] at this
    have h4 : m = 0 := by
      have h5 : x.toNat ^^^ (x.toNat ^^^ m) = x.toNat ^^^ x.toNat := by rw [← h3]
      rw [← Nat.xor_assoc, Nat.xor_self, Nat.zero_xor] at h5
      exact h5
    omega

/-- One byte of a slot turned: no slot. -/
theorem turned_none (c : Int) (h : In c) (i : Nat) (hi : i < (putL c).length) (y : UInt8) (hne : (putL c)[i] ≠ y) : getF ((putL c).set i y) = (0, 300) := by
  refine getF_none _ fun a ha e => ?_
  have hac : a = c := by
    by_cases h8 : i < 8
    · apply put_inj_high a c ha h
      rw [e, List.drop_set_of_lt (by omega)]
    · apply put_inj a c ha h
      rw [e, List.take_set_of_le (by omega)]
  rw [hac] at e
  have h2 : ((putL c).set i y)[i]? = (putL c)[i]? := by rw [← e]
  rw [List.getElem?_set_self hi, List.getElem?_eq_getElem hi] at h2
  exact hne (Option.some.inj h2).symm

theorem forms_calls (n x at_ : Int) (w : World) :
    Calls Try.prog 5 #[.int .i64 n, .int .i64 x, .int .i64 at_] w fun e w' => e = .returned (.bool true) ∧ Below w.heap.size w w' := by
  have hu : 0 ≤ IntKind.u64.wrap at_ ∧ IntKind.u64.wrap at_ < 18446744073709551616 := by rw [IntKind.wrap_u64]; omega
  have hin := low32 x
  obtain ⟨i, hi⟩ : ∃ i : Nat, (IntKind.u64.wrap at_) % 16 = (i : Int) := Int.eq_ofNat_of_zero_le (by omega)
  have hlt : i < (putL ((IntKind.u64.wrap x) % 4294967296)).length := by rw [putL_length]; omega
  obtain ⟨y, hy, hne⟩ := xor_byte (putL ((IntKind.u64.wrap x) % 4294967296))[i] n
  refine forms_walk n x at_ (1 + x % 1024) (if n % 2 = 0 then -(1 + x % 1024) else 4294967295 + (1 + x % 1024)) (n % 2) ((IntKind.u64.wrap x) % 4294967296) w i (by omega) _ y ⟨List.getElem?_eq_getElem hlt⟩ ?_ (by omega) (by omega) (and1 n) ?_ rfl ⟨hin⟩ ?_ hy ⟨turned_none _ hin i hlt y hne⟩
  · rw [and1023]; unfold wrap64; omega
  · by_cases h : n % 2 = 0
    · left; exact ⟨h, if_pos h⟩
    · right; exact ⟨by omega, if_neg h⟩
  · rw [Int.tmod_eq_emod_of_nonneg hu.1, hi]; unfold wrap64; omega

end Go.Proofs.Ytjcmjfabadlbjaa.Slot
