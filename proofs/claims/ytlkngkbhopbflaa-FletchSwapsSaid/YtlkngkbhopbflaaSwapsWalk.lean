/- Two neighbours of a text swapped: what FletchSwaps's code does, step by step, and that it answers true. No condition beyond the row's own reach. -/
import Derived.Test.YtlkngkbhopbflaaTurnedWalk
namespace Go.Proofs.Ytlkngkbhopbflaa.Swaps
open Go.RowKit Go.Proofs.YtlkngkbhopbflaaW.PrintWords Go.Proofs.YtlkngkbhopbflaaW.PrintLast Go.Proofs.Ytlkngkbhopbflaa.Plain Go.Proofs.Ytlkngkbhopbflaa.Byt Go.Proofs.Ytlkngkbhopbflaa.Turned

theorem num_calls (w : World) : Calls Try.prog 17 #[.int .i64 0] w fun e w' => e = .returned (.int .i64 0) ∧ Drawn0 w w' :=
  PFletchBehind.watchwordlaw0_Num.calls 0 0 w rfl

set_option maxHeartbeats 4000000 in
set_option maxRecDepth 100000 in
theorem swaps_walk (s : ByteArray) (at_ : Int) (w : World) (h0 : 2 ≤ s.size) (h1 : s.size ≤ 200)
    (k : Nat) (hk : k + 1 < s.data.toList.length) (x y : UInt8) (hx : Aside0 (s.data.toList[k] = x)) (hy : Aside0 (s.data.toList[k + 1] = y)) (o p q r t v : Bool)
    (e1 : wrap64 ((IntKind.u64.wrap at_).tmod ((s.size : Int) - 1)) = (k : Int))
    (ho : ((x.toNat : Int) == (y.toNat : Int)) = o) (hp : ((x.toNat : Int) == 0) = p) (hq : ((y.toNat : Int) == 255) = q) (hr : ((x.toNat : Int) == 255) = r) (ht : ((y.toNat : Int) == 0) = t)
    (hcs : Aside0 ((o = true ∧ v = true) ∨ (o = false ∧ p = true ∧ q = true ∧ v = true) ∨ (o = false ∧ p = true ∧ q = false ∧ r = false ∧ v = false) ∨ (o = false ∧ p = false ∧ r = true ∧ t = true ∧ v = true) ∨ (o = false ∧ p = false ∧ r = true ∧ t = false ∧ v = false) ∨ (o = false ∧ p = false ∧ r = false ∧ v = false)))
    (hv : (sum s.data.toList == sum ((s.data.toList.set k y).set (k + 1) x)) = v) :
    Calls Try.prog 6 #[.string s, .int .i64 at_] w fun e w' => e = .returned (.bool true) ∧ Below w.heap.size w w' := by
  have c0 : decide ((s.size : Int) < 2) = false := decide_eq_false (by omega)
  have c1 : decide ((200 : Int) < (s.size : Int)) = false := decide_eq_false (by omega)
  have hz : (⟨((s.data.toList.set k y).set (k + 1) x).toArray⟩ : ByteArray).size ≤ 9223372036854775807 := by
    show ((s.data.toList.set k y).set (k + 1) x).toArray.size ≤ _
    rw [List.size_toArray, List.length_set, List.length_set, Array.length_toList]
    have : s.data.size = s.size := rfl
    omega
  go_enter Try.func6, Try.ntmps6
  go_wp2_with (first
    | (go_at_call 16; (with_reducible refine (awake_calls _).mono ?_); rintro e w' ⟨rfl, ⟨nd, rfl⟩⟩)
    | ((with_reducible refine gate_dst (N := 21) rfl ?_); refine law_bytes rfl 9 25 5 _ rfl Try.underlying9 Try.underlying25 Try.underlying5 s rfl ?_; intro b cap W1 hb hB hbl hcap; have hc := hB.cell k (by omega); have hf := hB.free k (by omega); have hc2 := hB.cell (k + 1) (by omega); have hf2 := hB.free (k + 1) (by omega); rw [hx.out] at hc; rw [hy.out] at hc2; replace hbl := Aside0.mk hbl; replace hb := Aside0.mk hb; clear hcap))
  rw [e1]
  clear e1
  have hsz : s.data.toList.length = s.size := by rw [Array.length_toList]; rfl
  have hw1 : wrap64 ((k : Int) + 1) = (k : Int) + 1 := by clear hz; unfold wrap64; omega
  have hlt1 : (k : Int) + 1 < (s.size : Int) := by clear hz hw1; omega
  go_quiet (fail)
  have hB2 := Aside0.mk (((hB.drewN nq).set k y).set (k + 1) x)
  have hconv : ∀ n, (convert 25 9 (.slice (some ⟨b, 0, none⟩) s.size cap)).run Try.prog ((((W1.drewN nq).setCell ⟨b, k, none⟩ (.int .u8 (y.toNat : Int))).setCell ⟨b, k + 1, none⟩ (.int .u8 (x.toNat : Int))).drewN n) = .ok (.string ⟨((s.data.toList.set k y).set (k + 1) x).toArray⟩) ((((W1.drewN nq).setCell ⟨b, k, none⟩ (.int .u8 (y.toNat : Int))).setCell ⟨b, k + 1, none⟩ (.int .u8 (x.toNat : Int))).drewN n) := by
    intro n
    have h3 := (hB2.out.drewN n).string (P := Try.prog) 25 9 5 cap Try.underlying25 Try.underlying5 Try.underlying9
    rw [List.length_set, List.length_set, hsz] at h3
    exact h3
  have hbel : Aside0 (Below w.heap.size w (((W1.drewN nq).setCell ⟨b, k, none⟩ (.int .u8 (y.toNat : Int))).setCell ⟨b, k + 1, none⟩ (.int .u8 (x.toNat : Int)))) := ⟨by
    have h5 : Below w.heap.size (w.drewN nd) W1 := hbl.out
    have h4 : Below w.heap.size w W1 := (pw_below_drewN (Below.refl _ _) nd).trans h5
    have h6 : w.heap.size ≤ b := hb.out
    exact ((pw_below_drewN h4 nq).setCell h6 _).setCell h6 _⟩
  clear hB hbl hB2 hsz
  have hconv' := Aside0.mk hconv
  clear hconv
  rcases hcs.out with ⟨rfl, rfl⟩ | ⟨rfl, rfl, rfl, rfl⟩ | ⟨rfl, rfl, rfl, rfl, rfl⟩ | ⟨rfl, rfl, rfl, rfl, rfl⟩ | ⟨rfl, rfl, rfl, rfl, rfl⟩ | ⟨rfl, rfl, rfl, rfl⟩
  all_goals
    go_wp2
    have hconv := hconv'.out
    clear hconv'
    generalize (((W1.drewN nq).setCell ⟨b, k, none⟩ (.int .u8 (y.toNat : Int))).setCell ⟨b, k + 1, none⟩ (.int .u8 (x.toNat : Int))) = W2 at *
    go_quiet ((first | (go_at_call 17; exact Calls.quiet_of ((num_calls _).mono fun _ _ h => ⟨h.1, h.2.out⟩)) | (go_at_call 14; exact Calls.quiet_of ((sum_calls _ (by first | assumption | omega) _).mono fun _ _ h => ⟨h.1, h.2.out⟩))))
    go_wp2
    go_ret
    exact ⟨by simp, pw_below_drewN hbel.out _⟩

set_option maxHeartbeats 4000000 in
set_option maxRecDepth 100000 in
theorem swaps_short (s : ByteArray) (at_ : Int) (w : World) (h0 : s.size < 2) :
    Calls Try.prog 6 #[.string s, .int .i64 at_] w fun e w' => e = .returned (.bool true) ∧ Below w.heap.size w w' := by
  have c0 : decide ((s.size : Int) < 2) = true := decide_eq_true (by omega)
  clear h0
  go_enter Try.func6, Try.ntmps6
  go_wp2_with (go_at_call 16; (with_reducible refine (awake_calls _).mono ?_); rintro e w' ⟨rfl, ⟨nd, rfl⟩⟩)
  go_ret
  exact ⟨rfl, pw_below_drewN (Below.refl _ _) _⟩

set_option maxHeartbeats 4000000 in
set_option maxRecDepth 100000 in
theorem swaps_long (s : ByteArray) (at_ : Int) (w : World) (h0 : 200 < s.size) :
    Calls Try.prog 6 #[.string s, .int .i64 at_] w fun e w' => e = .returned (.bool true) ∧ Below w.heap.size w w' := by
  have c0 : decide ((s.size : Int) < 2) = false := decide_eq_false (by omega)
  have c1 : decide ((200 : Int) < (s.size : Int)) = true := decide_eq_true (by omega)
  clear h0
  go_enter Try.func6, Try.ntmps6
  go_wp2_with (go_at_call 16; (with_reducible refine (awake_calls _).mono ?_); rintro e w' ⟨rfl, ⟨nd, rfl⟩⟩)
  go_ret
  exact ⟨rfl, pw_below_drewN (Below.refl _ _) _⟩

theorem swap_split : ∀ (l : List UInt8) (k : Nat) (h : k + 1 < l.length), (l.set k l[k + 1]).set (k + 1) l[k] = l.take k ++ l[k + 1] :: l[k] :: l.drop (k + 2)
  | x :: y :: r, 0, _ => rfl
  | x :: r, k + 1, h => by
    have ih := swap_split r k (by simpa using h)
    simp only [List.getElem_cons_succ, List.set_cons_succ, List.take_succ_cons, List.drop_succ_cons, List.cons_append]
    rw [ih]

theorem six (o p q r t v : Bool) (hpr : p = true → r = true → False) (hv : v = (o || (p && q || r && t))) :
    ((o = true ∧ v = true) ∨ (o = false ∧ p = true ∧ q = true ∧ v = true) ∨ (o = false ∧ p = true ∧ q = false ∧ r = false ∧ v = false) ∨ (o = false ∧ p = false ∧ r = true ∧ t = true ∧ v = true) ∨ (o = false ∧ p = false ∧ r = true ∧ t = false ∧ v = false) ∨ (o = false ∧ p = false ∧ r = false ∧ v = false)) := by
  subst hv
  revert hpr
  cases o <;> cases p <;> cases q <;> cases r <;> cases t <;> simp

theorem swaps_calls (s : ByteArray) (at_ : Int) (w : World) :
    Calls Try.prog 6 #[.string s, .int .i64 at_] w fun e w' => e = .returned (.bool true) ∧ Below w.heap.size w w' := by
  by_cases h0 : s.size < 2
  · exact swaps_short s at_ w h0
  by_cases h1 : 200 < s.size
  · exact swaps_long s at_ w h1
  have hsz : s.data.toList.length = s.size := by rw [Array.length_toList]; rfl
  have hu : 0 ≤ IntKind.u64.wrap at_ ∧ IntKind.u64.wrap at_ < 18446744073709551616 := by rw [IntKind.wrap_u64]; omega
  have hm : (IntKind.u64.wrap at_).tmod ((s.size : Int) - 1) = (IntKind.u64.wrap at_) % ((s.size : Int) - 1) := Int.tmod_eq_emod_of_nonneg hu.1
  have hm0 : 0 ≤ (IntKind.u64.wrap at_) % ((s.size : Int) - 1) := Int.emod_nonneg _ (by omega)
  have hm1 : (IntKind.u64.wrap at_) % ((s.size : Int) - 1) < (s.size : Int) - 1 := Int.emod_lt_of_pos _ (by omega)
  obtain ⟨k, hk⟩ := Int.eq_ofNat_of_zero_le hm0
  have hkl : k + 1 < s.data.toList.length := by omega
  have hk0 : k < s.data.toList.length := by omega
  have h3 : s.data.toList = s.data.toList.take k ++ s.data.toList[k] :: s.data.toList[k + 1] :: s.data.toList.drop (k + 2) := by
    rw [← List.drop_eq_getElem_cons hkl, ← List.drop_eq_getElem_cons hk0, List.take_append_drop]
  have h2 : (s.data.toList.set k s.data.toList[k + 1]).set (k + 1) s.data.toList[k] = s.data.toList.take k ++ s.data.toList[k + 1] :: s.data.toList[k] :: s.data.toList.drop (k + 2) := by
    exact swap_split _ k hkl
  have h4 := sum_swapped (s.data.toList.take k) (s.data.toList.drop (k + 2)) s.data.toList[k] s.data.toList[k + 1]
  rw [← h2, ← h3] at h4
  generalize hx : s.data.toList[k] = x at *
  generalize hy : s.data.toList[k + 1] = y at *
  have n0 : ∀ z : UInt8, ((z.toNat : Int) == 0) = (z == 0) := fun z => by
    rw [Bool.eq_iff_iff, beq_iff_eq, beq_iff_eq, ← UInt8.toNat_inj]; simp
  have n1 : ∀ z : UInt8, ((z.toNat : Int) == 255) = (z == 255) := fun z => by
    rw [Bool.eq_iff_iff, beq_iff_eq, beq_iff_eq, ← UInt8.toNat_inj]; simp; omega
  have n2 : ((x.toNat : Int) == (y.toNat : Int)) = (x == y) := by
    rw [Bool.eq_iff_iff, beq_iff_eq, beq_iff_eq, ← UInt8.toNat_inj]; omega
  refine swaps_walk s at_ w (by omega) (by omega) k hkl x y ⟨hx⟩ ⟨hy⟩ (x == y) (x == 0) (y == 255) (x == 255) (y == 0) _ (by rw [hm, hk]; unfold wrap64; omega) n2 (n0 x) (n1 y) (n1 x) (n0 y) ⟨six _ _ _ _ _ _ ?_ ?_⟩ rfl
  · intro ha hb
    have ha' : x = 0 := by simpa using ha
    have hb' : x = 255 := by simpa using hb
    rw [ha'] at hb'; exact absurd hb' (by decide)
  · rw [Bool.eq_iff_iff, beq_iff_eq, h4]
    simp

end Go.Proofs.Ytlkngkbhopbflaa.Swaps
