/- What slot.Put answers, step by step: a slot's sixteen bytes for a count from 0 to 4294967295, else the error of layer 3. Walk alone. -/
import Derived.Test.YtjcmjfabadlbjaaProg
import Derived.Test.YtjcmjfabadlbjaaByt
import Derived.Test.YtjcmjfabadlbjaaWMore
namespace Go.Proofs.Ytjcmjfabadlbjaa.Slot
open Go.RowKit Go.Proofs.YtjcmjfabadlbjaaW.PrintWords Go.Proofs.YtjcmjfabadlbjaaW.PrintLast Go.Proofs.Ytjcmjfabadlbjaa.Byt

/-- Byte j of a number's eight, the highest first. -/
def byt (c : Int) (j : Nat) : UInt8 := UInt8.ofNat (c / 2 ^ (8 * (7 - j)) % 256).toNat
/-- The slot's bytes when k of its rounds are done. -/
def row (c : Int) (k : Nat) : List UInt8 := (List.range 16).map fun j => if j < k then byt c j else if 8 ≤ j ∧ j < 8 + k then 255 - byt c (j - 8) else 0
theorem row_length (c : Int) (k : Nat) : (row c k).length = 16 := by simp [row]
theorem row_zero (c : Int) : row c 0 = List.replicate 16 0 := by
  have : ∀ j : Nat, ¬ (8 ≤ j ∧ j < 8) := fun j h => by omega
  simp [row, this]
  rfl
theorem row_succ (c : Int) (k : Nat) (hk : k < 8) : row c (k + 1) = ((row c k).set k (byt c k)).set (8 + k) (255 - byt c k) := by
  apply List.ext_getElem
  · simp [row]
  · intro j h1 h2
    have hj : j < 16 := by simpa [row] using h1
    rw [List.getElem_set, List.getElem_set]
    simp only [row, List.getElem_map, List.getElem_range]
    by_cases a : 8 + k = j
    · subst a
      rw [if_pos rfl, if_neg (by omega), if_pos (by omega)]
      congr 2; omega
    · rw [if_neg a]
      by_cases b : k = j
      · subst b
        rw [if_pos rfl, if_pos (by omega)]
      · rw [if_neg b]
        by_cases d : j < k
        · rw [if_pos (by omega), if_pos d]
        · rw [if_neg (by omega), if_neg d]
          by_cases e : 8 ≤ j ∧ j < 8 + k
          · rw [if_pos (by omega), if_pos e]
          · rw [if_neg (by omega), if_neg e]
theorem byt_toNat (c : Int) (k : Nat) : ((byt c k).toNat : Int) = c / 2 ^ (8 * (7 - k)) % 256 := by
  unfold byt
  rw [UInt8.toNat_ofNat']
  have h0 : 0 ≤ c / 2 ^ (8 * (7 - k)) % 256 := Int.emod_nonneg _ (by decide)
  have h1 : c / 2 ^ (8 * (7 - k)) % 256 < 256 := Int.emod_lt_of_pos _ (by decide)
  omega
theorem not_byte (x : UInt8) : Go.bits .xor .u8 (if IntKind.u8.signed = true then -1 else IntKind.u8.max) (x.toNat : Int) = ((255 - x).toNat : Int) := by
  have h : ∀ n : Fin 256, Go.bits .xor .u8 (if IntKind.u8.signed = true then -1 else IntKind.u8.max) ((UInt8.ofNat n.val).toNat : Int) = ((255 - UInt8.ofNat n.val).toNat : Int) := by decide +kernel
  have := h ⟨x.toNat, x.toNat_lt⟩
  simpa using this

/-- A slot's bytes. -/
def putL (c : Int) : List UInt8 := row c 8

set_option maxHeartbeats 4000000 in
set_option maxRecDepth 100000 in
theorem put_good (c : Int) (w : World) (h0 : 0 ≤ c) (h1 : c ≤ 4294967295) :
    Calls Try.prog 13 #[.int .i64 c] w fun e w' => e = .returned (.tuple #[.string ⟨(putL c).toArray⟩, .int .i64 0]) ∧ Below w.heap.size w w' := by
  have c0 : decide (c < 0) = false := decide_eq_false (by omega)
  have c1 : decide ((4294967295 : Int) < c) = false := decide_eq_false (by omega)
  go_enter Try.func13, Try.ntmps13
  go_wp2
  go_loopw [13] (fun i wr => ∃ k : Nat, k ≤ 8 ∧ i = .int .i64 k ∧ Aside0 (BB wr w.heap.size 16 (row c k)) ∧ Aside0 (Below w.heap.size w wr)) (fun i _ => 8 - (intOf i).toNat)
  case atStart =>
    refine ⟨0, by omega, rfl, ⟨?_⟩, ⟨below_alloc (Below.refl _ _) _⟩⟩
    rw [row_zero]
    refine BB.alloc w _ 61 _ (by simp) (fun j hj => ?_)
    rw [List.getElem_replicate]
    have hj' : j < 16 := by simpa using hj
    show (Array.replicate 16 (Value.int .u8 0))[j]? = _
    rw [Array.getElem?_replicate, if_pos hj']
    rfl
  case round =>
    obtain ⟨k, hk, rfl, hB, hbl⟩ := hrel
    by_cases hlt : k < 8
    · have hc0 : decide ((k : Int) < 8) = true := decide_eq_true (by omega)
      have hf := hB.out.free k (by omega)
      have hf2 := hB.out.free (8 + k) (by omega)
      have hc := hB.out.cell k (by rw [row_length]; omega)
      have hc2 := hB.out.cell (8 + k) (by rw [row_length]; omega)
      go_wp2
      go_roundw
      case rel =>
        refine ⟨k + 1, by omega, by simp, ⟨?_⟩, ⟨?_⟩⟩
        · rw [row_succ c k hlt, ← byt_toNat, not_byte]
          exact (hB.out.set k _).set (8 + k) _
        · exact (hbl.out.setCell (Nat.le_refl _) _).setCell (Nat.le_refl _) _
      case measure => simp [intOf]; omega
    · obtain rfl : k = 8 := by omega
      have hconv := hB.out.string (P := Try.prog) 41 9 5 16 Try.underlying41 Try.underlying5 Try.underlying9
      rw [row_length] at hconv
      go_wp2
      go_ret2
      exact ⟨rfl, hbl.out⟩

set_option maxHeartbeats 4000000 in
set_option maxRecDepth 100000 in
theorem put_low (c : Int) (w : World) (h0 : c < 0) :
    Calls Try.prog 13 #[.int .i64 c] w fun e w' => e = .returned (.tuple #[.string ⟨#[]⟩, .int .i64 300]) ∧ Below w.heap.size w w' := by
  have c0 : decide (c < 0) = true := decide_eq_true h0
  clear h0
  go_enter Try.func13, Try.ntmps13
  go_wp2
  go_ret2
  exact ⟨rfl, Below.refl _ _⟩

set_option maxHeartbeats 4000000 in
set_option maxRecDepth 100000 in
theorem put_high (c : Int) (w : World) (h0 : 4294967295 < c) :
    Calls Try.prog 13 #[.int .i64 c] w fun e w' => e = .returned (.tuple #[.string ⟨#[]⟩, .int .i64 300]) ∧ Below w.heap.size w w' := by
  have c0 : decide (c < 0) = false := decide_eq_false (by omega)
  have c1 : decide ((4294967295 : Int) < c) = true := decide_eq_true h0
  clear h0
  go_enter Try.func13, Try.ntmps13
  go_wp2
  go_ret2
  exact ⟨rfl, Below.refl _ _⟩

/-- What slot.Put answers. -/
def putF (c : Int) : ByteArray × Int := if 0 ≤ c ∧ c ≤ 4294967295 then (⟨(putL c).toArray⟩, 0) else (⟨#[]⟩, 300)

theorem put_calls (c : Int) (w : World) :
    Calls Try.prog 13 #[.int .i64 c] w fun e w' => e = .returned (.tuple #[.string (putF c).1, .int .i64 (putF c).2]) ∧ Below w.heap.size w w' := by
  unfold putF
  by_cases h : 0 ≤ c ∧ c ≤ 4294967295
  · rw [if_pos h]; exact put_good c w h.1 h.2
  · rw [if_neg h]
    by_cases h0 : c < 0
    · exact put_low c w h0
    · exact put_high c w (by omega)

end Go.Proofs.Ytjcmjfabadlbjaa.Slot
