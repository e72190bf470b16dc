/- The law's own first look (awake) answers true; two lemmas on more rounds. -/
import Derived.Test.YtjcmjfabadlbjaaPS3x2
import Derived.Test.YtjcmjfabadlbjaaSlotPlain
namespace Go.Proofs.Ytjcmjfabadlbjaa.Slot
open Go.RowKit Go.Proofs.YtjcmjfabadlbjaaW.PrintWords Go.Proofs.YtjcmjfabadlbjaaW.PrintLast Go.Proofs.Ytjcmjfabadlbjaa.PS3

theorem get_any (s : ByteArray) (k : Nat) (hk : 5 ≤ k) : slot_Get.f k s = some (getF s.data.toList) := at_rounds (slot_Get.mono s) hk (get_tells s)

theorem awake_five : watchwordlaw3_awake.f 5 = some true := by decide +kernel
theorem awake_any (k : Nat) (hk : 5 ≤ k) : watchwordlaw3_awake.f k = some true := at_rounds (fun k => watchwordlaw3_awake.mono k) hk awake_five

theorem low32 (a : Int) : In ((IntKind.u64.wrap a) % 4294967296) := by unfold In; omega

theorem mod17 (k : Int) : wrap64 (Int.tmod (IntKind.u64.wrap k) 17) = (IntKind.u64.wrap k) % 17 := by
  have hu : 0 ≤ IntKind.u64.wrap k ∧ IntKind.u64.wrap k < 18446744073709551616 := by rw [IntKind.wrap_u64]; omega
  rw [Int.tmod_eq_emod_of_nonneg hu.1]; unfold wrap64; omega

theorem mk_data (l : List UInt8) : (⟨l.toArray⟩ : ByteArray).data.toList = l := rfl
theorem mk_size (l : List UInt8) : (⟨l.toArray⟩ : ByteArray).size = l.length := by show l.toArray.size = _; rw [List.size_toArray]
theorem put_size (x : Int) : (⟨(putL x).toArray⟩ : ByteArray).size = 16 := by rw [mk_size, putL_length]

theorem torn_lists (l m : List UInt8) (hl : l.length = 16) (hm : m.length = 16) (k : Int) (h0 : 0 ≤ k) (h1 : k ≤ 16) :
    tornF ⟨l.toArray⟩ ⟨m.toArray⟩ k = (⟨(m.take k.toNat ++ l.drop k.toNat).toArray⟩, 0) := by
  unfold tornF
  rw [if_pos ⟨by rw [mk_size, hl], by rw [mk_size, hm], h0, h1⟩]
  congr 1
  apply ByteArray.ext
  apply Array.ext'
  simp [mk_size]
  rw [List.take_of_length_le (by rw [List.length_drop]; omega)]

/-- A torn slot of two: one of them, or none. -/
theorem torn_one (a b : Int) (ha : In a) (hb : In b) (k : Nat) :
    (putL b).take k ++ (putL a).drop k = putL a ∨ (putL b).take k ++ (putL a).drop k = putL b ∨ getF ((putL b).take k ++ (putL a).drop k) = (0, 300) := by
  by_cases h : ∃ c, In c ∧ putL c = (putL b).take k ++ (putL a).drop k
  · obtain ⟨c, hc, e⟩ := h
    by_cases h8 : k ≤ 8
    · left
      have : c = a := by
        apply put_inj_high c a hc ha
        rw [e, List.drop_append, List.drop_drop, List.length_take, putL_length]
        rw [List.drop_eq_nil_of_le (by rw [List.length_take, putL_length]; omega), List.nil_append]
        congr 1; omega
      rw [← e, this]
    · right; left
      have : c = b := by
        apply put_inj c b hc hb
        by_cases h16 : k ≤ 16
        · rw [e, List.take_append_of_le_length (by rw [List.length_take, putL_length]; omega), List.take_take]
          congr 1; omega
        · rw [e, List.drop_eq_nil_of_le (by rw [putL_length]; omega), List.append_nil, List.take_of_length_le (by rw [putL_length]; omega : (putL b).length ≤ k)]
      rw [← e, this]
  · right; right
    exact getF_none _ fun c hc h2 => h ⟨c, hc, h2⟩

end Go.Proofs.Ytjcmjfabadlbjaa.Slot
