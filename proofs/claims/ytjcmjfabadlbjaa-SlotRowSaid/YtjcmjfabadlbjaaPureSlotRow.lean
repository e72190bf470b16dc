/- Slots written one over the other, each torn, from a whole one: what is whole is one of those that were put (P3.2, T2). Condition: none beyond the row's own. -/
import Derived.Test.YtjcmjfabadlbjaaPS3x4
import Derived.Test.YtjcmjfabadlbjaaSlotAwake
namespace Go.Proofs.Ytjcmjfabadlbjaa.Pure
open Go.RowKit Go.Proofs.Ytjcmjfabadlbjaa.PS3 Go.Proofs.YtjcmjfabadlbjaaW.PrintWords Go.Proofs.YtjcmjfabadlbjaaW.PrintLast Go.Proofs.Ytjcmjfabadlbjaa.Slot

theorem SlotRow : watchwordlaw3_SlotRow.Pure := by
  intro a b k _ _ _
  refine ⟨9, ?_⟩
  unfold watchwordlaw3_SlotRow.f
  have ha := low32 a
  have hb := low32 b
  have hk0 : 0 ≤ (IntKind.u64.wrap k) % 17 := by omega
  have hk1 : (IntKind.u64.wrap k) % 17 ≤ 16 := by omega
  generalize (IntKind.u64.wrap a) % 4294967296 = x at *
  generalize (IntKind.u64.wrap b) % 4294967296 = y at *
  rw [awake_any 9 (by omega)]
  simp only [Option.bind_some, if_true, slot_Put.f, putF_in x ha, putF_in y hb, watchwordlaw0_Num.f]
  rw [if_pos (by rw [put_size]; rfl), put_size]
  simp only [watchwordlaw3_SlotRow.j0, torn_tells, mod17]
  generalize (IntKind.u64.wrap k) % 17 = m at *
  have lx := putL_length x
  have ly := putL_length y
  have lz : ((putL y).take m.toNat ++ (putL x).drop m.toNat).length = 16 := by rw [List.length_append, List.length_take, List.length_drop]; omega
  rw [if_neg (by decide), torn_lists _ _ lx ly m hk0 hk1]
  simp only [Option.bind_some]
  rw [torn_lists _ _ lz ly 16 (by omega) (by omega), torn_lists _ _ lz lx 16 (by omega) (by omega), torn_lists _ _ lx ly 0 (by omega) (by omega)]
  simp only [Option.bind_some, watchwordlaw0_Num.f, if_true, mk_toList]
  have e16 : (16 : Int).toNat = 16 := rfl
  have e0 : (0 : Int).toNat = 0 := rfl
  rw [e16, e0, List.take_of_length_le (by omega : (putL y).length ≤ 16), List.drop_eq_nil_of_le (by omega : ((putL y).take m.toNat ++ (putL x).drop m.toNat).length ≤ 16), List.append_nil, List.take_of_length_le (by omega : (putL x).length ≤ 16), List.append_nil, List.take_zero, List.drop_zero, List.nil_append]
  rw [if_pos rfl, if_pos rfl, if_pos rfl, mk_size, lz, put_size, put_size]
  rw [if_pos (by rfl), if_pos hk0, if_pos (by omega), if_pos (by omega)]
  have t1 : ((⟨((putL y).take m.toNat ++ (putL x).drop m.toNat).toArray⟩ : ByteArray).extract 0 m.toNat).toList = ((⟨(putL y).toArray⟩ : ByteArray).extract 0 m.toNat).toList := by
    rw [ByteArray.toList_eq, ByteArray.toList_eq]
    simp
    rw [List.take_append_of_le_length (by rw [List.length_take]; omega), List.take_take]
    simp
  have t2 : ((⟨((putL y).take m.toNat ++ (putL x).drop m.toNat).toArray⟩ : ByteArray).extract m.toNat 16).toList = ((⟨(putL x).toArray⟩ : ByteArray).extract m.toNat 16).toList := by
    rw [ByteArray.toList_eq, ByteArray.toList_eq]
    simp
    rw [List.drop_append, List.drop_eq_nil_of_le (by rw [List.length_take]; omega), List.nil_append, List.drop_drop, List.length_take]
    congr 1; congr 1; omega
  rw [if_pos t1, if_pos (by omega), t2]
  simp

end Go.Proofs.Ytjcmjfabadlbjaa.Pure
