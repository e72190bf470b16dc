/- Each number comes back out of its slot; unlike numbers have unlike slots (P3.1). Condition: none beyond the row's own. -/
import Derived.Test.YtjcmjfabadlbjaaPS3x3
import Derived.Test.YtjcmjfabadlbjaaSlotAwake
namespace Go.Proofs.Ytjcmjfabadlbjaa.Pure
open Go.RowKit Go.Proofs.Ytjcmjfabadlbjaa.PS3 Go.Proofs.YtjcmjfabadlbjaaW.PrintWords Go.Proofs.YtjcmjfabadlbjaaW.PrintLast Go.Proofs.Ytjcmjfabadlbjaa.Slot

theorem SlotBack : watchwordlaw3_SlotBack.Pure := by
  intro a b _ _
  obtain ⟨k, hk⟩ : ∃ k : Nat, 5 ≤ k := ⟨9, by omega⟩
  refine ⟨k, ?_⟩
  unfold watchwordlaw3_SlotBack.f
  have ha := low32 a
  have hb := low32 b
  generalize (IntKind.u64.wrap a) % 4294967296 = x at *
  generalize (IntKind.u64.wrap b) % 4294967296 = y at *
  rw [awake_any k hk]
  simp only [Option.bind_some, if_true, slot_Put.f, putF_in x ha, putF_in y hb, watchwordlaw0_Num.f]
  rw [get_any _ k hk, mk_data, getF_put x ha]
  simp only [Option.bind_some, mk_toList, if_true]
  have h3 : ((putL x == putL y) == (x == y)) = true := by
    by_cases h : x = y
    · rw [h, beq_self_eq_true, beq_self_eq_true]; rfl
    · have h2 : putL x ≠ putL y := fun e => h (put_eq x y ha hb e)
      rw [beq_eq_false_iff_ne.mpr h2, beq_eq_false_iff_ne.mpr h]; rfl
  rw [h3]

end Go.Proofs.Ytjcmjfabadlbjaa.Pure
