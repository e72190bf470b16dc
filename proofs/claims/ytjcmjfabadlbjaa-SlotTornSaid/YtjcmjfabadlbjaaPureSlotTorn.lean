/- Of two slots that were put a torn one is the old one, the new one, or none (P3.1, P3.2, T2). Condition: none beyond the row's own. -/
import Derived.Test.YtjcmjfabadlbjaaPS3x3
import Derived.Test.YtjcmjfabadlbjaaSlotAwake
namespace Go.Proofs.Ytjcmjfabadlbjaa.Pure
open Go.RowKit Go.Proofs.Ytjcmjfabadlbjaa.PS3 Go.Proofs.YtjcmjfabadlbjaaW.PrintWords Go.Proofs.YtjcmjfabadlbjaaW.PrintLast Go.Proofs.Ytjcmjfabadlbjaa.Slot

theorem SlotTorn : watchwordlaw3_SlotTorn.Pure := by
  intro a b k _ _ _
  refine ⟨9, ?_⟩
  unfold watchwordlaw3_SlotTorn.f
  rw [mod17]
  have ha := low32 a
  have hb := low32 b
  have hk0 : 0 ≤ (IntKind.u64.wrap k) % 17 := by omega
  have hk1 : (IntKind.u64.wrap k) % 17 ≤ 16 := by omega
  generalize (IntKind.u64.wrap a) % 4294967296 = x at *
  generalize (IntKind.u64.wrap b) % 4294967296 = y at *
  generalize (IntKind.u64.wrap k) % 17 = m at *
  rw [awake_any 9 (by omega)]
  simp only [Option.bind_some, if_true, slot_Put.f, putF_in x ha, putF_in y hb, torn_tells, watchwordlaw0_Num.f]
  rw [torn_lists _ _ (putL_length x) (putL_length y) m hk0 hk1]
  simp only [bne_self_eq_false, watchwordlaw3_SlotTorn.j0]
  rw [get_any _ 8 (by omega)]
  simp only [Option.bind_some, mk_toList]
  have h1 := torn_one x y ha hb m.toNat
  generalize (putL y).take m.toNat ++ (putL x).drop m.toNat = z at h1
  rcases h1 with h1 | h1 | h1
  · simp [h1]
  · simp [h1]
  · simp only [h1, watchwordlaw0_Num.f]
    by_cases e1 : z = putL x <;> by_cases e2 : z = putL y <;> simp [e1, e2]

end Go.Proofs.Ytjcmjfabadlbjaa.Pure
