/- At every number, texts and place the program's Put, Get and Torn answer what the document's do (P3.1, P3.2). Condition: none beyond the row's own reach. -/
import Derived.Test.YtjcmjfabadlbjaaPS3x3
import Derived.Test.YtjcmjfabadlbjaaSlotAwake
namespace Go.Proofs.Ytjcmjfabadlbjaa.Pure
open Go.RowKit Go.Proofs.Ytjcmjfabadlbjaa.PS3 Go.Proofs.YtjcmjfabadlbjaaW.PrintWords Go.Proofs.YtjcmjfabadlbjaaW.PrintLast Go.Proofs.Ytjcmjfabadlbjaa.Slot

theorem Slots : watchwordlaw3_Slots.Pure := by
  intro c s t k _ _ _ _
  refine ⟨9, ?_⟩
  unfold watchwordlaw3_Slots.f
  rw [get_any s 9 (by omega), getRef_tells s 9 (by omega), torn_tells, tornRef_tells, awake_any 9 (by omega)]
  simp [slot_Put.f, watchwordref1_PutSlot.f, watchwordlaw0_Num.f]

end Go.Proofs.Ytjcmjfabadlbjaa.Pure
