/- Where an act, or a key, has its numbers. -/
import Derived.Test.YtdpbklckeamjpaaDoorScrF
namespace Go.Proofs.YtdpbklckeamjpaaDoor.Scr
open Go.RowKit Go.Proofs.YtdpbklckeamjpaaDoorW.PrintWords Go.Proofs.YtdpbklckeamjpaaDoorW.PrintLast Go.Proofs.YtdpbklckeamjpaaDoorW.PrintMore Go.Proofs.YtdpbklckeamjpaaDoor.PScripts

set_option maxHeartbeats 4000000 in
set_option maxRecDepth 100000 in
theorem numbers_calls (W : World) (ga : Nat) : Calls Tryd.prog 18 #[.pointer (some ⟨ga, 0, none⟩)] W fun e W' => ∃ gx, e = .returned (.slice (some ⟨gx, 0, none⟩) 5 5) ∧
    W'.heap[gx]? = some (.cells #[.pointer (some ⟨ga, 0, none⟩), .pointer (some ⟨ga, 1, none⟩), .pointer (some ⟨ga, 2, none⟩), .pointer (some ⟨ga, 3, none⟩), .pointer (some ⟨ga, 4, none⟩)] 73 (0, 0)) ∧ W.heap.size ≤ gx ∧ Below W.heap.size W W' := by
  go_enter Tryd.func18, Tryd.ntmps18
  go_wp2_with fail
  go_region_held3 (fun _ => True) (first | exact trivial) (first | fail)
  go_wp2
  go_ret
  exact ⟨_, rfl, heap_alloc_new _ _, Nat.le_refl _, by repeat (first | exact Below.refl _ _ | apply below_drew | apply below_alloc)⟩

set_option maxHeartbeats 4000000 in
set_option maxRecDepth 100000 in
theorem times_calls (W : World) (ga : Nat) : Calls Tryd.prog 19 #[.pointer (some ⟨ga, 6, none⟩)] W fun e W' => ∃ gx, e = .returned (.slice (some ⟨gx, 0, none⟩) 5 5) ∧
    W'.heap[gx]? = some (.cells #[.pointer (some ⟨ga, 6, none⟩), .pointer (some ⟨ga, 8, none⟩), .pointer (some ⟨ga, 9, none⟩), .pointer (some ⟨ga, 10, none⟩), .pointer (some ⟨ga, 11, none⟩)] 73 (0, 0)) ∧ W.heap.size ≤ gx ∧ Below W.heap.size W W' := by
  go_enter Tryd.func19, Tryd.ntmps19
  go_wp2_with fail
  go_region_held3 (fun _ => True) (first | exact trivial) (first | fail)
  go_wp2
  go_ret
  exact ⟨_, rfl, heap_alloc_new _ _, Nat.le_refl _, by repeat (first | exact Below.refl _ _ | apply below_drew | apply below_alloc)⟩

end Go.Proofs.YtdpbklckeamjpaaDoor.Scr
