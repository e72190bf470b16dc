/- ScriptKinds's code, step by step, joined. -/
import Derived.Test.YtdpbklckeamjpaaDoorScrT0
import Derived.Test.YtdpbklckeamjpaaDoorScrT1
import Derived.Test.YtdpbklckeamjpaaDoorScrT2
import Derived.Test.YtdpbklckeamjpaaDoorScrT3
import Derived.Test.YtdpbklckeamjpaaDoorScrT4
namespace Go.Proofs.YtdpbklckeamjpaaDoor.Scr
open Go.RowKit Go.Proofs.YtdpbklckeamjpaaDoorW.PrintWords Go.Proofs.YtdpbklckeamjpaaDoorW.PrintLast Go.Proofs.YtdpbklckeamjpaaDoorW.PrintMore Go.Proofs.YtdpbklckeamjpaaDoor.PScripts

theorem kinds_row (x y : Int) (W : World) (hv : Vars W) :
    Calls Tryd.prog 4 #[.int .i64 x, .int .i64 y] W fun e w' => e = .returned (.bool true) ∧ Below W.heap.size W w' := by
  have u1 : 0 ≤ IntKind.u64.wrap x := by rw [IntKind.wrap_u64]; omega
  have u2 : 0 ≤ IntKind.u64.wrap y := by rw [IntKind.wrap_u64]; omega
  obtain ⟨k, hk⟩ : ∃ k, (IntKind.u64.wrap x).tmod 9 = k := ⟨_, rfl⟩
  obtain ⟨f, hf⟩ : ∃ f, (IntKind.u64.wrap y).tmod 5 = f := ⟨_, rfl⟩
  have b1 : 0 ≤ k ∧ k < 9 := by rw [← hk, Int.tmod_eq_emod_of_nonneg u1]; omega
  have b2 : 0 ≤ f ∧ f < 5 := by rw [← hf, Int.tmod_eq_emod_of_nonneg u2]; omega
  have c2 : f = 0 ∨ f = 1 ∨ f = 2 ∨ f = 3 ∨ f = 4 := by omega
  have c1 : k = 0 ∨ k = 1 ∨ k = 2 ∨ k = 3 ∨ k = 4 ∨ k = 5 ∨ k = 6 ∨ k = 7 ∨ k = 8 := by omega
  rcases c1 with rfl | rfl | rfl | rfl | rfl | rfl | rfl | rfl | rfl
  · rcases c2 with rfl | rfl | rfl | rfl | rfl
    · exact kinds_0_0 x y W hv hk hf
    · exact kinds_0_1 x y W hv hk hf
    · exact kinds_0_2 x y W hv hk hf
    · exact kinds_0_3 x y W hv hk hf
    · exact kinds_0_4 x y W hv hk hf
  · rcases c2 with rfl | rfl | rfl | rfl | rfl
    · exact kinds_1_0 x y W hv hk hf
    · exact kinds_1_1 x y W hv hk hf
    · exact kinds_1_2 x y W hv hk hf
    · exact kinds_1_3 x y W hv hk hf
    · exact kinds_1_4 x y W hv hk hf
  · rcases c2 with rfl | rfl | rfl | rfl | rfl
    · exact kinds_2_0 x y W hv hk hf
    · exact kinds_2_1 x y W hv hk hf
    · exact kinds_2_2 x y W hv hk hf
    · exact kinds_2_3 x y W hv hk hf
    · exact kinds_2_4 x y W hv hk hf
  · rcases c2 with rfl | rfl | rfl | rfl | rfl
    · exact kinds_3_0 x y W hv hk hf
    · exact kinds_3_1 x y W hv hk hf
    · exact kinds_3_2 x y W hv hk hf
    · exact kinds_3_3 x y W hv hk hf
    · exact kinds_3_4 x y W hv hk hf
  · rcases c2 with rfl | rfl | rfl | rfl | rfl
    · exact kinds_4_0 x y W hv hk hf
    · exact kinds_4_1 x y W hv hk hf
    · exact kinds_4_2 x y W hv hk hf
    · exact kinds_4_3 x y W hv hk hf
    · exact kinds_4_4 x y W hv hk hf
  · rcases c2 with rfl | rfl | rfl | rfl | rfl
    · exact kinds_5_0 x y W hv hk hf
    · exact kinds_5_1 x y W hv hk hf
    · exact kinds_5_2 x y W hv hk hf
    · exact kinds_5_3 x y W hv hk hf
    · exact kinds_5_4 x y W hv hk hf
  · rcases c2 with rfl | rfl | rfl | rfl | rfl
    · exact kinds_6_0 x y W hv hk hf
    · exact kinds_6_1 x y W hv hk hf
    · exact kinds_6_2 x y W hv hk hf
    · exact kinds_6_3 x y W hv hk hf
    · exact kinds_6_4 x y W hv hk hf
  · rcases c2 with rfl | rfl | rfl | rfl | rfl
    · exact kinds_7_0 x y W hv hk hf
    · exact kinds_7_1 x y W hv hk hf
    · exact kinds_7_2 x y W hv hk hf
    · exact kinds_7_3 x y W hv hk hf
    · exact kinds_7_4 x y W hv hk hf
  · rcases c2 with rfl | rfl | rfl | rfl | rfl
    · exact kinds_8_0 x y W hv hk hf
    · exact kinds_8_1 x y W hv hk hf
    · exact kinds_8_2 x y W hv hk hf
    · exact kinds_8_3 x y W hv hk hf
    · exact kinds_8_4 x y W hv hk hf
end Go.Proofs.YtdpbklckeamjpaaDoor.Scr
