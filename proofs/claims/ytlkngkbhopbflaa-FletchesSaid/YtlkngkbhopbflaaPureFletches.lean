/- For every text the program's sum is the document's (P6.1). Condition: none beyond the row's own reach (a text of at most 140737488351232 bytes). -/
import Derived.Test.YtlkngkbhopbflaaPFletchesx1
namespace Go.Proofs.Ytlkngkbhopbflaa.Pure
open Go.RowKit Go.Proofs.Ytlkngkbhopbflaa.PFletches Go.Proofs.YtlkngkbhopbflaaW.PrintWords Go.Proofs.YtlkngkbhopbflaaW.PrintLast

/-- The program's loop and the reference's, in step. -/
theorem both_loops (s : ByteArray) (hn : s.size ≤ 140737488351232) (d : Nat) : ∀ (k : Nat) (i a b : Int), 0 ≤ i → i ≤ s.size → (s.size : Int) - i = d → d < k →
    ∃ r, fletch_Sum.l0 k s a b (s.size : Int) i = some r ∧ watchwordref1_Fletch.l0 k s a b i = some r := by
  induction d with
  | zero =>
    intro k i a b h0 h1 hd hk
    obtain ⟨k, rfl⟩ : ∃ m, k = m + 1 := ⟨k - 1, by omega⟩
    refine ⟨wrap64 ((wrap64 (256 * b)) + a), ?_, ?_⟩
    · simp only [fletch_Sum.l0]; rw [if_neg (by omega)]
    · simp only [watchwordref1_Fletch.l0]; rw [if_neg (by omega)]
  | succ d ih =>
    intro k i a b h0 h1 hd hk
    obtain ⟨k, rfl⟩ : ∃ m, k = m + 1 := ⟨k - 1, by omega⟩
    have hlt : i < (s.size : Int) := by omega
    have hw : wrap64 (i + 1) = i + 1 := by unfold wrap64; omega
    obtain ⟨r, h2, h3⟩ := ih k (i + 1) (Int.tmod (wrap64 (a + (wrap64 (bt s i)))) 255) (Int.tmod (wrap64 (b + (Int.tmod (wrap64 (a + (wrap64 (bt s i)))) 255))) 255) (by omega) (by omega) (by omega) (by omega)
    refine ⟨r, ?_, ?_⟩
    · simp only [fletch_Sum.l0]; rw [if_pos hlt, if_pos h0, if_pos hlt, hw]; exact h2
    · simp only [watchwordref1_Fletch.l0]; rw [if_pos hlt, if_pos h0, hw]; exact h3

theorem awake_tells : watchwordlaw6_awake.f 9 = some true := by decide +kernel

theorem Fletches : watchwordlaw6_Fletches.Pure := by
  intro s hn
  obtain ⟨r, h1, h2⟩ := both_loops s hn s.size (s.size + 9 + 1) 0 0 0 (by omega) (by omega) (by omega) (by omega)
  refine ⟨s.size + 9 + 1, ?_⟩
  have h3 : watchwordlaw6_awake.f (s.size + 9 + 1) = some true := at_rounds (fun k => watchwordlaw6_awake.mono k) (by omega) awake_tells
  have e1 : fletch_Sum.f (s.size + 9 + 1) s = some r := h1
  have e2 : watchwordref1_Fletch.f (s.size + 9 + 1) s = some r := h2
  unfold watchwordlaw6_Fletches.f
  rw [e1]; simp only [Option.bind_some]
  rw [e2]; simp only [Option.bind_some, if_true]
  rw [h3]; rfl

end Go.Proofs.Ytlkngkbhopbflaa.Pure
