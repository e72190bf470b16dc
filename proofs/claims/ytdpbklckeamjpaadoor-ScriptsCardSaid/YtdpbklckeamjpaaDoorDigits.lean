/- Both ask the same of an act; the document's digits. -/
import Derived.Test.YtdpbklckeamjpaaDoorScrP
import Derived.Test.YtdpbklckeamjpaaDoorPScriptsx7
namespace Go.Proofs.YtdpbklckeamjpaaDoor.Scr
section
open Go.RowKit Go.Proofs.YtdpbklckeamjpaaDoorW.PrintWords Go.Proofs.YtdpbklckeamjpaaDoorW.PrintLast Go.Proofs.YtdpbklckeamjpaaDoorW.PrintMore Go.Proofs.YtdpbklckeamjpaaDoor.PScripts

theorem same_0 (f1 f2 f3 f4 : Int) (f5 : ByteArray) (k : S34) : rmayB ⟨0, f1, f2, f3, f4, f5, k⟩ = mayB ⟨0, f1, f2, f3, f4, f5, k⟩ := by
  have q107 : hasF 0 107 = false := by kernel_rfl
  have q102 : hasF 0 102 = false := by kernel_rfl
  have q116 : hasF 0 116 = false := by kernel_rfl
  have q97 : hasF 0 97 = true := by kernel_rfl
  have q99 : hasF 0 99 = false := by kernel_rfl
  have q120 : hasF 0 120 = false := by kernel_rfl
  have n7 : namedF ⟨0, f1, f2, f3, f4, f5, k⟩ = ⟨0, 0, 0, f3, 0, ⟨#[]⟩, z34⟩ := by unfold namedF; simp
  unfold rmayB mayB sameB noKeyB
  rw [n7]
  simp only [q107, q102, q116, q97, q99, q120]
  generalize keyB k = b6
  simp [z34]
  try ac_rfl
theorem same_1 (f1 f2 f3 f4 : Int) (f5 : ByteArray) (k : S34) : rmayB ⟨1, f1, f2, f3, f4, f5, k⟩ = mayB ⟨1, f1, f2, f3, f4, f5, k⟩ := by
  have q107 : hasF 1 107 = false := by kernel_rfl
  have q102 : hasF 1 102 = false := by kernel_rfl
  have q116 : hasF 1 116 = false := by kernel_rfl
  have q97 : hasF 1 97 = true := by kernel_rfl
  have q99 : hasF 1 99 = false := by kernel_rfl
  have q120 : hasF 1 120 = false := by kernel_rfl
  have n7 : namedF ⟨1, f1, f2, f3, f4, f5, k⟩ = ⟨1, 0, 0, f3, 0, ⟨#[]⟩, z34⟩ := by unfold namedF; simp
  unfold rmayB mayB sameB noKeyB
  rw [n7]
  simp only [q107, q102, q116, q97, q99, q120]
  generalize keyB k = b6
  simp [z34]
  try ac_rfl
theorem same_2 (f1 f2 f3 f4 : Int) (f5 : ByteArray) (k : S34) : rmayB ⟨2, f1, f2, f3, f4, f5, k⟩ = mayB ⟨2, f1, f2, f3, f4, f5, k⟩ := by
  have q107 : hasF 2 107 = false := by kernel_rfl
  have q102 : hasF 2 102 = false := by kernel_rfl
  have q116 : hasF 2 116 = false := by kernel_rfl
  have q97 : hasF 2 97 = true := by kernel_rfl
  have q99 : hasF 2 99 = false := by kernel_rfl
  have q120 : hasF 2 120 = false := by kernel_rfl
  have n7 : namedF ⟨2, f1, f2, f3, f4, f5, k⟩ = ⟨2, 0, 0, f3, 0, ⟨#[]⟩, z34⟩ := by unfold namedF; simp
  unfold rmayB mayB sameB noKeyB
  rw [n7]
  simp only [q107, q102, q116, q97, q99, q120]
  generalize keyB k = b6
  simp [z34]
  try ac_rfl
theorem same_3 (f1 f2 f3 f4 : Int) (f5 : ByteArray) (k : S34) : rmayB ⟨3, f1, f2, f3, f4, f5, k⟩ = mayB ⟨3, f1, f2, f3, f4, f5, k⟩ := by
  have q107 : hasF 3 107 = false := by kernel_rfl
  have q102 : hasF 3 102 = true := by kernel_rfl
  have q116 : hasF 3 116 = true := by kernel_rfl
  have q97 : hasF 3 97 = false := by kernel_rfl
  have q99 : hasF 3 99 = false := by kernel_rfl
  have q120 : hasF 3 120 = true := by kernel_rfl
  have n7 : namedF ⟨3, f1, f2, f3, f4, f5, k⟩ = ⟨3, f1, f2, 0, 0, f5, z34⟩ := by unfold namedF; simp
  unfold rmayB mayB sameB noKeyB
  rw [n7]
  simp only [q107, q102, q116, q97, q99, q120]
  generalize keyB k = b6
  simp [z34]
  try ac_rfl
theorem same_4 (f1 f2 f3 f4 : Int) (f5 : ByteArray) (k : S34) : rmayB ⟨4, f1, f2, f3, f4, f5, k⟩ = mayB ⟨4, f1, f2, f3, f4, f5, k⟩ := by
  have q107 : hasF 4 107 = false := by kernel_rfl
  have q102 : hasF 4 102 = false := by kernel_rfl
  have q116 : hasF 4 116 = false := by kernel_rfl
  have q97 : hasF 4 97 = false := by kernel_rfl
  have q99 : hasF 4 99 = false := by kernel_rfl
  have q120 : hasF 4 120 = false := by kernel_rfl
  have n7 : namedF ⟨4, f1, f2, f3, f4, f5, k⟩ = ⟨4, 0, 0, 0, 0, ⟨#[]⟩, z34⟩ := by unfold namedF; simp
  unfold rmayB mayB sameB noKeyB
  rw [n7]
  simp only [q107, q102, q116, q97, q99, q120]
  generalize keyB k = b6
  simp [z34]
  try ac_rfl
theorem same_5 (f1 f2 f3 f4 : Int) (f5 : ByteArray) (k : S34) : rmayB ⟨5, f1, f2, f3, f4, f5, k⟩ = mayB ⟨5, f1, f2, f3, f4, f5, k⟩ := by
  have q107 : hasF 5 107 = false := by kernel_rfl
  have q102 : hasF 5 102 = false := by kernel_rfl
  have q116 : hasF 5 116 = true := by kernel_rfl
  have q97 : hasF 5 97 = false := by kernel_rfl
  have q99 : hasF 5 99 = false := by kernel_rfl
  have q120 : hasF 5 120 = false := by kernel_rfl
  have n7 : namedF ⟨5, f1, f2, f3, f4, f5, k⟩ = ⟨5, 0, f2, 0, 0, ⟨#[]⟩, z34⟩ := by unfold namedF; simp
  unfold rmayB mayB sameB noKeyB
  rw [n7]
  simp only [q107, q102, q116, q97, q99, q120]
  generalize keyB k = b6
  simp [z34]
  try ac_rfl
theorem same_6 (f1 f2 f3 f4 : Int) (f5 : ByteArray) (k : S34) : rmayB ⟨6, f1, f2, f3, f4, f5, k⟩ = mayB ⟨6, f1, f2, f3, f4, f5, k⟩ := by
  have q107 : hasF 6 107 = false := by kernel_rfl
  have q102 : hasF 6 102 = false := by kernel_rfl
  have q116 : hasF 6 116 = true := by kernel_rfl
  have q97 : hasF 6 97 = true := by kernel_rfl
  have q99 : hasF 6 99 = false := by kernel_rfl
  have q120 : hasF 6 120 = false := by kernel_rfl
  have n7 : namedF ⟨6, f1, f2, f3, f4, f5, k⟩ = ⟨6, 0, f2, f3, 0, ⟨#[]⟩, z34⟩ := by unfold namedF; simp
  unfold rmayB mayB sameB noKeyB
  rw [n7]
  simp only [q107, q102, q116, q97, q99, q120]
  generalize keyB k = b6
  simp [z34]
  try ac_rfl
theorem same_7 (f1 f2 f3 f4 : Int) (f5 : ByteArray) (k : S34) : rmayB ⟨7, f1, f2, f3, f4, f5, k⟩ = mayB ⟨7, f1, f2, f3, f4, f5, k⟩ := by
  have q107 : hasF 7 107 = true := by kernel_rfl
  have q102 : hasF 7 102 = false := by kernel_rfl
  have q116 : hasF 7 116 = true := by kernel_rfl
  have q97 : hasF 7 97 = false := by kernel_rfl
  have q99 : hasF 7 99 = false := by kernel_rfl
  have q120 : hasF 7 120 = false := by kernel_rfl
  have n7 : namedF ⟨7, f1, f2, f3, f4, f5, k⟩ = ⟨7, 0, f2, 0, 0, ⟨#[]⟩, k⟩ := by unfold namedF; simp
  unfold rmayB mayB sameB noKeyB
  rw [n7]
  simp only [q107, q102, q116, q97, q99, q120]
  generalize keyB k = b6
  simp
  try ac_rfl
theorem same_8 (f1 f2 f3 f4 : Int) (f5 : ByteArray) (k : S34) : rmayB ⟨8, f1, f2, f3, f4, f5, k⟩ = mayB ⟨8, f1, f2, f3, f4, f5, k⟩ := by
  have q107 : hasF 8 107 = false := by kernel_rfl
  have q102 : hasF 8 102 = true := by kernel_rfl
  have q116 : hasF 8 116 = true := by kernel_rfl
  have q97 : hasF 8 97 = false := by kernel_rfl
  have q99 : hasF 8 99 = true := by kernel_rfl
  have q120 : hasF 8 120 = false := by kernel_rfl
  have n7 : namedF ⟨8, f1, f2, f3, f4, f5, k⟩ = ⟨8, f1, f2, 0, f4, ⟨#[]⟩, z34⟩ := by unfold namedF; simp
  unfold rmayB mayB sameB noKeyB
  rw [n7]
  simp only [q107, q102, q116, q97, q99, q120]
  generalize keyB k = b6
  simp [z34]
  try ac_rfl
theorem may_same (a : S36) : rmayB a = mayB a := by
  obtain ⟨f0, f1, f2, f3, f4, f5, k⟩ := a
  by_cases h : upB f0 8 = true
  · have hb := upB_true h
    have hc : f0 = 0 ∨ f0 = 1 ∨ f0 = 2 ∨ f0 = 3 ∨ f0 = 4 ∨ f0 = 5 ∨ f0 = 6 ∨ f0 = 7 ∨ f0 = 8 := by omega
    rcases hc with rfl | rfl | rfl | rfl | rfl | rfl | rfl | rfl | rfl
    · exact same_0 f1 f2 f3 f4 f5 k
    · exact same_1 f1 f2 f3 f4 f5 k
    · exact same_2 f1 f2 f3 f4 f5 k
    · exact same_3 f1 f2 f3 f4 f5 k
    · exact same_4 f1 f2 f3 f4 f5 k
    · exact same_5 f1 f2 f3 f4 f5 k
    · exact same_6 f1 f2 f3 f4 f5 k
    · exact same_7 f1 f2 f3 f4 f5 k
    · exact same_8 f1 f2 f3 f4 f5 k
  · have h2 : upB f0 8 = false := Bool.eq_false_iff.2 h
    unfold rmayB mayB
    simp only [h2, Bool.false_and]
end

section
open Go.RowKit Go.Proofs.YtdpbklckeamjpaaDoorW.PrintWords Go.Proofs.YtdpbklckeamjpaaDoorW.PrintLast Go.Proofs.YtdpbklckeamjpaaDoorW.PrintMore Go.Proofs.YtdpbklckeamjpaaDoor.PScripts

/-- The digits as numbers; none for nought. -/
def digI (n : Nat) : List Int := if n = 0 then [] else (Lib.decDigits n).map fun c => (c.toNat : Int)
theorem digI_step (n : Nat) (h : n ≠ 0) : digI n = digI (n / 10) ++ [48 + ((n % 10 : Nat) : Int)] := by
  unfold digI
  rw [if_neg h]
  by_cases h10 : n < 10
  · have h0 : n / 10 = 0 := by omega
    have h1 : n % 10 = n := by omega
    rw [Lib.decDigits_one h10, if_pos h0, h1]
    simp only [List.map_cons, List.map_nil, List.nil_append]
    rw [digit_byte h10]
    simp
  · have h0 : n / 10 ≠ 0 := by omega
    rw [dec_split n h10, if_neg h0, List.map_append]
    simp only [List.map_cons, List.map_nil]
    rw [digit_byte (by omega : n % 10 < 10)]
    simp
theorem dec_l0 (x0 : Int) (h0 : 0 ≤ x0) : ∀ (n : Nat) (acc : List Int) (k : Nat), n + 1 ≤ k → (n = 0 → acc ≠ []) → acc.length + n ≤ 2000000 → watchwordref0_Decimal.l0 k x0 (n : Int) acc = some (strOfNums (digI n ++ acc)) := by
  intro n
  induction n using Nat.strongRecOn with
  | _ n ih =>
    intro acc k hk ha hl
    obtain ⟨k', rfl⟩ : ∃ k', k = k' + 1 := ⟨k - 1, by omega⟩
    by_cases hn : n = 0
    · subst hn
      have hne : ¬ ((acc.length : Int) = 0) := by
        have := ha rfl
        have : acc.length ≠ 0 := fun h => this (List.length_eq_zero_iff.1 h)
        omega
      simp only [watchwordref0_Decimal.l0]
      rw [if_neg (by omega : ¬ (((0 : Nat) : Int) > 0)), if_neg hne, if_neg (by omega : ¬ x0 < 0)]
      rfl
    · have e1 : (IntKind.u64.wrap (48 + ((n : Int).tmod 10))) % 256 = 48 + ((n % 10 : Nat) : Int) := by
        rw [IntKind.wrap_u64, Int.tmod_eq_emod_of_nonneg (by omega)]
        omega
      have e2 : IntKind.u64.wrap ((n : Int).tdiv 10) = ((n / 10 : Nat) : Int) := by
        rw [IntKind.wrap_u64, Int.tdiv_eq_ediv_of_nonneg (by omega)]
        omega
      simp only [watchwordref0_Decimal.l0]
      rw [if_pos (by omega : (n : Int) > 0), e1, e2, Option.bind_some, if_pos (by simp; omega), ih (n / 10) (by omega) _ k' (by omega) (fun _ => by simp) (by simp; omega), digI_step n hn]
      simp
theorem str_dig (n : Nat) (h : n ≠ 0) : strOfNums (digI n) = itoaB n := by
  unfold strOfNums digI itoaB
  rw [if_neg h, itoa_nat, List.map_map]
  congr 2
  conv => rhs; rw [← List.map_id (Lib.decDigits n)]
  apply List.map_congr_left
  intro c _
  simp
theorem dec_f (n : Nat) (hn : n ≤ 1048576) : watchwordref0_Decimal.f (n + 4) (n : Int) = some (itoaB n) := by
  unfold watchwordref0_Decimal.f
  have e : IntKind.u64.wrap (n : Int) = (n : Int) := by rw [IntKind.wrap_u64]; omega
  rw [if_neg (by omega), e]
  simp only [watchwordref0_Decimal.j0]
  by_cases h : n = 0
  · subst h
    have e2 : itoaB ((0 : Nat) : Int) = ⟨#[48]⟩ := by
      unfold itoaB
      rw [itoa_nat, Lib.decDigits_one (by decide)]
      rfl
    have e3 : watchwordref0_Decimal.l0 3 0 0 [] = some ⟨#[48]⟩ := by kernel_rfl
    exact e3.trans (congrArg some e2.symm)
  · rw [dec_l0 n (by omega) n [] (n + 3) (by omega) (fun e => absurd e h) (by simp; omega), List.append_nil, str_dig n h]
theorem decimal_calls (x : Int) (h0 : 0 ≤ x) (h1 : x ≤ 1048576) (W : World) : Calls Tryd.prog 28 #[.int .i64 x] W fun e w' => e = .returned (.string (itoaB x)) ∧ Below W.heap.size W w' := by
  obtain ⟨n, rfl⟩ := Int.eq_ofNat_of_zero_le h0
  exact watchwordref0_Decimal.calls (n + 4) n _ W (dec_f n (by omega))
def decB (x : Int) : ByteArray := itoaB x ++ ⟨#[32]⟩
theorem itoaB_len (x : Int) (h0 : 0 ≤ x) (h1 : x ≤ 1048576) : (itoaB x).size ≤ 21 := itoaB_size x ⟨by omega, by omega⟩
set_option maxHeartbeats 1000000 in
theorem dec_calls (x : Int) (h0 : 0 ≤ x) (h1 : x ≤ 1048576) (W : World) : Calls Tryd.prog 27 #[.int .i64 x] W fun e w' => e = .returned (.string (decB x)) ∧ Below W.heap.size W w' := by
  have hs := itoaB_len x h0 h1
  have hsum : (9223372036854775807 < (itoaB x).size + 1) = False := eq_false (by omega)
  unfold decB
  go_enter Tryd.func27, Tryd.ntmps27
  go_wp2_with (go_at_call 28; (with_reducible refine (decimal_calls x h0 h1 _).mono ?_); rintro e w1 ⟨rfl, hb1⟩; replace hb1 := Aside0.mk hb1)
  go_ret
  exact ⟨rfl, hb1.out⟩
end

end Go.Proofs.YtdpbklckeamjpaaDoor.Scr
