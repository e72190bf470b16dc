/- Bytes 0 ahead of a text turn nothing in its sum; a text's sum behind another one hangs on that one's sum alone (P6.1). Condition: none beyond the row's own reach. -/
import Derived.Test.YtlkngkbhopbflaaPFletchBehindx1
import Derived.Test.YtlkngkbhopbflaaPlain
namespace Go.Proofs.Ytlkngkbhopbflaa.Pure
open Go.RowKit Go.Proofs.Ytlkngkbhopbflaa.PFletchBehind Go.Proofs.YtlkngkbhopbflaaW.PrintWords Go.Proofs.YtlkngkbhopbflaaW.PrintLast Go.Proofs.Ytlkngkbhopbflaa.Plain

theorem bt_drop (s : ByteArray) (i : Int) (h0 : 0 ≤ i) (h1 : i < s.size) :
    ∃ c : UInt8, s.data.toList.drop i.toNat = c :: s.data.toList.drop (i + 1).toNat ∧ bt s i = c.toNat := by
  have hi : i.toNat < s.data.toList.length := by rw [Array.length_toList]; have : s.data.size = s.size := rfl; omega
  refine ⟨s.data.toList[i.toNat], ?_, ?_⟩
  · rw [show (i + 1).toNat = i.toNat + 1 by omega]; exact List.drop_eq_getElem_cons hi
  · unfold bt; rw [dif_pos (by omega)]; rfl

theorem step_eq (a b x : Int) (c : UInt8) (hx : x = c.toNat) (h : ok (a, b)) :
    Int.tmod (wrap64 (a + (wrap64 x))) 255 = (st (a, b) c).1 ∧ Int.tmod (wrap64 (b + (Int.tmod (wrap64 (a + (wrap64 x))) 255))) 255 = (st (a, b) c).2 := by
  obtain ⟨h0, h1, h2, h3⟩ := h
  simp only at h0 h1 h2 h3
  have hc : c.toNat < 256 := c.toNat_lt
  subst hx
  have e1 : wrap64 (c.toNat : Int) = c.toNat := by unfold wrap64; omega
  have e2 : wrap64 (a + (c.toNat : Int)) = a + c.toNat := by unfold wrap64; omega
  rw [e1, e2, Int.tmod_eq_emod_of_nonneg (by omega)]
  have e3 : wrap64 (b + (a + (c.toNat : Int)) % 255) = b + (a + (c.toNat : Int)) % 255 := by unfold wrap64; omega
  rw [e3, Int.tmod_eq_emod_of_nonneg (by omega)]
  exact ⟨rfl, rfl⟩

theorem end_eq (p : Int × Int) (h : ok p) : wrap64 ((wrap64 (256 * p.2)) + p.1) = 256 * p.2 + p.1 := by
  obtain ⟨h0, h1, h2, h3⟩ := h
  have e1 : wrap64 (256 * p.2) = 256 * p.2 := by unfold wrap64; omega
  rw [e1]; unfold wrap64; omega

theorem sum_loop (s : ByteArray) (hn : s.size ≤ 9223372036854775807) (d : Nat) : ∀ (k : Nat) (i : Int) (p : Int × Int), ok p → 0 ≤ i → i ≤ s.size → (s.size : Int) - i = d → d < k →
    fletch_Sum.l0 k s p.1 p.2 (s.size : Int) i = some (256 * (fl p (s.data.toList.drop i.toNat)).2 + (fl p (s.data.toList.drop i.toNat)).1) := by
  induction d with
  | zero =>
    intro k i p hp h0 h1 hd hk
    obtain ⟨k, rfl⟩ : ∃ m, k = m + 1 := ⟨k - 1, by omega⟩
    have e : s.data.toList.drop i.toNat = [] := List.drop_eq_nil_of_le (by rw [Array.length_toList]; have : s.data.size = s.size := rfl; omega)
    rw [e, fl_nil]
    simp only [fletch_Sum.l0]; rw [if_neg (by omega), end_eq p hp]
  | succ d ih =>
    intro k i p hp h0 h1 hd hk
    obtain ⟨k, rfl⟩ : ∃ m, k = m + 1 := ⟨k - 1, by omega⟩
    have hlt : i < (s.size : Int) := by omega
    have hw : wrap64 (i + 1) = i + 1 := by unfold wrap64; omega
    obtain ⟨c, e1, e2⟩ := bt_drop s i h0 hlt
    obtain ⟨f1, f2⟩ := step_eq p.1 p.2 _ c e2 hp
    have := ih k (i + 1) (st p c) (st_ok _ _) (by omega) (by omega) (by omega) (by omega)
    rw [e1, fl_cons]
    simp only [fletch_Sum.l0]; rw [if_pos hlt, if_pos h0, if_pos hlt, hw, f2, f1]; exact this

theorem sum_f (s : ByteArray) (hn : s.size ≤ 9223372036854775807) (k : Nat) (hk : s.size < k) : fletch_Sum.f k s = some (sum s.data.toList) := by
  have := sum_loop s hn s.size k 0 (0, 0) ok_zero (by omega) (by omega) (by omega) hk
  simpa [fletch_Sum.f, sum] using this

theorem law_loop (s : ByteArray) (hn : s.size ≤ 140737488351232) (x8 x10 : Int) (d : Nat) : ∀ (k : Nat) (i : Int) (p : Int × Int), ok p → 0 ≤ i → i ≤ s.size → (s.size : Int) - i = d → d < k →
    x10 = (256 * (fl p (s.data.toList.drop i.toNat)).2 + (fl p (s.data.toList.drop i.toNat)).1) →
    watchwordlaw6_FletchBehind.l0 k s x8 x8 x10 p.1 p.2 i = some true := by
  induction d with
  | zero =>
    intro k i p hp h0 h1 hd hk hx
    obtain ⟨k, rfl⟩ : ∃ m, k = m + 1 := ⟨k - 1, by omega⟩
    have e : s.data.toList.drop i.toNat = [] := List.drop_eq_nil_of_le (by rw [Array.length_toList]; have : s.data.size = s.size := rfl; omega)
    rw [e, fl_nil] at hx
    simp only [watchwordlaw6_FletchBehind.l0]; rw [if_neg (by omega), end_eq p hp, hx]
    simp [watchwordlaw0_Num.f]
  | succ d ih =>
    intro k i p hp h0 h1 hd hk hx
    obtain ⟨k, rfl⟩ : ∃ m, k = m + 1 := ⟨k - 1, by omega⟩
    have hlt : i < (s.size : Int) := by omega
    have hw : wrap64 (i + 1) = i + 1 := by unfold wrap64; omega
    obtain ⟨c, e1, e2⟩ := bt_drop s i h0 hlt
    obtain ⟨f1, f2⟩ := step_eq p.1 p.2 _ c e2 hp
    rw [e1, fl_cons] at hx
    have := ih k (i + 1) (st p c) (st_ok _ _) (by omega) (by omega) (by omega) (by omega) hx
    simp only [watchwordlaw6_FletchBehind.l0]; rw [if_pos hlt, if_pos h0, hw, f2, f1]; exact this

theorem awake_tells : watchwordlaw6_awake.f 9 = some true := by decide +kernel

theorem and255 (n : Int) : Go.bits .and .i64 n 255 = n % 256 := by
  have h0 : (BitVec.ofInt 64 255).toNat = 2 ^ 8 - 1 := by decide
  have key : (BitVec.ofInt 64 n &&& BitVec.ofInt 64 255).toNat = (n % ((2 ^ 64 : Nat) : Int)).toNat % 2 ^ 8 := by
    rw [BitVec.toNat_and, BitVec.toNat_ofInt, h0, Nat.and_two_pow_sub_one_eq_mod]
  show IntKind.i64.wrap ((BitVec.ofInt 64 n &&& BitVec.ofInt 64 255).toNat : Nat) = n % 256
  rw [key, IntKind.wrap_i64]
  omega

theorem and15 (n : Int) : Go.bits .and .i64 n 15 = n % 16 := by
  have h0 : (BitVec.ofInt 64 15).toNat = 2 ^ 4 - 1 := by decide
  have key : (BitVec.ofInt 64 n &&& BitVec.ofInt 64 15).toNat = (n % ((2 ^ 64 : Nat) : Int)).toNat % 2 ^ 4 := by
    rw [BitVec.toNat_and, BitVec.toNat_ofInt, h0, Nat.and_two_pow_sub_one_eq_mod]
  show IntKind.i64.wrap ((BitVec.ofInt 64 n &&& BitVec.ofInt 64 15).toNat : Nat) = n % 16
  rw [key, IntKind.wrap_i64]
  omega

theorem FletchBehind : watchwordlaw6_FletchBehind.Pure := by
  intro s t n hs ht hn
  have z0 : 0 ≤ Go.bits .and .i64 n 15 := by rw [and15]; omega
  have z1 : Go.bits .and .i64 n 15 ≤ 15 := by rw [and15]; omega
  have hz : (strOfNums (List.replicate (Go.bits .and .i64 n 15 : Int).toNat 0)).data.toList = List.replicate (Go.bits .and .i64 n 15 : Int).toNat 0 := by
    rw [strOfNums_data, List.map_replicate]; rfl
  have hzs : (strOfNums (List.replicate (Go.bits .and .i64 n 15 : Int).toNat 0)).size ≤ 15 := by rw [strOfNums_size, List.length_replicate]; omega
  refine ⟨s.size + t.size + 30, ?_⟩
  unfold watchwordlaw6_FletchBehind.f
  rw [if_pos z0, if_pos (by omega)]
  simp only [Option.bind_some]
  generalize strOfNums (List.replicate (Go.bits .and .i64 n 15 : Int).toNat 0) = z at hz hzs
  have h3 : watchwordlaw6_awake.f (s.size + t.size + 30) = some true := at_rounds (fun k => watchwordlaw6_awake.mono k) (by omega) awake_tells
  have ez : (z ++ s).data.toList = z.data.toList ++ s.data.toList := by simp
  have et : (t ++ s).data.toList = t.data.toList ++ s.data.toList := by simp
  have nz : (z ++ s).size = z.size + s.size := by simp
  have nt : (t ++ s).size = t.size + s.size := by simp
  have f1 := sum_f s (by omega) (s.size + t.size + 30) (by omega)
  have f2 := sum_f (z ++ s) (by omega) (s.size + t.size + 30) (by omega)
  have f3 := sum_f (t ++ s) (by omega) (s.size + t.size + 30) (by omega)
  have f4 := sum_f t (by omega) (s.size + t.size + 30) (by omega)
  rw [ez, hz, sum_zeros] at f2
  rw [et] at f3
  obtain ⟨a0, a1, a2, a3⟩ := fl_ok t.data.toList _ ok_zero
  have e4 : sum t.data.toList = 256 * (fl (0, 0) t.data.toList).2 + (fl (0, 0) t.data.toList).1 := rfl
  have e5 : Go.bits .and .i64 (sum t.data.toList) 255 = (fl (0, 0) t.data.toList).1 := by rw [and255, e4]; omega
  have e6 : sum t.data.toList / 256 = (fl (0, 0) t.data.toList).2 := by rw [e4]; omega
  rw [h3]; simp only [Option.bind_some, if_true]
  rw [f1]; simp only [Option.bind_some]
  rw [if_pos (by omega), f2]; simp only [Option.bind_some]
  rw [if_pos (by omega), f3]; simp only [Option.bind_some]
  rw [f4]; simp only [Option.bind_some]
  rw [e5, e6]
  refine law_loop s hs _ _ s.size _ 0 (fl (0, 0) t.data.toList) (fl_ok _ _ ok_zero) (by omega) (by omega) (by omega) (by omega) ?_
  unfold sum
  rw [fl_append]; rfl

end Go.Proofs.Ytlkngkbhopbflaa.Pure
