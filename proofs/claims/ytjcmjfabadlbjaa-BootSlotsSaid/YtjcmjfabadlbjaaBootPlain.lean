/- Disks from a new one on, booted and torn: what their slots hold, and that the count is told. Plain Lean over what the walks have shown. -/
import Derived.Test.YtjcmjfabadlbjaaBootF
namespace Go.Proofs.Ytjcmjfabadlbjaa.Boot
open Go.RowKit Go.Proofs.YtjcmjfabadlbjaaW.PrintWords Go.Proofs.YtjcmjfabadlbjaaW.PrintLast Go.Proofs.YtjcmjfabadlbjaaW.PrintMore Go.Proofs.Ytjcmjfabadlbjaa.PS3 Go.Proofs.Ytjcmjfabadlbjaa.Byt Go.Proofs.Ytjcmjfabadlbjaa.Slot

/-- What lies under the slot that is written next. -/
def old (c : Int) : List UInt8 := if c = 0 then List.replicate 16 0 else putL (c - 1)
def mix (P O : List UInt8) (m : Nat) : List UInt8 := P.take m ++ O.drop m
/-- A slot that is torn, or not yet written. -/
def Tear (t : List UInt8) (c : Int) : Prop := ∃ m, m ≤ 16 ∧ t = mix (putL (c + 1)) (old c) m ∧ t ≠ putL (c + 1)
/-- A disk whose count is c. -/
def Inv (a b : ByteArray) (c : Int) : Prop :=
  0 ≤ c ∧ c ≤ 1000 ∧ ((c % 2 = 0 ∧ a.data.toList = putL c ∧ Tear b.data.toList c) ∨ (c % 2 = 1 ∧ b.data.toList = putL c ∧ Tear a.data.toList c))

theorem old_length (c : Int) : (old c).length = 16 := by
  unfold old; split
  · simp
  · exact putL_length _
theorem mix_length (P O : List UInt8) (m : Nat) (hP : P.length = 16) (hO : O.length = 16) (hm : m ≤ 16) : (mix P O m).length = 16 := by
  unfold mix; rw [List.length_append, List.length_take, List.length_drop]; omega
theorem mix_get (P O : List UInt8) (m : Nat) (hP : P.length = 16) (_hO : O.length = 16) (hm : m ≤ 16) (j : Nat) : (mix P O m)[j]? = if j < m then P[j]? else O[j]? := by
  unfold mix
  by_cases h : j < m
  · rw [if_pos h, List.getElem?_append_left (by rw [List.length_take]; omega), List.getElem?_take, if_pos h]
  · rw [if_neg h, List.getElem?_append_right (by rw [List.length_take]; omega), List.getElem?_drop, List.length_take]
    congr 1; omega
theorem mix_mix (P O : List UInt8) (k m : Nat) (hP : P.length = 16) (hO : O.length = 16) (hk : k ≤ 16) (hm : m ≤ 16) : mix P (mix P O m) k = mix P O (max k m) := by
  apply List.ext_getElem?
  intro j
  rw [mix_get P _ k hP (mix_length P O m hP hO hm) hk, mix_get P O m hP hO hm, mix_get P O _ hP hO (by omega)]
  by_cases h1 : j < k
  · rw [if_pos h1, if_pos (by omega)]
  · rw [if_neg h1]
    by_cases h2 : j < m
    · rw [if_pos h2, if_pos (by omega)]
    · rw [if_neg h2, if_neg (by omega)]
theorem mix_all (P O : List UInt8) (hP : P.length = 16) (hO : O.length = 16) : mix P O 16 = P := by
  unfold mix; rw [List.take_of_length_le (by omega), List.drop_eq_nil_of_le (by omega), List.append_nil]
theorem mix_none (P O : List UInt8) : mix P O 0 = O := by simp [mix]

theorem tear_length {t : List UInt8} {c : Int} (h : Tear t c) : t.length = 16 := by
  obtain ⟨m, hm, rfl, _⟩ := h
  exact mix_length _ _ m (putL_length _) (old_length c) hm

theorem tear_zero : ∀ m : Fin 17, mix (putL 1) (List.replicate 16 0) m.val = putL 1 ∨ getF (mix (putL 1) (List.replicate 16 0) m.val) = (0, 300) := by decide +kernel

theorem tear_get {t : List UInt8} {c : Int} (h : Tear t c) (h0 : 0 ≤ c) (h1 : c ≤ 1000) : getF t = (0, 300) ∨ (1 ≤ c ∧ getF t = (c - 1, 0)) := by
  obtain ⟨m, hm, ht, hne⟩ := h
  by_cases hc : c = 0
  · left
    subst hc
    have := tear_zero ⟨m, by omega⟩
    rw [ht] at hne ⊢
    unfold old at hne ⊢
    rw [if_pos rfl] at hne ⊢
    rcases this with h | h
    · exact absurd h hne
    · exact h
  · unfold old at ht
    rw [if_neg hc] at ht
    have := torn_one (c - 1) (c + 1) (by unfold In; omega) (by unfold In; omega) m
    unfold mix at ht
    rw [← ht] at this
    rcases this with h | h | h
    · right; exact ⟨by omega, by rw [h]; exact getF_put _ (by unfold In; omega)⟩
    · exact absurd h hne
    · left; exact h

theorem size_of_list (a : ByteArray) (l : List UInt8) (h : a.data.toList = l) : a.size = l.length := by rw [← h, Array.length_toList]; rfl

theorem inv_may {a b : ByteArray} {c : Int} (h : Inv a b c) : mayB a b = true := by
  obtain ⟨_, _, h⟩ := h
  unfold mayB
  rcases h with ⟨_, h2, h3⟩ | ⟨_, h2, h3⟩
  · rw [size_of_list a _ h2, size_of_list b _ rfl, putL_length, tear_length h3]; rfl
  · rw [size_of_list b _ h2, size_of_list a _ rfl, putL_length, tear_length h3]; rfl

theorem inv_count {a b : ByteArray} {c : Int} (h : Inv a b c) : countF a b = (c, 0) := by
  have hm := inv_may h
  obtain ⟨h0, h1, h⟩ := h
  unfold countF upTo
  rw [if_pos hm]
  have hin : In c := by unfold In; omega
  rcases h with ⟨_, h2, h3⟩ | ⟨_, h2, h3⟩
  · rw [h2, getF_put c hin]
    simp only [if_true]
    rw [if_pos (by omega : -1 < c)]
    rcases tear_get h3 h0 h1 with h4 | ⟨h4, h5⟩
    · rw [h4]
      simp only [show ¬ ((300 : Int) = 0) by decide, if_false]
      rw [if_neg (by omega)]
    · rw [h5]
      simp only [if_true]
      rw [if_neg (by omega : ¬ c < c - 1), if_neg (by omega)]
  · rw [h2, getF_put c hin]
    simp only [if_true]
    rcases tear_get h3 h0 h1 with h4 | ⟨h4, h5⟩
    · rw [h4]
      simp only [show ¬ ((300 : Int) = 0) by decide, if_false]
      rw [if_pos (by omega : -1 < c), if_neg (by omega)]
    · rw [h5]
      simp only [if_true]
      rw [if_pos (by omega : -1 < c - 1), if_pos (by omega : c - 1 < c), if_neg (by omega)]

theorem inv_next {a b : ByteArray} {c : Int} (h : Inv a b c) : nextF a b = (c + 1, 0) := by
  unfold nextF
  have := h.2.1
  rw [inv_count h]
  simp only [if_true]
  rw [if_neg (by omega)]

theorem inv_bootF {a b : ByteArray} {c : Int} (h : Inv a b c) (k : Int) : bootF a b k = (writtenF a b (c + 1) k, c + 1, 0) := by
  unfold bootF
  rw [inv_next h]
  simp

theorem inv_tornBF {a b : ByteArray} {c : Int} (h : Inv a b c) (k : Int) (h0 : 0 ≤ k) (h1 : k ≤ 16) : tornBF a b k = (writtenF a b (c + 1) k, 0) := by
  unfold tornBF
  rw [if_pos ⟨inv_may h, h0, h1⟩, inv_bootF h]

/-- A slot written over. -/
theorem torn_slot (b : ByteArray) (hb : b.size = 16) (n k : Int) (hn : In n) (h0 : 0 ≤ k) (h1 : k ≤ 16) : (tornF b (putF n).1 k).1 = ⟨(mix (putL n) b.data.toList k.toNat).toArray⟩ := by
  rw [putF_in n hn]
  have e : b = ⟨b.data.toList.toArray⟩ := by simp
  have hl : b.data.toList.length = 16 := by rw [Array.length_toList]; exact hb
  have := torn_lists b.data.toList (putL n) hl (putL_length n) k h0 h1
  rw [← e] at this
  rw [this]
  rfl

theorem next_tear (c : Int) (h0 : 0 ≤ c) (h1 : c ≤ 1000) : Tear (putL c) (c + 1) := by
  refine ⟨0, by omega, ?_, fun h => ?_⟩
  · rw [mix_none]; unfold old; rw [if_neg (by omega)]; congr 1; omega
  · have := put_eq c (c + 1 + 1) (by unfold In; omega) (by unfold In; omega) h
    omega

/-- What a write makes of a disk. -/
theorem inv_write {a b : ByteArray} {c : Int} (h : Inv a b c) (hc : c ≤ 999) (k : Int) (k0 : 0 ≤ k) (k1 : k ≤ 16) :
    ∃ a' b', writtenF a b (c + 1) k = (a', b') ∧ (Inv a' b' c ∨ Inv a' b' (c + 1)) ∧ (k = 16 → Inv a' b' (c + 1)) ∧ (k = 0 → a' = a ∧ b' = b) ∧
      (c % 2 = 0 → a' = a) ∧ (c % 2 = 1 → b' = b) ∧ (k = 16 → c % 2 = 0 → b'.data.toList ≠ b.data.toList) ∧ (k = 16 → c % 2 = 1 → a'.data.toList ≠ a.data.toList) := by
  obtain ⟨h0, h1, h⟩ := h
  have hin : In (c + 1) := by unfold In; omega
  have lP := putL_length (c + 1)
  have lO := old_length c
  rcases h with ⟨hp, h2, h3⟩ | ⟨hp, h2, h3⟩
  · have hlen := tear_length h3
    have hs : b.size = 16 := by rw [size_of_list b _ rfl]; exact hlen
    obtain ⟨m, hm, ht, hne⟩ := h3
    have hw : writtenF a b (c + 1) k = (a, ⟨(mix (putL (c + 1)) b.data.toList k.toNat).toArray⟩) := by
      unfold writtenF
      rw [if_neg (by omega), torn_slot b hs (c + 1) k hin k0 k1]
    have hmm : mix (putL (c + 1)) b.data.toList k.toNat = mix (putL (c + 1)) (old c) (max k.toNat m) := by
      rw [ht, mix_mix _ _ _ _ lP lO (by omega) hm]
    refine ⟨_, _, hw, ?_, fun hk => ?_, fun hk => ⟨rfl, ?_⟩, fun _ => rfl, fun hq => by omega, fun hk _ => ?_, fun _ hq => by omega⟩
    · by_cases he : mix (putL (c + 1)) b.data.toList k.toNat = putL (c + 1)
      · right
        exact ⟨by omega, by omega, .inr ⟨by omega, by rw [mk_data, he], by rw [h2]; exact next_tear c h0 h1⟩⟩
      · left
        exact ⟨h0, h1, .inl ⟨hp, h2, max k.toNat m, by omega, by rw [mk_data]; exact hmm, by rw [mk_data]; exact he⟩⟩
    · subst hk
      exact ⟨by omega, by omega, .inr ⟨by omega, by rw [mk_data]; exact mix_all _ _ lP hlen, by rw [h2]; exact next_tear c h0 h1⟩⟩
    · subst hk
      apply ByteArray.ext
      apply Array.ext'
      rw [mk_data]
      exact mix_none _ _
    · subst hk
      rw [mk_data, show (16 : Int).toNat = 16 from rfl, mix_all _ _ lP hlen]
      exact fun h => hne h.symm
  · have hlen := tear_length h3
    have hs : a.size = 16 := by rw [size_of_list a _ rfl]; exact hlen
    obtain ⟨m, hm, ht, hne⟩ := h3
    have hw : writtenF a b (c + 1) k = (⟨(mix (putL (c + 1)) a.data.toList k.toNat).toArray⟩, b) := by
      unfold writtenF
      rw [if_pos (by omega), torn_slot a hs (c + 1) k hin k0 k1]
    have hmm : mix (putL (c + 1)) a.data.toList k.toNat = mix (putL (c + 1)) (old c) (max k.toNat m) := by
      rw [ht, mix_mix _ _ _ _ lP lO (by omega) hm]
    refine ⟨_, _, hw, ?_, fun hk => ?_, fun hk => ⟨?_, rfl⟩, fun hq => by omega, fun _ => rfl, fun _ hq => by omega, fun hk _ => ?_⟩
    · by_cases he : mix (putL (c + 1)) a.data.toList k.toNat = putL (c + 1)
      · right
        exact ⟨by omega, by omega, .inl ⟨by omega, by rw [mk_data, he], by rw [h2]; exact next_tear c h0 h1⟩⟩
      · left
        exact ⟨h0, h1, .inr ⟨hp, h2, max k.toNat m, by omega, by rw [mk_data]; exact hmm, by rw [mk_data]; exact he⟩⟩
    · subst hk
      exact ⟨by omega, by omega, .inl ⟨by omega, by rw [mk_data]; exact mix_all _ _ lP hlen, by rw [h2]; exact next_tear c h0 h1⟩⟩
    · subst hk
      apply ByteArray.ext
      apply Array.ext'
      rw [mk_data]
      exact mix_none _ _
    · subst hk
      rw [mk_data, show (16 : Int).toNat = 16 from rfl, mix_all _ _ lP hlen]
      exact fun h => hne h.symm

theorem new_list : newB.data.toList = mix (putL (0 + 1)) (old 0) 0 := by decide +kernel
theorem new_ne : newB.data.toList ≠ putL (0 + 1) := by decide +kernel
theorem inv_new : Inv newA newB 0 :=
  ⟨by omega, by omega, .inl ⟨by omega, rfl, 0, by omega, new_list, new_ne⟩⟩

end Go.Proofs.Ytjcmjfabadlbjaa.Boot
