/- Slots as lists of bytes: a number's slot is read back, unlike numbers have unlike slots, each half tells the number; what slot.Get and the reference's GetSlot compute is one function. Plain Lean over the printed functions. -/
import Derived.Test.YtjcmjfabadlbjaaPS3x1
import Derived.Laws.BitsLemmas
namespace Go.Proofs.Ytjcmjfabadlbjaa.Slot
open Go.RowKit Go.Proofs.YtjcmjfabadlbjaaW.PrintWords Go.Proofs.YtjcmjfabadlbjaaW.PrintLast Go.Proofs.Ytjcmjfabadlbjaa.PS3

/-- A count that may be. -/
def In (c : Int) : Prop := 0 ≤ c ∧ c ≤ 4294967295

theorem byt_val (c : Int) (j : Nat) : ((byt c j).toNat : Int) = c / 2 ^ (8 * (7 - j)) % 256 := byt_toNat c j

def low4 (l : List UInt8) : Int := (((l.getD 4 0).toNat * 256 + (l.getD 5 0).toNat : Int) * 256 + (l.getD 6 0).toNat) * 256 + (l.getD 7 0).toNat

theorem putL_getD (c : Int) (j : Nat) (h : j < 8) : (putL c).getD j 0 = byt c j := by
  rw [List.getD_eq_getElem?_getD, List.getElem?_eq_getElem (by rw [putL_length]; omega), putL_low c j h]; rfl

theorem low4_range (l : List UInt8) : In (low4 l) := by
  unfold In low4
  have h4 := (l.getD 4 0).toNat_lt
  have h5 := (l.getD 5 0).toNat_lt
  have h6 := (l.getD 6 0).toNat_lt
  have h7 := (l.getD 7 0).toNat_lt
  omega

theorem low4_put (c : Int) (h : In c) : low4 (putL c) = c := by
  unfold low4
  rw [putL_getD c 4 (by omega), putL_getD c 5 (by omega), putL_getD c 6 (by omega), putL_getD c 7 (by omega), byt_val, byt_val, byt_val, byt_val]
  obtain ⟨h0, h1⟩ := h
  simp only [show 8 * (7 - 4) = 24 by rfl, show 8 * (7 - 5) = 16 by rfl, show 8 * (7 - 6) = 8 by rfl, show 8 * (7 - 7) = 0 by rfl]
  rw [show (2 : Int) ^ 24 = 16777216 by decide, show (2 : Int) ^ 16 = 65536 by decide, show (2 : Int) ^ 8 = 256 by decide, show (2 : Int) ^ 0 = 1 by decide]
  omega

theorem low4_take (l m : List UInt8) (h : l.take 8 = m.take 8) : low4 l = low4 m := by
  have e : ∀ (x : List UInt8) (j : Nat), j < 8 → x.getD j 0 = (x.take 8).getD j 0 := fun x j hj => by
    rw [List.getD_eq_getElem?_getD, List.getD_eq_getElem?_getD, List.getElem?_take, if_pos hj]
  unfold low4
  rw [e l 4 (by omega), e l 5 (by omega), e l 6 (by omega), e l 7 (by omega), e m 4 (by omega), e m 5 (by omega), e m 6 (by omega), e m 7 (by omega), h]

theorem put_inj (a b : Int) (ha : In a) (hb : In b) (h : (putL a).take 8 = (putL b).take 8) : a = b := by
  have := low4_take _ _ h
  rwa [low4_put a ha, low4_put b hb] at this

theorem put_inj_high (a b : Int) (ha : In a) (hb : In b) (h : (putL a).drop 8 = (putL b).drop 8) : a = b := by
  apply put_inj a b ha hb
  apply List.ext_getElem
  · rw [List.length_take, List.length_take, putL_length, putL_length]
  · intro j h1 h2
    have hj : j < 8 := by rw [List.length_take, putL_length] at h1; omega
    rw [List.getElem_take, List.getElem_take, putL_low a j hj, putL_low b j hj]
    have e1 := putL_high a j hj
    have e2 := putL_high b j hj
    have e3 : ((putL a).drop 8)[j]? = ((putL b).drop 8)[j]? := by rw [h]
    rw [List.getElem?_drop, List.getElem?_drop, List.getElem?_eq_getElem (by rw [putL_length]; omega), List.getElem?_eq_getElem (by rw [putL_length]; omega), e1, e2] at e3
    have e4 := Option.some.inj e3
    have hx : ∀ x : UInt8, 255 - (255 - x) = x := fun x => by
      have h : ∀ n : Fin 256, 255 - (255 - UInt8.ofNat n.val) = UInt8.ofNat n.val := by decide +kernel
      have := h ⟨x.toNat, x.toNat_lt⟩
      simpa using this
    rw [← hx (byt a j), e4, hx]

theorem put_eq (a b : Int) (ha : In a) (hb : In b) (h : putL a = putL b) : a = b := put_inj a b ha hb (by rw [h])

/-- What both readers answer. -/
def getF (l : List UInt8) : Int × Int := if l.length = 16 ∧ putL (low4 l) = l then (low4 l, 0) else (0, 300)

theorem getF_put (c : Int) (h : In c) : getF (putL c) = (c, 0) := by
  unfold getF; rw [low4_put c h, if_pos ⟨putL_length c, rfl⟩]

theorem getF_none (l : List UInt8) (h : ∀ c, In c → putL c ≠ l) : getF l = (0, 300) := by
  unfold getF; rw [if_neg (fun ⟨_, h2⟩ => h _ (low4_range l) h2)]

theorem join_byte (x b : Int) (hx0 : 0 ≤ x) (hx1 : x < 36028797018963968) (hb0 : 0 ≤ b) (hb1 : b < 256) : Go.bits .or .i64 (wrap64 (x * 256)) (wrap64 b) = x * 256 + b := by
  have e1 : wrap64 (x * 256) = x * 256 := by unfold wrap64; omega
  have e2 : wrap64 b = b := by unfold wrap64; omega
  rw [e1, e2]
  exact Go.bits_join .i64 63 (by decide) (fun n a b => by rw [Go.IntKind.wrap_i64]; omega) 8 (x * 256) b (by omega) (by omega) (by omega) hb0 hb1 (by omega)

theorem bt_get (s : ByteArray) (j : Nat) : bt s (j : Int) = ((s.data.toList.getD j 0).toNat : Int) := by
  unfold bt
  rw [Int.toNat_natCast, List.getD_eq_getElem?_getD]
  have e : s.size = s.data.toList.length := by rw [Array.length_toList]; rfl
  by_cases h : j < s.size
  · rw [dif_pos h, List.getElem?_eq_getElem (by omega)]; rfl
  · rw [dif_neg h, List.getElem?_eq_none (by omega)]; rfl

theorem putF_in (c : Int) (h : In c) : putF c = (⟨(putL c).toArray⟩, 0) := by unfold putF; unfold In at h; rw [if_pos h]
theorem putF_out (c : Int) (h : ¬ In c) : putF c = (⟨#[]⟩, 300) := by unfold putF; unfold In at h; rw [if_neg h]
theorem mk_toList (l : List UInt8) : (⟨l.toArray⟩ : ByteArray).toList = l := by rw [ByteArray.toList_mk]

theorem get_tells (s : ByteArray) : slot_Get.f 5 s = some (getF s.data.toList) := by
  have e : s.size = s.data.toList.length := by rw [Array.length_toList]; rfl
  unfold slot_Get.f
  by_cases h : (s.size : Int) = 16
  · rw [if_pos h]
    have h4 := (s.data.toList.getD 4 0).toNat_lt
    have h5 := (s.data.toList.getD 5 0).toNat_lt
    have h6 := (s.data.toList.getD 6 0).toNat_lt
    have h7 := (s.data.toList.getD 7 0).toNat_lt
    have b4 := bt_get s 4
    have b5 := bt_get s 5
    have b6 := bt_get s 6
    have b7 := bt_get s 7
    simp only [slot_Get.l0]
    rw [if_pos (by omega), if_pos (by omega), if_pos (by omega), show wrap64 (4 + 1) = 5 by unfold wrap64; omega, if_pos (by omega), if_pos (by omega), if_pos (by omega), show wrap64 (5 + 1) = 6 by unfold wrap64; omega, if_pos (by omega), if_pos (by omega), if_pos (by omega), show wrap64 (6 + 1) = 7 by unfold wrap64; omega, if_pos (by omega), if_pos (by omega), if_pos (by omega), show wrap64 (7 + 1) = 8 by unfold wrap64; omega, if_neg (by omega)]
    rw [show ((4 : Nat) : Int) = 4 by rfl] at b4
    rw [show ((5 : Nat) : Int) = 5 by rfl] at b5
    rw [show ((6 : Nat) : Int) = 6 by rfl] at b6
    rw [show ((7 : Nat) : Int) = 7 by rfl] at b7
    rw [b4, b5, b6, b7]
    generalize hv4 : (s.data.toList.getD 4 0).toNat = v4 at *
    generalize hv5 : (s.data.toList.getD 5 0).toNat = v5 at *
    generalize hv6 : (s.data.toList.getD 6 0).toNat = v6 at *
    generalize hv7 : (s.data.toList.getD 7 0).toNat = v7 at *
    rw [join_byte 0 v4 (by omega) (by omega) (by omega) (by omega), join_byte (0 * 256 + v4) v5 (by omega) (by omega) (by omega) (by omega), join_byte ((0 * 256 + v4) * 256 + v5) v6 (by omega) (by omega) (by omega) (by omega), join_byte (((0 * 256 + v4) * 256 + v5) * 256 + v6) v7 (by omega) (by omega) (by omega) (by omega)]
    have e8 : (((0 * 256 + (v4 : Int)) * 256 + v5) * 256 + v6) * 256 + v7 = low4 s.data.toList := by unfold low4; rw [hv4, hv5, hv6, hv7]; omega
    rw [e8]
    have hr := low4_range s.data.toList
    simp only [slot_Put.f, Option.bind_some]
    rw [putF_in _ hr]
    simp only [mk_toList]
    rw [ByteArray.toList_eq]
    unfold getF
    by_cases h9 : putL (low4 s.data.toList) = s.data.toList
    · rw [if_pos h9, if_pos ⟨by omega, h9⟩]
    · rw [if_neg h9, if_neg (fun ⟨_, h⟩ => h9 h)]
  · rw [if_neg h]
    unfold getF
    rw [if_neg (fun ⟨h1, _⟩ => h (by omega))]

/-- The reference's number of some bytes. -/
def stepOf (x : Int) (c : UInt8) : Int := Go.bits .or .i64 (wrap64 (x * 256)) (wrap64 (c.toNat : Int))
def ofL (x : Int) (l : List UInt8) : Int := l.foldl stepOf x

theorem of_loop (s : ByteArray) (hn : s.size ≤ 140737488351232) (d : Nat) : ∀ (k : Nat) (i x : Int), 0 ≤ i → i ≤ s.size → (s.size : Int) - i = d → d < k →
    watchwordref1_Of.l0 k s x i = some (ofL x (s.data.toList.drop i.toNat)) := by
  have e : s.data.toList.length = s.size := by rw [Array.length_toList]; rfl
  induction d with
  | zero =>
    intro k i x h0 h1 hd hk
    obtain ⟨k, rfl⟩ : ∃ m, k = m + 1 := ⟨k - 1, by omega⟩
    rw [List.drop_eq_nil_of_le (by omega)]
    simp only [watchwordref1_Of.l0]; rw [if_neg (by omega)]; rfl
  | succ d ih =>
    intro k i x h0 h1 hd hk
    obtain ⟨k, rfl⟩ : ∃ m, k = m + 1 := ⟨k - 1, by omega⟩
    have hlt : i < (s.size : Int) := by omega
    have hw : wrap64 (i + 1) = i + 1 := by unfold wrap64; omega
    have hi : i.toNat < s.data.toList.length := by omega
    have hb : bt s i = (s.data.toList[i.toNat].toNat : Int) := by unfold bt; rw [dif_pos (by omega)]; rfl
    have := ih k (i + 1) (stepOf x s.data.toList[i.toNat]) (by omega) (by omega) (by omega) (by omega)
    rw [List.drop_eq_getElem_cons hi]
    simp only [watchwordref1_Of.l0]; rw [if_pos hlt, if_pos h0, hw, hb]
    rw [show (i + 1).toNat = i.toNat + 1 by omega] at this
    exact this

theorem of_tells (s : ByteArray) (hn : s.size ≤ 140737488351232) (k : Nat) (hk : s.size < k) : watchwordref1_Of.f k s = some (ofL 0 s.data.toList) := by
  have := of_loop s hn s.size k 0 0 (by omega) (by omega) (by omega) hk
  simpa [watchwordref1_Of.f] using this

theorem put_take (c : Int) : (putL c).take 8 = (List.range 8).map (byt c) := by
  apply List.ext_getElem
  · rw [List.length_take, putL_length]; simp
  · intro j h1 h2
    have hj : j < 8 := by simpa using h2
    rw [List.getElem_take, putL_low c j hj, List.getElem_map, List.getElem_range]

theorem byt_zero (c : Int) (h : In c) (j : Nat) (hj : j < 4) : byt c j = 0 := by
  obtain ⟨h0, h1⟩ := h
  have e := byt_val c j
  have hp : (4294967296 : Nat) ≤ 2 ^ (8 * (7 - j)) := by
    rw [show (4294967296 : Nat) = 2 ^ 32 by decide]
    exact Nat.pow_le_pow_right (by decide) (by omega)
  have hq : ((2 ^ (8 * (7 - j)) : Nat) : Int) = (2 : Int) ^ (8 * (7 - j)) := by simp
  have hz : c / 2 ^ (8 * (7 - j)) = 0 := by
    rw [← hq]
    generalize 2 ^ (8 * (7 - j)) = p at hp
    exact Int.ediv_eq_zero_of_lt h0 (by omega)
  rw [hz] at e
  exact UInt8.toNat_inj.1 (by simpa using e)

theorem step_zero : stepOf 0 0 = 0 := by
  have := join_byte 0 0 (by omega) (by omega) (by omega) (by omega)
  unfold stepOf
  rw [show ((0 : UInt8).toNat : Int) = 0 by rfl, this]
  rfl

theorem step_in (x : Int) (c : UInt8) (hx0 : 0 ≤ x) (hx1 : x < 36028797018963968) : stepOf x c = x * 256 + c.toNat := by
  have := c.toNat_lt
  exact join_byte x c.toNat hx0 hx1 (by omega) (by omega)

theorem of_put (c : Int) (h : In c) : ofL 0 ((putL c).take 8) = c := by
  have l4 := low4_put c h
  unfold low4 at l4
  rw [putL_getD c 4 (by omega), putL_getD c 5 (by omega), putL_getD c 6 (by omega), putL_getD c 7 (by omega)] at l4
  rw [put_take]
  have hr : (List.range 8).map (byt c) = [byt c 0, byt c 1, byt c 2, byt c 3, byt c 4, byt c 5, byt c 6, byt c 7] := rfl
  rw [hr]
  unfold ofL
  rw [List.foldl_cons, List.foldl_cons, List.foldl_cons, List.foldl_cons, List.foldl_cons, List.foldl_cons, List.foldl_cons, List.foldl_cons, List.foldl_nil]
  rw [byt_zero c h 0 (by omega), byt_zero c h 1 (by omega), byt_zero c h 2 (by omega), byt_zero c h 3 (by omega), step_zero, step_zero, step_zero, step_zero]
  have b4 := (byt c 4).toNat_lt
  have b5 := (byt c 5).toNat_lt
  have b6 := (byt c 6).toNat_lt
  have b7 := (byt c 7).toNat_lt
  generalize byt c 4 = x4 at *
  generalize byt c 5 = x5 at *
  generalize byt c 6 = x6 at *
  generalize byt c 7 = x7 at *
  rw [step_in 0 x4 (by omega) (by omega), step_in _ x5 (by omega) (by omega), step_in _ x6 (by omega) (by omega), step_in _ x7 (by omega) (by omega)]
  omega

theorem getRef_tells (s : ByteArray) (k : Nat) (hk : 9 ≤ k) : watchwordref1_GetSlot.f k s = some (getF s.data.toList) := by
  have e : s.size = s.data.toList.length := by rw [Array.length_toList]; rfl
  unfold watchwordref1_GetSlot.f
  by_cases h : (s.size : Int) = 16
  · rw [if_pos h, if_pos (by omega), if_pos (by omega)]
    have hz : (s.extract 0 8).size = 8 := by rw [ByteArray.size_extract]; omega
    have hx : (s.extract 0 8).data.toList = s.data.toList.take 8 := by simp
    rw [of_tells (s.extract 0 8) (by omega) k (by omega), hx]
    simp only [Option.bind_some, watchwordref1_PutSlot.f]
    by_cases hp : ∃ c, In c ∧ putL c = s.data.toList
    · obtain ⟨c, hc, hcs⟩ := hp
      rw [← hcs, of_put c hc, putF_in c hc, getF_put c hc]
      simp only [mk_toList]
      rw [ByteArray.toList_eq, ← hcs]
      simp
    · have hno : ∀ c, In c → putL c ≠ s.data.toList := fun c hc h2 => hp ⟨c, hc, h2⟩
      rw [getF_none _ hno]
      by_cases hr : In (ofL 0 (s.data.toList.take 8))
      · rw [putF_in _ hr]
        simp only [mk_toList, if_true]
        rw [ByteArray.toList_eq, if_neg (hno _ hr)]
      · rw [putF_out _ hr]
        simp
  · rw [if_neg h]
    unfold getF
    rw [if_neg (fun ⟨h1, _⟩ => h (by omega))]

/-- What slot.Torn answers. -/
def tornF (a b : ByteArray) (k : Int) : ByteArray × Int :=
  if a.size = 16 ∧ b.size = 16 ∧ 0 ≤ k ∧ k ≤ 16 then (b.extract 0 k.toNat ++ a.extract k.toNat a.size, 0) else (⟨#[]⟩, 300)

theorem torn_tells (a b : ByteArray) (k : Int) : slot_Torn.f a b k = some (tornF a b k) := by
  unfold slot_Torn.f tornF
  by_cases h1 : (a.size : Int) = 16
  · rw [if_pos h1]
    by_cases h2 : (b.size : Int) = 16
    · rw [if_pos h2]
      by_cases h3 : k < 0
      · rw [if_pos h3, if_neg (by omega)]
      · rw [if_neg h3]
        by_cases h4 : k > 16
        · rw [if_pos h4, if_neg (by omega)]
        · rw [if_neg h4, if_pos (by omega), if_pos (by omega), if_pos (by omega), if_pos (by rw [ByteArray.size_extract, ByteArray.size_extract]; omega), if_pos (by omega)]
    · rw [if_neg h2, if_neg (by omega)]
  · rw [if_neg h1, if_neg (by omega)]

theorem tornRef_tells (a b : ByteArray) (k : Int) : watchwordref1_Torn.f a b k = some (tornF a b k) := by
  unfold watchwordref1_Torn.f tornF watchwordref1_upTo.f
  by_cases h1 : (a.size : Int) = 16
  · rw [if_pos h1]
    by_cases h2 : (b.size : Int) = 16
    · rw [if_pos h2]
      by_cases h3 : k ≥ 0
      · rw [if_pos h3]
        simp only [Option.bind_some]
        by_cases h4 : k ≤ 16
        · rw [if_pos (by simpa using h4), if_pos (by omega), if_pos (by omega), if_pos (by omega), if_pos (by rw [ByteArray.size_extract, ByteArray.size_extract]; omega), if_pos (by omega)]
        · rw [if_neg (by simpa using h4), if_neg (by omega)]
      · rw [if_neg h3]
        simp only [Option.bind_some]
        rw [if_neg (by decide), if_neg (by omega)]
    · rw [if_neg h2, if_neg (by omega)]
  · rw [if_neg h1, if_neg (by omega)]

end Go.Proofs.Ytjcmjfabadlbjaa.Slot
