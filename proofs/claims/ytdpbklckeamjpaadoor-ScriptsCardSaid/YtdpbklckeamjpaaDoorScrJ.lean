/- strings.Cut at one byte, whatever the text's length. -/
import Derived.Test.YtdpbklckeamjpaaDoorScrI
import Derived.Lib.IndexLaws
namespace Go.Proofs.YtdpbklckeamjpaaDoor.Scr
open Go.RowKit Go.Proofs.YtdpbklckeamjpaaDoorW.PrintWords Go.Proofs.YtdpbklckeamjpaaDoorW.PrintLast Go.Proofs.YtdpbklckeamjpaaDoorW.PrintMore Go.Proofs.YtdpbklckeamjpaaDoor.PScripts

theorem index_at : ∀ (p q : List UInt8) (c : UInt8), c ∉ p → Lib.indexByte (p ++ c :: q) c = p.length
  | [], q, c, _ => by simp [Lib.indexByte]
  | x :: p, q, c, h => by
    have h1 : (x == c) = false := by
      rw [beq_eq_false_iff_ne]
      exact fun e => h (by simp [e])
    have h2 := index_at p q c (fun e => h (by simp [e]))
    have h3 : (((p.length : Nat) : Int) == -1) = false := by
      rw [beq_eq_false_iff_ne]
      omega
    simp [Lib.indexByte, h1, h2, h3]
theorem index_lt : ∀ (l : List UInt8) (c : UInt8), Lib.indexByte l c < l.length ∨ l = []
  | [], _ => .inr rfl
  | x :: l, c => by
    left
    unfold Lib.indexByte
    split
    · simp
    · split
      · simp
        omega
      · rcases index_lt l c with h | h
        · simp
          omega
        · subst h
          simp [Lib.indexByte]

/-- What a cut at c gives. -/
structure CutAt (s d r : ByteArray) (f : Bool) (c : UInt8) : Prop where
  at_ : ∀ p q, s.data.toList = p ++ c :: q → c ∉ p → d.data.toList = p ∧ r.data.toList = q ∧ f = true
  dle : d.size ≤ s.size
  rle : r.size ≤ s.size

theorem ext_list (s : ByteArray) (a b : Nat) : (s.extract a b).data.toList = (s.data.toList.drop a).take (b - a) := by
  simp [ByteArray.data_extract, Array.toList_extract, List.extract_eq_take_drop]
theorem ext_size (s : ByteArray) (a b : Nat) : (s.extract a b).size ≤ s.size := by
  simp [ByteArray.size_extract]
  omega
theorem cut_some {s : ByteArray} {c : UInt8} {i : Int} (hi : Lib.indexByte s.data.toList c = i) : CutAt s (s.extract 0 i.toNat) (s.extract (i + 1).toNat s.size) true c := by
  refine ⟨fun p q h hp => ?_, ext_size _ _ _, ext_size _ _ _⟩
  have e := index_at p q c hp
  rw [← h, hi] at e
  have e1 : i.toNat = p.length := by omega
  have e2 : (i + 1).toNat = p.length + 1 := by omega
  have hsz : s.size = p.length + (q.length + 1) := by
    have : s.data.toList.length = s.size := by rw [Array.length_toList]; rfl
    rw [← this, h]
    simp
  rw [ext_list, ext_list, e1, e2, h, hsz]
  refine ⟨by simp, ?_, rfl⟩
  rw [show p ++ c :: q = (p ++ [c]) ++ q by simp, List.drop_left' (by simp)]
  exact List.take_of_length_le (by omega)
theorem cut_none {s : ByteArray} {c : UInt8} {i : Int} (hi : Lib.indexByte s.data.toList c = i) (h0 : i = -1) : CutAt s s ⟨#[]⟩ false c := by
  refine ⟨fun p q h hp => ?_, Nat.le_refl _, Nat.zero_le _⟩
  have e := index_at p q c hp
  rw [← h, hi] at e
  omega

set_option maxHeartbeats 4000000 in
set_option maxRecDepth 100000 in
theorem cut_calls (s : ByteArray) (c : UInt8) (w : World) (hs : s.size ≤ 1000000000000000) :
    Calls Tryd.prog 59 #[.string s, .string ⟨#[c]⟩] w fun e w' => ∃ d r f, e = .returned (.tuple #[.string d, .string r, .bool f]) ∧ CutAt s d r f c ∧ Below w.heap.size w w' := by
  have hb := Lib.indexByte_ge s.data.toList c
  have hsz : s.data.toList.length = s.size := by rw [Array.length_toList]; rfl
  obtain ⟨i, hi⟩ : ∃ i, Lib.indexByte s.data.toList c = i := ⟨_, rfl⟩
  have hC := fun w => Tryd.stringslite_Index_one s c w
  rw [hi] at hC hb
  by_cases h0 : 0 ≤ i
  · have d0 : decide (0 ≤ i) = true := decide_eq_true h0
    have hlt : i < (s.size : Int) := by
      rcases index_lt s.data.toList c with h | h
      · rw [hi, hsz] at h
        exact h
      · rw [h] at hi
        simp [Lib.indexByte] at hi
        omega
    have iw : IntKind.i64.wrap (i + 1) = i + 1 := by rw [IntKind.wrap_i64]; omega
    have i1 : (0 : Int) ≤ i + 1 := by omega
    have i2 : i + 1 ≤ (s.size : Int) := by omega
    have i3 : i ≤ (s.size : Int) := by omega
    replace hC := Aside0.mk hC
    clear hb hsz hlt
    go_enter Tryd.func59, Tryd.ntmps59
    go_wp2_with (go_at_call 46; (with_reducible refine (hC.out _).mono ?_); rintro e w1 ⟨rfl, rfl⟩)
    go_region_held3 (fun _ => True) (first | exact trivial) (first | fail)
    go_wp2
    exact bodyPost_ret (v := .tuple #[.string (s.extract 0 i.toNat), .string (s.extract (i + 1).toNat s.size), .bool true]) (by simp [results, Tryd.results59, go_sem]) rfl ⟨_, _, _, rfl, cut_some hi, below_drew (Below.refl _ _)⟩
  · have d0 : decide (0 ≤ i) = false := decide_eq_false h0
    replace hC := Aside0.mk hC
    have hm : i = -1 := by omega
    replace hi := Aside0.mk hi
    replace hm := Aside0.mk hm
    clear hb hsz
    go_enter Tryd.func59, Tryd.ntmps59
    go_wp2_with (go_at_call 46; (with_reducible refine (hC.out _).mono ?_); rintro e w1 ⟨rfl, rfl⟩)
    exact bodyPost_ret (v := .tuple #[.string s, .string ⟨#[]⟩, .bool false]) (by simp [results, Tryd.results59, go_sem]) rfl ⟨_, _, _, rfl, cut_none hi.out hm.out, Below.refl _ _⟩

set_option maxHeartbeats 1000000 in
set_option maxRecDepth 100000 in
theorem Cut_calls (s : ByteArray) (c : UInt8) (w : World) (hs : s.size ≤ 1000000000000000) :
    Calls Tryd.prog 49 #[.string s, .string ⟨#[c]⟩] w fun e w' => ∃ d r f, e = .returned (.tuple #[.string d, .string r, .bool f]) ∧ CutAt s d r f c ∧ Below w.heap.size w w' := by
  go_enter Tryd.func49, Tryd.ntmps49
  go_wp2_with (go_at_call 59; (with_reducible refine (cut_calls s c _ hs).mono ?_); rintro e w1 ⟨d, r, f, rfl, hcut, hb⟩; replace hcut := Aside0.mk hcut; replace hb := Aside0.mk hb)
  exact bodyPost_ret (v := .tuple #[.string d, .string r, .bool f]) (by simp [results, Tryd.results49, go_sem]) rfl ⟨_, _, _, rfl, hcut.out, hb.out⟩

end Go.Proofs.YtdpbklckeamjpaaDoor.Scr
