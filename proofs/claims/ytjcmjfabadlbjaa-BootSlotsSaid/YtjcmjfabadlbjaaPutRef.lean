/- What the reference's PutSlot answers, step by step: the same slots as slot.Put's. Walk alone. -/
import Derived.Test.YtjcmjfabadlbjaaPut
import Derived.Test.YtjcmjfabadlbjaaPSlotsx1
namespace Go.Proofs.Ytjcmjfabadlbjaa.Slot
open Go.RowKit Go.Proofs.YtjcmjfabadlbjaaW.PrintWords Go.Proofs.YtjcmjfabadlbjaaW.PrintLast Go.Proofs.YtjcmjfabadlbjaaW.PrintMore Go.Proofs.Ytjcmjfabadlbjaa.Byt

theorem putL_length (c : Int) : (putL c).length = 16 := row_length c 8
theorem putL_low (c : Int) (k : Nat) (h : k < 8) : (putL c)[k]'(by rw [putL_length]; omega) = byt c k := by
  simp [putL, row, h]
theorem putL_high (c : Int) (k : Nat) (h : k < 8) : (putL c)[8 + k]'(by rw [putL_length]; omega) = 255 - byt c k := by
  simp only [putL, row, List.getElem_map, List.getElem_range]
  rw [if_neg (by omega), if_pos (by omega), show 8 + k - 8 = k by omega]

theorem info5 : (Try.prog.info? 5).map (fun i => (i.zero, i.size, i.bytes)) = some (some (.int .u8 0), 1, 1) := by kernel_rfl
theorem sub_byte (x : UInt8) : (255 - (x.toNat : Int)) % 256 = ((255 - x).toNat : Int) := by
  have h : ∀ n : Fin 256, (255 - ((UInt8.ofNat n.val).toNat : Int)) % 256 = ((255 - UInt8.ofNat n.val).toNat : Int) := by decide +kernel
  have := h ⟨x.toNat, x.toNat_lt⟩
  simpa using this
theorem take_next (c : Int) (k : Nat) (h : k < 8) : (putL c).take (8 + k) ++ [255 - byt c k] = (putL c).take (8 + (k + 1)) := by
  rw [← putL_high c k h, show 8 + (k + 1) = 8 + k + 1 by omega, List.take_succ_eq_append_getElem (by rw [putL_length]; omega)]

theorem num_bytes (c : Int) : PSlots.watchwordref1_Num.f 9 c 8 = some ⟨((putL c).take 8).toArray⟩ := by
  have e : (putL c).take 8 = (List.range 8).map (byt c) := by
    apply List.ext_getElem
    · rw [List.length_take, putL_length]; simp
    · intro j h1 h2
      have hj : j < 8 := by simpa using h2
      rw [List.getElem_take, putL_low c j hj, List.getElem_map, List.getElem_range]
  rw [e]
  simp [PSlots.watchwordref1_Num.f, PSlots.watchwordref1_Num.l0, wrap64, strOfNums, byt, List.range_succ, shr, IntKind.bits]

set_option maxHeartbeats 4000000 in
set_option maxRecDepth 100000 in
theorem putRef_good (c : Int) (w : World) (h0 : 0 ≤ c) (h1 : c ≤ 4294967295) :
    Calls Try.prog 14 #[.int .i64 c] w fun e w' => e = .returned (.tuple #[.string ⟨(putL c).toArray⟩, .int .i64 0]) ∧ Below w.heap.size w w' := by
  have hsz : (⟨((putL c).take 8).toArray⟩ : ByteArray).size = 8 := by
    show ((putL c).take 8).toArray.size = 8
    rw [List.size_toArray, List.length_take, putL_length]; rfl
  have hup : PSlots.watchwordref1_upTo.f c 0 4294967295 = some true := by
    unfold PSlots.watchwordref1_upTo.f; rw [if_pos (by omega)]; simp [h1]
  have hup := Aside0.mk hup
  have hnum := Aside0.mk (num_bytes c)
  go_enter Try.func14, Try.ntmps14
  go_wp2_with (first
    | (go_at_call 32; (with_reducible refine (PSlots.watchwordref1_upTo.calls c 0 4294967295 true _ hup.out).mono ?_); rintro e w' ⟨rfl, ⟨nd, rfl⟩⟩)
    | (go_at_call 33; (with_reducible refine (PSlots.watchwordref1_Num.calls 9 c 8 _ _ hnum.out).mono ?_); rintro e w1 ⟨rfl, hb1⟩; have hb1 := Aside0.mk hb1)
    | ((with_reducible refine gate_dst (N := 11) rfl ?_); refine law_bytes (w0 := w) w.heap.size rfl 9 41 5 _ rfl Try.underlying9 Try.underlying41 Try.underlying5 _ rfl (by have hq := hb1.out; exact (pw_below_drewN (Below.refl _ _) nd).trans hq) (by have hq := hb1.out.size; exact hq) ?_; intro b cap W1 hb hB hbl hbs; replace hbl := Aside0.mk hbl; replace hb := Aside0.mk hb; replace hbs := Aside0.mk hbs; replace hB := Aside0.mk hB))
  go_loopw [4, 5] (fun v i wr => ∃ (k b cap : Nat), k ≤ 8 ∧ i = .int .i64 k ∧ v = .slice (some ⟨b, 0, none⟩) (8 + k) cap ∧ Aside0 (w.heap.size ≤ b) ∧ Aside0 (BB wr b cap ((putL c).take (8 + k))) ∧ Aside0 (Below w.heap.size w wr) ∧ Aside0 (w.heap.size ≤ wr.heap.size)) (fun _ i _ => 8 - (intOf i).toNat)
  case atStart =>
    exact ⟨0, b, cap, by omega, rfl, rfl, hb, hB, hbl, hbs⟩
  case round =>
    clear hb hB hbl hbs hb1
    obtain ⟨k, b, cap, hk, rfl, rfl, hb, hB, hbl, hbs⟩ := hrel
    by_cases hlt : k < 8
    · have hc0 : decide ((k : Int) < 8) = true := decide_eq_true (by omega)
      have hc := hB.out.cell k (by rw [List.length_take, putL_length]; omega)
      rw [List.getElem_take, putL_low c k hlt] at hc
      have hsub := sub_byte (byt c k)
      have hlen : Aside0 (8 + k = ((putL c).take (8 + k)).length) := ⟨by rw [List.length_take, putL_length]; omega⟩
      go_wp2_with (at_builtin; refine law_push (w0 := w) w.heap.size rfl _ _ 41 5 rfl Try.underlying41 info5 b cap _ (255 - byt c k) (8 + k) hlen.out rfl rfl hB.out hb.out hbl.out hbs.out (by rw [← hlen.out]; omega) ?_; intro b1 cap1 W2 hb2 hB2 hbl2 hbs2; replace hb2 := Aside0.mk hb2; replace hB2 := Aside0.mk hB2; replace hbl2 := Aside0.mk hbl2; replace hbs2 := Aside0.mk hbs2)
      go_roundw
      case rel =>
        refine ⟨k + 1, b1, cap1, by omega, by simp, by simp; omega, hb2, ⟨?_⟩, hbl2, hbs2⟩
        rw [← take_next c k hlt]; exact hB2.out
      case measure => simp [intOf]; omega
    · obtain rfl : k = 8 := by omega
      have hconv := hB.out.string (P := Try.prog) 41 9 5 cap Try.underlying41 Try.underlying5 Try.underlying9
      rw [List.take_of_length_le (by rw [putL_length]; omega), putL_length] at hconv
      go_wp2
      go_ret2
      exact ⟨rfl, hbl.out⟩

set_option maxHeartbeats 4000000 in
set_option maxRecDepth 100000 in
theorem putRef_bad (c : Int) (w : World) (h : ¬ (0 ≤ c ∧ c ≤ 4294967295)) :
    Calls Try.prog 14 #[.int .i64 c] w fun e w' => e = .returned (.tuple #[.string ⟨#[]⟩, .int .i64 300]) ∧ Below w.heap.size w w' := by
  have hup : PSlots.watchwordref1_upTo.f c 0 4294967295 = some false := by
    unfold PSlots.watchwordref1_upTo.f
    by_cases h0 : c ≥ 0
    · rw [if_pos h0]; simp; omega
    · rw [if_neg h0]
  have hup := Aside0.mk hup
  clear h
  go_enter Try.func14, Try.ntmps14
  go_wp2_with (go_at_call 32; (with_reducible refine (PSlots.watchwordref1_upTo.calls c 0 4294967295 false _ hup.out).mono ?_); rintro e w' ⟨rfl, ⟨nd, rfl⟩⟩)
  go_ret2
  exact ⟨rfl, pw_below_drewN (Below.refl _ _) _⟩

theorem putRef_calls (c : Int) (w : World) :
    Calls Try.prog 14 #[.int .i64 c] w fun e w' => e = .returned (.tuple #[.string (putF c).1, .int .i64 (putF c).2]) ∧ Below w.heap.size w w' := by
  unfold putF
  by_cases h : 0 ≤ c ∧ c ≤ 4294967295
  · rw [if_pos h]; exact putRef_good c w h.1 h.2
  · rw [if_neg h]; exact putRef_bad c w h

end Go.Proofs.Ytjcmjfabadlbjaa.Slot
