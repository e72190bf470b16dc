/- NetForms's code, step by step: messages that may not be, a full net, places outside. -/
import Derived.Test.YtecagknnkbolgaaNetJ
import Derived.Test.YtecagknnkbolgaaByt
import Derived.Deep.LoopGhost
namespace Go.Proofs.Ytecagknnkbolgaa.NetW
open Go.RowKit Go.Proofs.YtecagknnkbolgaaW.PrintWords Go.Proofs.YtecagknnkbolgaaW.PrintLast Go.Proofs.YtecagknnkbolgaaW.PrintMore Go.Proofs.Ytecagknnkbolgaa.PNets Go.Proofs.Ytecagknnkbolgaa.Byt

theorem and1023 (n : Int) : Go.bits .and .i64 n 1023 = n % 1024 := by
  have h0 : (BitVec.ofInt 64 1023).toNat = 2 ^ 10 - 1 := by decide
  have key : (BitVec.ofInt 64 n &&& BitVec.ofInt 64 1023).toNat = (n % ((2 ^ 64 : Nat) : Int)).toNat % 2 ^ 10 := by
    rw [BitVec.toNat_and, BitVec.toNat_ofInt, h0, Nat.and_two_pow_sub_one_eq_mod]
  show IntKind.i64.wrap ((BitVec.ofInt 64 n &&& BitVec.ofInt 64 1023).toNat : Nat) = n % 1024
  rw [key, IntKind.wrap_i64]
  omega

def zerosB (n : Nat) : ByteArray := ⟨(List.replicate n 0).toArray⟩
theorem zerosB_size (n : Nat) : (zerosB n).size = n := by simp [zerosB, ByteArray.size]

theorem mkB (D : Nat) (hD : D ≤ 1024) (W : World) : (Instr.makeSlice 47 (.int .i64 (556 + (D : Int))) (.int .i64 (556 + (D : Int)))).run Try.prog W = .ok (.slice (some ⟨W.heap.size, 0, none⟩) (556 + D) (556 + D)) (W.alloc (.cells (madeCells #[.int .u8 0] (556 + D)) 5)) := by
  have h := print_make_of (P := Try.prog) 47 5 (.int .u8 0) 1 Try.underlying47 (by kernel_rfl) rfl (by decide) (556 + D) (by omega) W
  rw [show ((556 + D : Nat) : Int) = 556 + (D : Int) by omega] at h
  exact h
theorem cvB (W : World) (n g : Nat) (hg : W.heap.size = g) : (convert 47 9 (.slice (some ⟨g, 0, none⟩) n n)).run Try.prog (W.alloc (.cells (madeCells #[.int .u8 0] n) 5)) = .ok (.string (zerosB n)) (W.alloc (.cells (madeCells #[.int .u8 0] n) 5)) := by
  subst hg
  have hs : (madeCells #[.int .u8 0] n).size = n := by simp [size_madeCells]
  have h := (BB.alloc W (madeCells #[.int .u8 0] n) 5 (List.replicate n 0) (by simp [hs]) (fun j hj => by
    have hj' : j < n := by simpa using hj
    rw [List.getElem_replicate]
    simp [madeCells, hj', Nat.mod_one])).string (P := Try.prog) 47 9 5 n Try.underlying47 Try.underlying5 Try.underlying9
  rw [List.length_replicate] at h
  exact h

/-- The messages that may not be. -/
def bads (D : Nat) : List S31 := [z31, ⟨1 - D, 2, sx⟩, ⟨4 + D, 2, sx⟩, ⟨1, -D, sx⟩, ⟨2, 2, sx⟩, ⟨1, 2, ⟨#[]⟩⟩, ⟨1, 2, zerosB (556 + D)⟩]
theorem bads_no (D : Nat) (h0 : 1 ≤ D) (i : Int) (hi : 0 ≤ i) (hi7 : i < 7) : mayF (rd_T31 (bads D) i) = false := by
  obtain rfl | rfl | rfl | rfl | rfl | rfl | rfl : i = 0 ∨ i = 1 ∨ i = 2 ∨ i = 3 ∨ i = 4 ∨ i = 5 ∨ i = 6 := by omega
  all_goals
    simp [rd_T31, bads, mayF, z31, zerosB_size]
    try first | omega | decide
theorem bads_C (D : Nat) (W : World) (g : Nat) (hg : W.heap.size = g) : Kd.C k31 (W.alloc (.cells #[.int .i64 0, .int .i64 0, .string ⟨#[]⟩, .int .i64 (1 - D), .int .i64 2, .string sx, .int .i64 (4 + D), .int .i64 2, .string sx, .int .i64 1, .int .i64 (-D), .string sx, .int .i64 2, .int .i64 2, .string sx, .int .i64 1, .int .i64 2, .string ⟨#[]⟩, .int .i64 1, .int .i64 2, .string (zerosB (556 + D))] 31)) (some ⟨g, 0, none⟩) 7 (bads D) := by
  subst hg
  have h1 := heap_alloc_new W (.cells #[.int .i64 0, .int .i64 0, .string ⟨#[]⟩, .int .i64 (1 - D), .int .i64 2, .string sx, .int .i64 (4 + D), .int .i64 2, .string sx, .int .i64 1, .int .i64 (-D), .string sx, .int .i64 2, .int .i64 2, .string sx, .int .i64 1, .int .i64 2, .string ⟨#[]⟩, .int .i64 1, .int .i64 2, .string (zerosB (556 + D))] 31)
  refine ⟨rfl, by decide, fun _ => ⟨_, rfl, fun j p hj => ⟨_, rfl, k31_mk _ p, fun i u hu => ?_⟩⟩⟩
  have hi : i < 3 := (List.getElem?_eq_some_iff.1 hu).1
  have hj7 : j < 7 := (List.getElem?_eq_some_iff.1 hj).1
  obtain rfl | rfl | rfl | rfl | rfl | rfl | rfl : j = 0 ∨ j = 1 ∨ j = 2 ∨ j = 3 ∨ j = 4 ∨ j = 5 ∨ j = 6 := by omega
  all_goals
    obtain rfl := Option.some.inj hj
    obtain rfl | rfl | rfl : i = 0 ∨ i = 1 ∨ i = 2 := by omega
    all_goals
      obtain rfl := Option.some.inj hu
      exact (blk_cell h1 _).trans rfl
theorem send_bad (L : List S31) (m : S31) (h : mayF m = false) : sendF L m = (L, 2400) := by
  unfold sendF
  rw [if_neg (by rw [h]; decide)]

theorem send_row (k : Nat) (hk : k < 64) : sendF (List.replicate k mx_) mx_ = (List.replicate (k + 1) mx_, 0) := by
  unfold sendF
  rw [if_pos (by kernel_rfl), if_neg (by simp; omega), List.replicate_succ']
theorem send_fullR (m : S31) (hm : mayF m = true) : sendF (List.replicate 64 mx_) m = (List.replicate 64 mx_, 2401) := by
  unfold sendF
  rw [if_pos hm, if_pos (by simp)]
theorem copy_fullR : copyF (List.replicate 64 mx_) 0 = (List.replicate 64 mx_, 2401) := by
  unfold copyF
  rw [if_pos (by simp)]
  exact send_fullR _ (by kernel_rfl)
theorem copy_out (L : List S31) (k : Int) (h : ¬ (0 ≤ k ∧ k < L.length)) : copyF L k = (L, 2402) := by
  unfold copyF
  rw [if_neg h]
theorem take_out (L : List S31) (k : Int) (h : ¬ (0 ≤ k ∧ k < L.length)) : takeF L k = (L, z31, 2402) := by
  unfold takeF
  rw [if_neg h]
theorem take_last : takeF (List.replicate 64 mx_) 63 = (List.replicate 63 mx_, mx_, 0) := by kernel_rfl

theorem all_k {w0 W : World} {g : Nat} {L : List S31} {P : Nat → Prop} (h : One 52 w0 W g L P) (n : Nat) (hn : L.length = n) (hl : n ≤ 64) :
    Calls Try.prog 15 #[.pointer (some ⟨g, 0, none⟩)] W fun e W' => ∃ A c, e = .returned (.slice A n c) ∧ n ≤ c ∧ Kd.R k31 31 W' W.heap.size (fun _ => True) (.slice A n c) L ∧ Below W.heap.size W W' :=
  (all1 h (by omega)).mono fun e w' h => by
    obtain ⟨v', rfl, hR, hb⟩ := h
    obtain ⟨A, c, rfl⟩ := Kd.R_slice hR
    subst hn
    exact ⟨A, c, rfl, (Kd.R_reads' hR).2.1, hR, hb⟩

/-- What holds at a round's head. -/
def FormsAt (w : World) (g gk : Nat) (i : Value) (wr : World) : Prop := ∃ k : Nat, i = .int .i64 k ∧ k + gk = 64 ∧ One 52 w wr g (List.replicate k mx_) (fun _ => False)
theorem FormsAt.start {w wr : World} {g : Nat} {P : Nat → Prop} (h : One 52 w wr g [] P) : FormsAt w g 64 (.int .i64 0) wr := ⟨0, rfl, by omega, h.mono (fun _ h => h.elim)⟩

set_option maxHeartbeats 8000000 in
set_option maxRecDepth 100000 in
theorem forms_walk (n x : Int) (D : Nat) (w : World) (hx : Go.bits .and .i64 x 1023 = (D : Int) - 1) (hD0 : 1 ≤ D) (hD1 : D ≤ 1024) :
    Calls Try.prog 5 #[.int .i64 n, .int .i64 x] w fun e w' => e = .returned (.bool true) ∧ Below w.heap.size w w' := by
  have hd : IntKind.i64.wrap (1 + ((D : Int) - 1)) = (D : Int) := by rw [IntKind.wrap_i64]; omega
  have h1 : IntKind.i64.wrap (1 - (D : Int)) = 1 - (D : Int) := by rw [IntKind.wrap_i64]; omega
  have h2 : IntKind.i64.wrap (4 + (D : Int)) = 4 + (D : Int) := by rw [IntKind.wrap_i64]; omega
  have h3 : IntKind.i64.wrap (-(D : Int)) = -(D : Int) := by rw [IntKind.wrap_i64]; omega
  have h4 : IntKind.i64.wrap (556 + (D : Int)) = 556 + (D : Int) := by rw [IntKind.wrap_i64]; omega
  have h5 : IntKind.i64.wrap (63 + (D : Int)) = 63 + (D : Int) := by rw [IntKind.wrap_i64]; omega
  have hu : 0 ≤ IntKind.u64.wrap n ∧ IntKind.u64.wrap n < 18446744073709551616 := by rw [IntKind.wrap_u64]; omega
  obtain ⟨q, hq, hq0, hq7⟩ : ∃ q, (IntKind.u64.wrap n).tmod 7 = q ∧ 0 ≤ q ∧ q < 7 := ⟨_, rfl, by rw [Int.tmod_eq_emod_of_nonneg hu.1]; omega, by rw [Int.tmod_eq_emod_of_nonneg hu.1]; omega⟩
  have hqw : IntKind.i64.wrap q = q := by rw [IntKind.wrap_i64]; omega
  clear hu
  have hmk := mkB D hD1
  have hbad : Aside0 (sendF [] ⟨(rd_T31 (bads D) q).f0, (rd_T31 (bads D) q).f1, (rd_T31 (bads D) q).f2⟩ = ([], 2400)) := ⟨send_bad [] _ (bads_no D hD0 q hq0 hq7)⟩
  go_enter Try.func5, Try.ntmps5
  go_wp2_with (first
    | (go_at_call 18; (with_reducible refine (awake_calls _).mono ?_); rintro e w1 ⟨rfl, hb1⟩; have HB := Aside0.mk hb1; clear hb1)
    | (go_at_call 7; (with_reducible refine (new_calls _).mono ?_); rintro e w2 ⟨rfl, rfl⟩; have hS := Aside0.mk (One.new (T := 52) (P := fun _ => False) HB.out (fun _ h => h.elim)); have hcv := cvB (w1.alloc (.cells #[.slice none 0 0] 52)) (556 + D) (w1.heap.size + 1) (by simp); obtain ⟨ad, had, c0, c1, c2⟩ := at_T31 (bads_C D ((w1.alloc (.cells #[.slice none 0 0] 52)).alloc (.cells (madeCells #[.int .u8 0] (556 + D)) 5)) (w1.heap.size + 2) (by simp)) q hq0 (by omega); obtain rfl : (⟨w1.heap.size + 2, 0, none⟩ : Addr) = ad := Option.some.inj had; rw [show Addr.add ⟨w1.heap.size + 2, 0, none⟩ (q.toNat * 3) = ⟨w1.heap.size + 2, q.toNat * 3, none⟩ by (simp [Addr.add]; try omega)] at c0 c1 c2; clear had)
    | (go_at_call 9; (with_reducible refine (send_k ((hS.out.alloc _).alloc _) (rd_T31 (bads D) q).f0 (rd_T31 (bads D) q).f1 (rd_T31 (bads D) q).f2 [] 2400 hbad.out (by decide)).mono ?_); rintro e w3 ⟨rfl, hS2, hk⟩; clear hS c0 c1 c2 hmk hcv; have hstart := Aside0.mk (FormsAt.start hS2); clear hS2 hk))
  go_loopg [9] 64 (fun gk i wr => FormsAt w w1.heap.size gk i wr)
  case atStart => exact hstart.out
  case round =>
    clear hstart
    obtain ⟨k, rfl, hk, hS⟩ := hrel
    replace hS := Aside0.mk hS
    by_cases h64 : k < 64
    · have d1 : decide ((k : Int) < 64) = true := decide_eq_true (by omega)
      obtain ⟨gk', rfl⟩ : ∃ gk', gk = gk' + 1 := ⟨gk - 1, by omega⟩
      have es := Aside0.mk (send_row k h64)
      have kw : IntKind.i64.wrap ((k : Int) + 1) = ((k + 1 : Nat) : Int) := by rw [IntKind.wrap_i64]; omega
      go_wp2_with (first
        | (go_at_call 9; (with_reducible refine (send_k hS.out 1 2 sx _ _ es.out (by simp; omega)).mono ?_); rintro e w4 ⟨rfl, hS2, hk⟩; clear hS; have hS := Aside0.mk hS2; clear hS2 hk)
        | (go_at_call 8; (with_reducible refine (num_below 0 _).mono ?_); rintro e w5 ⟨rfl, hb1⟩; have hS2 := Aside0.mk (hS.out.below hb1); clear hS hb1; have hS := hS2; clear hS2))
      go_roundg gk'
      case measure => exact Nat.lt_succ_self _
      case rel => exact ⟨k + 1, rfl, by omega, hS.out⟩
    · have d1 : decide ((k : Int) < 64) = false := decide_eq_false (by omega)
      obtain rfl : k = 64 := by omega
      have e1 := Aside0.mk (send_fullR ⟨1, 2, ⟨#[121]⟩⟩ (by kernel_rfl))
      have e2 := Aside0.mk copy_fullR
      have e3 := Aside0.mk (take_out (List.replicate 64 mx_) (-(D : Int)) (by omega))
      have e4 := Aside0.mk (take_out (List.replicate 64 mx_) (63 + (D : Int)) (by simp; omega))
      have e5 := Aside0.mk (copy_out (List.replicate 64 mx_) (-(D : Int)) (by omega))
      have e6 := Aside0.mk take_last
      go_wp2_with (first
        | (go_at_call 9; (with_reducible refine (send_k hS.out 1 2 ⟨#[121]⟩ _ _ e1.out (by simp)).mono ?_); rintro e w4 ⟨rfl, hS2, hk⟩; clear hS; have hS := Aside0.mk hS2; clear hS2 hk)
        | (go_at_call 13; (with_reducible refine (copy_k hS.out 0 _ _ e2.out (by simp)).mono ?_); rintro e w5 ⟨rfl, hS2, hk⟩; clear hS; have hS := Aside0.mk hS2; clear hS2 hk)
        | (go_at_call 11; (with_reducible refine (take_k hS.out (-(D : Int)) _ 0 0 ⟨#[]⟩ _ e3.out (by simp)).mono ?_); rintro e w6 ⟨rfl, hS2, hk⟩; clear hS; have hS := Aside0.mk (hS2.alloc (.cells #[.int .i64 0, .int .i64 0, .string ⟨#[]⟩] 31)); clear hS2 hk)
        | (go_at_call 11; (with_reducible refine (take_k hS.out (63 + (D : Int)) _ 0 0 ⟨#[]⟩ _ e4.out (by simp)).mono ?_); rintro e w7 ⟨rfl, hS2, hk⟩; clear hS; have hS := Aside0.mk (hS2.alloc (.cells #[.int .i64 0, .int .i64 0, .string ⟨#[]⟩] 31)); clear hS2 hk)
        | (go_at_call 13; (with_reducible refine (copy_k hS.out (-(D : Int)) _ _ e5.out (by simp)).mono ?_); rintro e w8 ⟨rfl, hS2, hk⟩; clear hS; have hS := Aside0.mk hS2; clear hS2 hk)
        | (go_at_call 11; (with_reducible refine (take_k hS.out 63 _ 1 2 sx _ e6.out (by simp)).mono ?_); rintro e w9 ⟨rfl, hS2, hk⟩; clear hS; have hS := Aside0.mk (hS2.alloc (.cells #[.int .i64 1, .int .i64 2, .string sx] 31)); clear hS2 hk)
        | (go_at_call 8; (with_reducible refine (num_below _ _).mono ?_); rintro e w5 ⟨rfl, hb1⟩; have hS2 := Aside0.mk (hS.out.below hb1); clear hS hb1; have hS := hS2; clear hS2)
        | (go_at_call 15; (with_reducible refine (all_k hS.out 63 (by simp) (by omega)).mono ?_); rintro e wa ⟨A, c, rfl, hc, -, hb1⟩; have hS2 := Aside0.mk (hS.out.below hb1); clear hS hb1 hc; have hS := hS2; clear hS2))
      go_ret
      obtain ⟨v, -, hB, -⟩ := hS.out
      exact ⟨rfl, hB⟩

theorem forms_calls (n x : Int) (w : World) : Calls Try.prog 5 #[.int .i64 n, .int .i64 x] w fun e w' => e = .returned (.bool true) ∧ Below w.heap.size w w' := by
  have h0 : 0 ≤ x % 1024 := by omega
  have h1 : x % 1024 < 1024 := by omega
  exact forms_walk n x (x % 1024 + 1).toNat w (by rw [and1023]; omega) (by omega) (by omega)

end Go.Proofs.Ytecagknnkbolgaa.NetW
