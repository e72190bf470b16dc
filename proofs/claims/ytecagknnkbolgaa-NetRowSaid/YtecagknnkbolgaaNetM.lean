/- Nets's code, step by step: the package's net and the document's, side by side. -/
import Derived.Test.YtecagknnkbolgaaNetL
namespace Go.Proofs.Ytecagknnkbolgaa.NetW
open Go.RowKit Go.Proofs.YtecagknnkbolgaaW.PrintWords Go.Proofs.YtecagknnkbolgaaW.PrintLast Go.Proofs.YtecagknnkbolgaaW.PrintMore Go.Proofs.Ytecagknnkbolgaa.PNets

theorem Two.row2 {T1 T2 : Nat} {w0 W : World} {g r : Nat} {L M : List S31} {P : Nat → Prop} (h : Two T1 T2 w0 W g r L M P) : ∃ A c, W.cell? ⟨r, 0, none⟩ = some (.slice A M.length c) ∧ M.length ≤ c ∧ Kd.C k31 W A M.length M := by
  obtain ⟨v, u, h1, h2, h3, h4⟩ := h
  obtain ⟨A, c, rfl, hc⟩ := h2.form
  exact ⟨A, c, h2.cell, hc, (Kd.R_reads' h2.row).2.2⟩
theorem Keep.cell {P : Nat → Prop} {W W' : World} {b j : Nat} {v : Value} (hk : Keep P W W') (hP : P b) (h : W.cell? ⟨b, j, none⟩ = some v) : W'.cell? ⟨b, j, none⟩ = some v := by
  rw [← h]
  unfold World.cell?
  simp only
  rw [hk.2 b hP]
theorem and3 (n : Int) : Go.bits .and .i64 n 3 = n % 4 := by
  have h0 : (BitVec.ofInt 64 3).toNat = 2 ^ 2 - 1 := by decide
  have key : (BitVec.ofInt 64 n &&& BitVec.ofInt 64 3).toNat = (n % ((2 ^ 64 : Nat) : Int)).toNat % 2 ^ 2 := by
    rw [BitVec.toNat_and, BitVec.toNat_ofInt, h0, Nat.and_two_pow_sub_one_eq_mod]
  show IntKind.i64.wrap ((BitVec.ofInt 64 n &&& BitVec.ofInt 64 3).toNat : Nat) = n % 4
  rw [key, IntKind.wrap_i64]
  omega
theorem sendF_len (L : List S31) (m : S31) (h : L.length ≤ 64) : (sendF L m).1.length ≤ 64 := by
  unfold sendF
  split
  · split
    · exact h
    · simp
      omega
  · exact h
theorem copyF_len (L : List S31) (k : Int) (h : L.length ≤ 64) : (copyF L k).1.length ≤ 64 := by
  unfold copyF
  split
  · exact sendF_len L _ h
  · exact h
theorem takeF_len (L : List S31) (k : Int) (h : L.length ≤ 64) : (takeF L k).1.length ≤ 64 := by
  unfold takeF
  split
  · exact Nat.le_trans (List.length_eraseIdx_le ..) h
  · exact h

section calls
variable {w0 W : World} {g r : Nat} {L M : List S31} {P : Nat → Prop}
theorem rsend2_k (h : Two 52 28 w0 W g r L M P) (a b : Int) (s : ByteArray) (M' : List S31) (x : Int) (hs : sendF M ⟨a, b, s⟩ = (M', x)) :
    Calls Try.prog 10 #[.pointer (some ⟨r, 0, none⟩), .agg #[.int .i64 a, .int .i64 b, .string s]] W fun e W' => e = .returned (.int .i64 x) ∧ Two 52 28 w0 W' g r L M' P ∧ Keep P W W' := by
  have := rsend2 h ⟨a, b, s⟩
  rw [hs] at this
  exact this
theorem take2_k (h : Two 52 28 w0 W g r L M P) (k : Int) (L' : List S31) (x y : Int) (s : ByteArray) (c : Int) (hs : takeF L k = (L', ⟨x, y, s⟩, c)) (hl : L.length ≤ 64) :
    Calls Try.prog 11 #[.pointer (some ⟨g, 0, none⟩), .int .i64 k] W fun e W' => e = .returned (.tuple #[.agg #[.int .i64 x, .int .i64 y, .string s], .int .i64 c]) ∧ Two 52 28 w0 W' g r L' M P ∧ Keep P W W' := by
  have := take2 h (by decide) k hl
  rw [hs] at this
  exact this
theorem rtake2_k (h : Two 52 28 w0 W g r L M P) (k : Int) (M' : List S31) (x y : Int) (s : ByteArray) (c : Int) (hs : takeF M k = (M', ⟨x, y, s⟩, c)) (hl : M.length ≤ 64) :
    Calls Try.prog 12 #[.pointer (some ⟨r, 0, none⟩), .int .i64 k] W fun e W' => e = .returned (.tuple #[.agg #[.int .i64 x, .int .i64 y, .string s], .int .i64 c]) ∧ Two 52 28 w0 W' g r L M' P ∧ Keep P W W' := by
  have := rtake2 h k hl
  rw [hs] at this
  exact this
theorem copy2_k (h : Two 52 28 w0 W g r L M P) (k : Int) (L' : List S31) (c : Int) (hs : copyF L k = (L', c)) (hl : L.length ≤ 64) :
    Calls Try.prog 13 #[.pointer (some ⟨g, 0, none⟩), .int .i64 k] W fun e W' => e = .returned (.int .i64 c) ∧ Two 52 28 w0 W' g r L' M P ∧ Keep P W W' := by
  have := copy2 h (by decide) k hl
  rw [hs] at this
  exact this
theorem rcopy2_k (h : Two 52 28 w0 W g r L M P) (k : Int) (M' : List S31) (c : Int) (hs : copyF M k = (M', c)) :
    Calls Try.prog 14 #[.pointer (some ⟨r, 0, none⟩), .int .i64 k] W fun e W' => e = .returned (.int .i64 c) ∧ Two 52 28 w0 W' g r L M' P ∧ Keep P W W' := by
  have := rcopy2 h k
  rw [hs] at this
  exact this
end calls

theorem keep3 {W W' : World} {P : Nat → Prop} {b : Nat} {x y z : Value} (h : W.cell? ⟨b, 0, none⟩ = some x ∧ W.cell? ⟨b, 1, none⟩ = some y ∧ W.cell? ⟨b, 2, none⟩ = some z) (hk : Keep P W W') (hP : P b) :
    W'.cell? ⟨b, 0, none⟩ = some x ∧ W'.cell? ⟨b, 1, none⟩ = some y ∧ W'.cell? ⟨b, 2, none⟩ = some z := ⟨hk.cell hP h.1, hk.cell hP h.2.1, hk.cell hP h.2.2⟩
theorem keep3b {W W' : World} {b : Nat} {x y z : Value} (h : W.cell? ⟨b, 0, none⟩ = some x ∧ W.cell? ⟨b, 1, none⟩ = some y ∧ W.cell? ⟨b, 2, none⟩ = some z) (hb : Below W.heap.size W W') :
    W'.cell? ⟨b, 0, none⟩ = some x ∧ W'.cell? ⟨b, 1, none⟩ = some y ∧ W'.cell? ⟨b, 2, none⟩ = some z := ⟨pw_cell_below hb h.1, pw_cell_below hb h.2.1, pw_cell_below hb h.2.2⟩

/-- What holds at a round's head of Nets. -/
def NetsAt (w : World) (zs : List Int) (g r gk : Nat) (i : Value) (wr : World) : Prop :=
  ∃ (k : Nat) (L : List S31), i = .int .i64 k ∧ k ≤ zs.length ∧ k + gk = 100 ∧ L.length ≤ 64 ∧ Two 52 28 w wr g r L L (fun _ => False)

attribute [local go_sem high] eqA31
set_option maxHeartbeats 8000000 in
set_option maxRecDepth 100000 in
theorem nets_walk (A0 : Option Addr) (l : List S31) (cap : Nat) (A1 : Option Addr) (zs : List Int) (cap1 : Nat) (w : World) (hr : Kd.C k31 w A0 l.length l) (hz : ReadsInt w .i64 A1 zs.length zs) :
    Calls Try.prog 3 #[.slice A0 l.length cap, .slice A1 zs.length cap1] w fun e w' => e = .returned (.bool true) ∧ Below w.heap.size w w' := by
  replace hr := Aside0.mk hr
  replace hz := Aside0.mk hz
  go_enter Try.func3, Try.ntmps3
  go_wp2_with (go_at_call 7; (with_reducible refine (new_calls _).mono ?_); rintro e w1 ⟨rfl, rfl⟩)
  have hT : Two 52 28 w ((w.alloc (.cells #[.slice none 0 0] 52)).alloc (.cells #[.slice none 0 0] 28)) w.heap.size (w.heap.size + 1) [] [] (fun _ => False) := by
    have := Two.new (T2 := 28) (One.new (T := 52) (P := fun _ => False) (Below.refl w.heap.size w) (fun _ h => h.elim))
    rwa [show (w.alloc (.cells #[.slice none 0 0] 52)).heap.size = w.heap.size + 1 by simp] at this
  generalize (w.alloc (.cells #[.slice none 0 0] 52)).alloc (.cells #[.slice none 0 0] 28) = W at *
  obtain ⟨ga, hga⟩ : ∃ ga, ga = w.heap.size := ⟨_, rfl⟩
  obtain ⟨gb, hgb⟩ : ∃ gb, gb = w.heap.size + 1 := ⟨_, rfl⟩
  rw [← hgb, ← hga] at hT ⊢
  clear hgb hga
  have hstart : Aside0 (NetsAt w zs ga gb 100 (.int .i64 0) W) := ⟨0, [], rfl, by omega, by omega, by simp, hT⟩
  clear hT
  go_loopg [7] 100 (fun gk i wr => NetsAt w zs ga gb gk i wr)
  case atStart => exact hstart.out
  case round =>
    clear hstart
    obtain ⟨k, L, rfl, hk, hk100, hlL, hT⟩ := hrel
    by_cases hlt : k < zs.length
    · by_cases h100 : k < 100
      · have d1 : decide ((k : Int) < (zs.length : Int)) = true := decide_eq_true (by omega)
        have d2 : decide ((k : Int) < 100) = true := decide_eq_true (by omega)
        have k0 : (0 : Int) ≤ (k : Int) := by omega
        have k1 : (k : Int) < (zs.length : Int) := by omega
        have kw : IntKind.i64.wrap ((k : Int) + 1) = ((k + 1 : Nat) : Int) := by rw [IntKind.wrap_i64]; omega
        obtain ⟨gk', rfl⟩ : ∃ gk', gk = gk' + 1 := ⟨gk - 1, by omega⟩
        obtain ⟨ad, rfl, hcell⟩ := (hz.out.below hT.base).at_ (k : Int) k0 k1
        rw [Int.toNat_natCast] at hcell
        have hlt3 : (ad.add k).block < wr.heap.size := World.block_lt_of_cell? _ _ hcell
        replace hlL := Aside0.mk hlL
        generalize rd zs (k : Int) = z at *
        obtain ⟨kk, hkk⟩ : ∃ kk, IntKind.i64.wrap (Go.bits .and .i64 (z / 4) 127 - 8) = kk := ⟨_, rfl⟩
        obtain ⟨q, hq⟩ : ∃ q, Go.bits .and .i64 z 3 = q := ⟨_, rfl⟩
        have hq4 : q = 0 ∨ q = 1 ∨ q = 2 ∨ q = 3 := by rw [and3] at hq; omega
        replace hT := Aside0.mk hT
        rcases hq4 with rfl | rfl | rfl | rfl
        · by_cases hl0 : l.length = 0
          · have e0 : (0 < l.length) = False := eq_false (by omega)
            replace hl0 := Aside0.mk hl0
            go_wp2_with fail
            have hX := Box.new wr 1 2 ⟨#[122]⟩
            replace hT := Aside0.mk (hT.out.alloc (.cells #[.int .i64 1, .int .i64 2, .string ⟨#[122]⟩] 31))
            generalize wr.alloc (.cells #[.int .i64 1, .int .i64 2, .string ⟨#[122]⟩] 31) = Wb at *
            obtain ⟨L', x, es⟩ : ∃ L' x, sendF L ⟨1, 2, ⟨#[122]⟩⟩ = (L', x) := ⟨_, _, rfl⟩
            have hl64 : Aside0 (L'.length ≤ 64) := ⟨by have := sendF_len L ⟨1, 2, ⟨#[122]⟩⟩ hlL.out; rw [es] at this; exact this⟩
            replace es := Aside0.mk es
            have p0 := hX.c0
            have p1 := hX.c1
            have p2 := hX.c2
            clear hX
            go_region_held3 (fun W => W.cell? ⟨wr.heap.size, 0, none⟩ = some (.int .i64 (1)) ∧ W.cell? ⟨wr.heap.size, 1, none⟩ = some (.int .i64 (2)) ∧ W.cell? ⟨wr.heap.size, 2, none⟩ = some (.string (⟨#[122]⟩)))
              (first | exact keep3 (by assumption) hkp (.inr rfl) | exact keep3b (by assumption) hb1 | exact keep3b ⟨p0, p1, p2⟩ (below_drew (Below.refl _ _)) | exact ⟨p0, p1, p2⟩)
              (first
                | (go_at_call 9; (with_reducible refine (send2_k (hT.out.below (below_drew (Below.refl _ _))) (by decide) (1) (2) (⟨#[122]⟩) L' x es.out hlL.out).mono ?_); rintro e w4 ⟨rfl, hT2, hkp⟩; clear hT; have hT := Aside0.mk hT2; clear hT2)
                | (go_at_call 8; (with_reducible refine (num_below x _).mono ?_); rintro e w5 ⟨rfl, hb1⟩; have hT2 := Aside0.mk (hT.out.below hb1); clear hT; have hT := hT2; clear hT2)
                | (go_at_call 10; (with_reducible refine (rsend2_k hT.out (1) (2) (⟨#[122]⟩) L' x es.out).mono ?_); clear hkp; rintro e w6 ⟨rfl, hT2, hkp⟩; clear hT; have hT := Aside0.mk hT2; clear hT2))
            rename_i hHeld
            clear hHeld p0 p1 p2 hb1 hkp
            go_wp2_with (first
              | (go_at_call 15; (with_reducible refine (all2_k hT.out L'.length rfl hl64.out).mono ?_); rintro e w6 ⟨A, c, rfl, hc, hR, hb1⟩; have hT2 := hT.out.below hb1; obtain ⟨A2, c2, p0, hc2, hC2⟩ := hT2.row2; replace hR := Aside0.mk hR; replace hb1 := Aside0.mk hb1; replace hC2 := Aside0.mk hC2; replace hc := Aside0.mk hc; replace hc2 := Aside0.mk hc2; clear hT2)
              | (go_at_call 16; (with_reducible refine (same_true (L := L') (Kd.R_reads' hR.out).2.2 hc.out hC2.out hc2.out hl64.out).mono ?_); rintro e w7 ⟨rfl, hb2⟩; have hR2 := Aside0.mk (Kd.R_below hR.out hb2); have hb3 := Aside0.mk (below_step hb1.out hb2 hb1.out.size); clear hR hb1 hb2 p0 hC2)
              | (go_at_call 17; (with_reducible refine (spoil_calls hb3.out hR2.out hl64.out).mono ?_); rintro e w8 ⟨rfl, hb4⟩; have hT2 := Aside0.mk (hT.out.below hb4); clear hT hb3 hR2 hb4 hc hc2; have hT := hT2; clear hT2))
            go_roundg gk'
            case measure => exact Nat.lt_succ_self _
            case rel => exact ⟨k + 1, L', rfl, by omega, by omega, hl64.out, hT.out.mono (fun _ h => h.elim)⟩
          · have e0 : decide ((0 : Int) < (l.length : Int)) = true := decide_eq_true (by omega)
            have e1 : ((l.length : Int) == 0) = false := beq_eq_false_iff_ne.mpr (by omega)
            obtain ⟨j, hj, hj1⟩ : ∃ j : Nat, (k : Int).tmod (l.length : Int) = (j : Int) ∧ j < l.length := ⟨k % l.length, by rw [Int.tmod_eq_emod_of_nonneg (by omega)]; omega, Nat.mod_lt _ (by omega)⟩
            have j0 : (0 : Int) ≤ (j : Int) := by omega
            have j1 : (j : Int) < (l.length : Int) := by omega
            obtain ⟨ad2, rfl, c0, c1, c2⟩ := at_T31 (Kd.C_below hr.out hT.out.base) (j : Int) j0 j1
            rw [Int.toNat_natCast] at c0 c1 c2
            have hlt4 : (ad2.add (j * 3)).block < wr.heap.size := World.block_lt_of_cell? _ _ c0
            generalize rd_T31 l (j : Int) = m at *
            have hX0 := Box.new wr 1 2 ⟨#[122]⟩
            have f0 := hX0.free 0
            have f1 := hX0.free 1
            have f2 := hX0.free 2
            replace hX0 := Aside0.mk hX0
            go_wp2_with fail
            have hX := Box.new wr m.f0 m.f1 m.f2
            replace hT := Aside0.mk (hT.out.alloc (.cells #[.int .i64 m.f0, .int .i64 m.f1, .string m.f2] 31))
            clear hX0 f0 f1 f2
            generalize wr.alloc (.cells #[.int .i64 m.f0, .int .i64 m.f1, .string m.f2] 31) = Wb at *
            obtain ⟨L', x, es⟩ : ∃ L' x, sendF L ⟨m.f0, m.f1, m.f2⟩ = (L', x) := ⟨_, _, rfl⟩
            have hl64 : Aside0 (L'.length ≤ 64) := ⟨by have := sendF_len L ⟨m.f0, m.f1, m.f2⟩ hlL.out; rw [es] at this; exact this⟩
            replace es := Aside0.mk es
            have p0 := hX.c0
            have p1 := hX.c1
            have p2 := hX.c2
            clear hX
            go_region_held3 (fun W => W.cell? ⟨wr.heap.size, 0, none⟩ = some (.int .i64 (m.f0)) ∧ W.cell? ⟨wr.heap.size, 1, none⟩ = some (.int .i64 (m.f1)) ∧ W.cell? ⟨wr.heap.size, 2, none⟩ = some (.string (m.f2)))
              (first | exact keep3 (by assumption) hkp (.inr rfl) | exact keep3b (by assumption) hb1 | exact keep3b ⟨p0, p1, p2⟩ (below_drew (Below.refl _ _)) | exact ⟨p0, p1, p2⟩)
              (first
                | (go_at_call 9; (with_reducible refine (send2_k (hT.out.below (below_drew (Below.refl _ _))) (by decide) (m.f0) (m.f1) (m.f2) L' x es.out hlL.out).mono ?_); rintro e w4 ⟨rfl, hT2, hkp⟩; clear hT; have hT := Aside0.mk hT2; clear hT2)
                | (go_at_call 8; (with_reducible refine (num_below x _).mono ?_); rintro e w5 ⟨rfl, hb1⟩; have hT2 := Aside0.mk (hT.out.below hb1); clear hT; have hT := hT2; clear hT2)
                | (go_at_call 10; (with_reducible refine (rsend2_k hT.out (m.f0) (m.f1) (m.f2) L' x es.out).mono ?_); clear hkp; rintro e w6 ⟨rfl, hT2, hkp⟩; clear hT; have hT := Aside0.mk hT2; clear hT2))
            rename_i hHeld
            clear hHeld p0 p1 p2 hb1 hkp
            go_wp2_with (first
              | (go_at_call 15; (with_reducible refine (all2_k hT.out L'.length rfl hl64.out).mono ?_); rintro e w6 ⟨A, c, rfl, hc, hR, hb1⟩; have hT2 := hT.out.below hb1; obtain ⟨A2, c2, p0, hc2, hC2⟩ := hT2.row2; replace hR := Aside0.mk hR; replace hb1 := Aside0.mk hb1; replace hC2 := Aside0.mk hC2; replace hc := Aside0.mk hc; replace hc2 := Aside0.mk hc2; clear hT2)
              | (go_at_call 16; (with_reducible refine (same_true (L := L') (Kd.R_reads' hR.out).2.2 hc.out hC2.out hc2.out hl64.out).mono ?_); rintro e w7 ⟨rfl, hb2⟩; have hR2 := Aside0.mk (Kd.R_below hR.out hb2); have hb3 := Aside0.mk (below_step hb1.out hb2 hb1.out.size); clear hR hb1 hb2 p0 hC2)
              | (go_at_call 17; (with_reducible refine (spoil_calls hb3.out hR2.out hl64.out).mono ?_); rintro e w8 ⟨rfl, hb4⟩; have hT2 := Aside0.mk (hT.out.below hb4); clear hT hb3 hR2 hb4 hc hc2; have hT := hT2; clear hT2))
            go_roundg gk'
            case measure => exact Nat.lt_succ_self _
            case rel => exact ⟨k + 1, L', rfl, by omega, by omega, hl64.out, hT.out.mono (fun _ h => h.elim)⟩
        · by_cases hl0 : l.length = 0
          · have e0 : (0 < l.length) = False := eq_false (by omega)
            replace hl0 := Aside0.mk hl0
            go_wp2_with fail
            have hX := Box.new wr 1 2 ⟨#[122]⟩
            replace hT := Aside0.mk (hT.out.alloc (.cells #[.int .i64 1, .int .i64 2, .string ⟨#[122]⟩] 31))
            generalize wr.alloc (.cells #[.int .i64 1, .int .i64 2, .string ⟨#[122]⟩] 31) = Wb at *
            obtain ⟨L', x, es⟩ : ∃ L' x, sendF L ⟨1, 2, ⟨#[122]⟩⟩ = (L', x) := ⟨_, _, rfl⟩
            have hl64 : Aside0 (L'.length ≤ 64) := ⟨by have := sendF_len L ⟨1, 2, ⟨#[122]⟩⟩ hlL.out; rw [es] at this; exact this⟩
            replace es := Aside0.mk es
            have p0 := hX.c0
            have p1 := hX.c1
            have p2 := hX.c2
            clear hX
            go_region_held3 (fun W => W.cell? ⟨wr.heap.size, 0, none⟩ = some (.int .i64 (1)) ∧ W.cell? ⟨wr.heap.size, 1, none⟩ = some (.int .i64 (2)) ∧ W.cell? ⟨wr.heap.size, 2, none⟩ = some (.string (⟨#[122]⟩)))
              (first | exact keep3 (by assumption) hkp (.inr rfl) | exact keep3b (by assumption) hb1 | exact keep3b ⟨p0, p1, p2⟩ (below_drew (Below.refl _ _)) | exact ⟨p0, p1, p2⟩)
              (first
                | (go_at_call 9; (with_reducible refine (send2_k (hT.out.below (below_drew (Below.refl _ _))) (by decide) (1) (2) (⟨#[122]⟩) L' x es.out hlL.out).mono ?_); rintro e w4 ⟨rfl, hT2, hkp⟩; clear hT; have hT := Aside0.mk hT2; clear hT2)
                | (go_at_call 8; (with_reducible refine (num_below x _).mono ?_); rintro e w5 ⟨rfl, hb1⟩; have hT2 := Aside0.mk (hT.out.below hb1); clear hT; have hT := hT2; clear hT2)
                | (go_at_call 10; (with_reducible refine (rsend2_k hT.out (1) (2) (⟨#[122]⟩) L' x es.out).mono ?_); clear hkp; rintro e w6 ⟨rfl, hT2, hkp⟩; clear hT; have hT := Aside0.mk hT2; clear hT2))
            rename_i hHeld
            clear hHeld p0 p1 p2 hb1 hkp
            go_wp2_with (first
              | (go_at_call 15; (with_reducible refine (all2_k hT.out L'.length rfl hl64.out).mono ?_); rintro e w6 ⟨A, c, rfl, hc, hR, hb1⟩; have hT2 := hT.out.below hb1; obtain ⟨A2, c2, p0, hc2, hC2⟩ := hT2.row2; replace hR := Aside0.mk hR; replace hb1 := Aside0.mk hb1; replace hC2 := Aside0.mk hC2; replace hc := Aside0.mk hc; replace hc2 := Aside0.mk hc2; clear hT2)
              | (go_at_call 16; (with_reducible refine (same_true (L := L') (Kd.R_reads' hR.out).2.2 hc.out hC2.out hc2.out hl64.out).mono ?_); rintro e w7 ⟨rfl, hb2⟩; have hR2 := Aside0.mk (Kd.R_below hR.out hb2); have hb3 := Aside0.mk (below_step hb1.out hb2 hb1.out.size); clear hR hb1 hb2 p0 hC2)
              | (go_at_call 17; (with_reducible refine (spoil_calls hb3.out hR2.out hl64.out).mono ?_); rintro e w8 ⟨rfl, hb4⟩; have hT2 := Aside0.mk (hT.out.below hb4); clear hT hb3 hR2 hb4 hc hc2; have hT := hT2; clear hT2))
            go_roundg gk'
            case measure => exact Nat.lt_succ_self _
            case rel => exact ⟨k + 1, L', rfl, by omega, by omega, hl64.out, hT.out.mono (fun _ h => h.elim)⟩
          · have e0 : decide ((0 : Int) < (l.length : Int)) = true := decide_eq_true (by omega)
            have e1 : ((l.length : Int) == 0) = false := beq_eq_false_iff_ne.mpr (by omega)
            obtain ⟨j, hj, hj1⟩ : ∃ j : Nat, (k : Int).tmod (l.length : Int) = (j : Int) ∧ j < l.length := ⟨k % l.length, by rw [Int.tmod_eq_emod_of_nonneg (by omega)]; omega, Nat.mod_lt _ (by omega)⟩
            have j0 : (0 : Int) ≤ (j : Int) := by omega
            have j1 : (j : Int) < (l.length : Int) := by omega
            obtain ⟨ad2, rfl, c0, c1, c2⟩ := at_T31 (Kd.C_below hr.out hT.out.base) (j : Int) j0 j1
            rw [Int.toNat_natCast] at c0 c1 c2
            have hlt4 : (ad2.add (j * 3)).block < wr.heap.size := World.block_lt_of_cell? _ _ c0
            generalize rd_T31 l (j : Int) = m at *
            have hX0 := Box.new wr 1 2 ⟨#[122]⟩
            have f0 := hX0.free 0
            have f1 := hX0.free 1
            have f2 := hX0.free 2
            replace hX0 := Aside0.mk hX0
            go_wp2_with fail
            have hX := Box.new wr m.f0 m.f1 m.f2
            replace hT := Aside0.mk (hT.out.alloc (.cells #[.int .i64 m.f0, .int .i64 m.f1, .string m.f2] 31))
            clear hX0 f0 f1 f2
            generalize wr.alloc (.cells #[.int .i64 m.f0, .int .i64 m.f1, .string m.f2] 31) = Wb at *
            obtain ⟨L', x, es⟩ : ∃ L' x, sendF L ⟨m.f0, m.f1, m.f2⟩ = (L', x) := ⟨_, _, rfl⟩
            have hl64 : Aside0 (L'.length ≤ 64) := ⟨by have := sendF_len L ⟨m.f0, m.f1, m.f2⟩ hlL.out; rw [es] at this; exact this⟩
            replace es := Aside0.mk es
            have p0 := hX.c0
            have p1 := hX.c1
            have p2 := hX.c2
            clear hX
            go_region_held3 (fun W => W.cell? ⟨wr.heap.size, 0, none⟩ = some (.int .i64 (m.f0)) ∧ W.cell? ⟨wr.heap.size, 1, none⟩ = some (.int .i64 (m.f1)) ∧ W.cell? ⟨wr.heap.size, 2, none⟩ = some (.string (m.f2)))
              (first | exact keep3 (by assumption) hkp (.inr rfl) | exact keep3b (by assumption) hb1 | exact keep3b ⟨p0, p1, p2⟩ (below_drew (Below.refl _ _)) | exact ⟨p0, p1, p2⟩)
              (first
                | (go_at_call 9; (with_reducible refine (send2_k (hT.out.below (below_drew (Below.refl _ _))) (by decide) (m.f0) (m.f1) (m.f2) L' x es.out hlL.out).mono ?_); rintro e w4 ⟨rfl, hT2, hkp⟩; clear hT; have hT := Aside0.mk hT2; clear hT2)
                | (go_at_call 8; (with_reducible refine (num_below x _).mono ?_); rintro e w5 ⟨rfl, hb1⟩; have hT2 := Aside0.mk (hT.out.below hb1); clear hT; have hT := hT2; clear hT2)
                | (go_at_call 10; (with_reducible refine (rsend2_k hT.out (m.f0) (m.f1) (m.f2) L' x es.out).mono ?_); clear hkp; rintro e w6 ⟨rfl, hT2, hkp⟩; clear hT; have hT := Aside0.mk hT2; clear hT2))
            rename_i hHeld
            clear hHeld p0 p1 p2 hb1 hkp
            go_wp2_with (first
              | (go_at_call 15; (with_reducible refine (all2_k hT.out L'.length rfl hl64.out).mono ?_); rintro e w6 ⟨A, c, rfl, hc, hR, hb1⟩; have hT2 := hT.out.below hb1; obtain ⟨A2, c2, p0, hc2, hC2⟩ := hT2.row2; replace hR := Aside0.mk hR; replace hb1 := Aside0.mk hb1; replace hC2 := Aside0.mk hC2; replace hc := Aside0.mk hc; replace hc2 := Aside0.mk hc2; clear hT2)
              | (go_at_call 16; (with_reducible refine (same_true (L := L') (Kd.R_reads' hR.out).2.2 hc.out hC2.out hc2.out hl64.out).mono ?_); rintro e w7 ⟨rfl, hb2⟩; have hR2 := Aside0.mk (Kd.R_below hR.out hb2); have hb3 := Aside0.mk (below_step hb1.out hb2 hb1.out.size); clear hR hb1 hb2 p0 hC2)
              | (go_at_call 17; (with_reducible refine (spoil_calls hb3.out hR2.out hl64.out).mono ?_); rintro e w8 ⟨rfl, hb4⟩; have hT2 := Aside0.mk (hT.out.below hb4); clear hT hb3 hR2 hb4 hc hc2; have hT := hT2; clear hT2))
            go_roundg gk'
            case measure => exact Nat.lt_succ_self _
            case rel => exact ⟨k + 1, L', rfl, by omega, by omega, hl64.out, hT.out.mono (fun _ h => h.elim)⟩
        · obtain ⟨L', ⟨x, y, s⟩, c, es⟩ : ∃ L' m c, takeF L kk = (L', m, c) := ⟨_, _, _, rfl⟩
          have hl64 : Aside0 (L'.length ≤ 64) := ⟨by have := takeF_len L kk hlL.out; rw [es] at this; exact this⟩
          replace es := Aside0.mk es
          go_wp2_with (first
            | (go_at_call 11; (with_reducible refine (take2_k hT.out kk L' x y s c es.out hlL.out).mono ?_); rintro e w4 ⟨rfl, hT2, hkp⟩; have hX := Box.new w4 x y s; clear hT hkp; have hT := Aside0.mk (hT2.alloc (.cells #[.int .i64 x, .int .i64 y, .string s] 31)); clear hT2)
            | (go_at_call 12; (with_reducible refine (rtake2_k hT.out kk L' x y s c es.out hlL.out).mono ?_); rintro e w5 ⟨rfl, hT2, hkp⟩; replace hX := hX.keep hkp (.inr rfl); have c0 := hX.c0; have c1 := hX.c1; have c2 := hX.c2; have hz5 := hX.lt; clear hT hkp hX; have hT := Aside0.mk (hT2.alloc (.cells #[.int .i64 x, .int .i64 y, .string s] 31)); clear hT2)
            | (go_at_call 8; (with_reducible refine (num_below _ _).mono ?_); rintro e wn ⟨rfl, hb0⟩; have hT2 := Aside0.mk (hT.out.below hb0); clear hT hb0 c0 c1 c2 hz5; have hT := hT2; clear hT2)
            | (go_at_call 15; (with_reducible refine (all2_k hT.out L'.length rfl hl64.out).mono ?_); rintro e w6 ⟨A, c, rfl, hc, hR, hb1⟩; have hT2 := hT.out.below hb1; obtain ⟨A2, c2, p0, hc2, hC2⟩ := hT2.row2; replace hR := Aside0.mk hR; replace hb1 := Aside0.mk hb1; replace hC2 := Aside0.mk hC2; replace hc := Aside0.mk hc; replace hc2 := Aside0.mk hc2; clear hT2)
            | (go_at_call 16; (with_reducible refine (same_true (L := L') (Kd.R_reads' hR.out).2.2 hc.out hC2.out hc2.out hl64.out).mono ?_); rintro e w7 ⟨rfl, hb2⟩; have hR2 := Aside0.mk (Kd.R_below hR.out hb2); have hb3 := Aside0.mk (below_step hb1.out hb2 hb1.out.size); clear hR hb1 hb2 p0 hC2)
            | (go_at_call 17; (with_reducible refine (spoil_calls hb3.out hR2.out hl64.out).mono ?_); rintro e w8 ⟨rfl, hb4⟩; have hT2 := Aside0.mk (hT.out.below hb4); clear hT hb3 hR2 hb4 hc hc2; have hT := hT2; clear hT2))
          go_roundg gk'
          case measure => exact Nat.lt_succ_self _
          case rel => exact ⟨k + 1, L', rfl, by omega, by omega, hl64.out, hT.out.mono (fun _ h => h.elim)⟩
        · obtain ⟨L', c, es⟩ : ∃ L' c, copyF L kk = (L', c) := ⟨_, _, rfl⟩
          have hl64 : Aside0 (L'.length ≤ 64) := ⟨by have := copyF_len L kk hlL.out; rw [es] at this; exact this⟩
          replace es := Aside0.mk es
          go_wp2_with (first
            | (go_at_call 13; (with_reducible refine (copy2_k hT.out kk L' c es.out hlL.out).mono ?_); rintro e w4 ⟨rfl, hT2, hkp⟩; clear hT hkp; have hT := Aside0.mk hT2; clear hT2)
            | (go_at_call 14; (with_reducible refine (rcopy2_k hT.out kk L' c es.out).mono ?_); rintro e w5 ⟨rfl, hT2, hkp⟩; clear hT hkp; have hT := Aside0.mk hT2; clear hT2)
            | (go_at_call 8; (with_reducible refine (num_below _ _).mono ?_); rintro e wn ⟨rfl, hb0⟩; have hT2 := Aside0.mk (hT.out.below hb0); clear hT hb0; have hT := hT2; clear hT2)
            | (go_at_call 15; (with_reducible refine (all2_k hT.out L'.length rfl hl64.out).mono ?_); rintro e w6 ⟨A, c, rfl, hc, hR, hb1⟩; have hT2 := hT.out.below hb1; obtain ⟨A2, c2, p0, hc2, hC2⟩ := hT2.row2; replace hR := Aside0.mk hR; replace hb1 := Aside0.mk hb1; replace hC2 := Aside0.mk hC2; replace hc := Aside0.mk hc; replace hc2 := Aside0.mk hc2; clear hT2)
            | (go_at_call 16; (with_reducible refine (same_true (L := L') (Kd.R_reads' hR.out).2.2 hc.out hC2.out hc2.out hl64.out).mono ?_); rintro e w7 ⟨rfl, hb2⟩; have hR2 := Aside0.mk (Kd.R_below hR.out hb2); have hb3 := Aside0.mk (below_step hb1.out hb2 hb1.out.size); clear hR hb1 hb2 p0 hC2)
            | (go_at_call 17; (with_reducible refine (spoil_calls hb3.out hR2.out hl64.out).mono ?_); rintro e w8 ⟨rfl, hb4⟩; have hT2 := Aside0.mk (hT.out.below hb4); clear hT hb3 hR2 hb4 hc hc2; have hT := hT2; clear hT2))
          go_roundg gk'
          case measure => exact Nat.lt_succ_self _
          case rel => exact ⟨k + 1, L', rfl, by omega, by omega, hl64.out, hT.out.mono (fun _ h => h.elim)⟩
      · have d1 : decide ((k : Int) < (zs.length : Int)) = true := decide_eq_true (by omega)
        have d2 : decide ((k : Int) < 100) = false := decide_eq_false (by omega)
        replace hT := Aside0.mk hT
        go_wp2_with (go_at_call 18; (with_reducible refine (awake_calls _).mono ?_); rintro e w9 ⟨rfl, hb1⟩; have HB := Aside0.mk (below_step hT.out.base hb1 hT.out.base.size); clear hT hb1)
        go_ret
        exact ⟨rfl, HB.out⟩
    · have d1 : decide ((k : Int) < (zs.length : Int)) = false := decide_eq_false (by omega)
      replace hT := Aside0.mk hT
      go_wp2_with (go_at_call 18; (with_reducible refine (awake_calls _).mono ?_); rintro e w9 ⟨rfl, hb1⟩; have HB := Aside0.mk (below_step hT.out.base hb1 hT.out.base.size); clear hT hb1)
      go_ret
      exact ⟨rfl, HB.out⟩

theorem nets_row (a0 : Option Addr) (l0 : List S31) (cap0 : Nat) (a : Option Addr) (len cap : Nat) (zs : List Int) (W : World) (h0 : Kd.C k31 W a0 l0.length l0) (h : (a = none ∧ len = 0 ∧ cap = 0 ∧ zs = []) ∨ ∃ x, a = some x ∧ len ≤ cap ∧ cap ≤ maxLen ∧ zs.length = cap ∧ (∀ i, i < zs.length → W.cell? (x.add i) = some (.int .i64 (zs.getD i 0))) ∧ ∀ n ∈ zs, (Lit.int .i64 n).wf = true) (_y : len * 8 ≤ 140737488351232) :
    Calls Try.prog 3 #[.slice a0 l0.length cap0, .slice a len cap] W fun e w' => e = .returned (.bool true) ∧ Below W.heap.size W w' := by
  obtain ⟨l, rfl, hr, -, -, -⟩ := ReadsInt.ofRowC h
  exact nets_walk a0 l0 cap0 a l cap W h0 hr

end Go.Proofs.Ytecagknnkbolgaa.NetW
