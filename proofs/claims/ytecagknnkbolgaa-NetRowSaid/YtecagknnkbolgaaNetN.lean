/- NetRow's code, step by step: a net beside a row that the law keeps by hand. -/
import Derived.Test.YtecagknnkbolgaaNetM
namespace Go.Proofs.Ytecagknnkbolgaa.NetW
open Go.RowKit Go.Proofs.YtecagknnkbolgaaW.PrintWords Go.Proofs.YtecagknnkbolgaaW.PrintLast Go.Proofs.YtecagknnkbolgaaW.PrintMore Go.Proofs.Ytecagknnkbolgaa.PNets Go.Proofs.Ytecagknnkbolgaa.Byt

theorem R_keep {W W' : World} {base : Nat} {v : Value} {L : List S31} {P : Nat → Prop} (h : Kd.R k31 31 W base (fun _ => True) v L) (hk : Keep P W W') (hP : ∀ b, v.ownBlock = some b → P b) : Kd.R k31 31 W' base (fun _ => True) v L :=
  Kd.R_mono (Kd.R_step (Kd.R_tight rfl h) (fun k ho _ => hk.2 k (hP k ho.symm))) (fun _ _ => trivial)
theorem One.base {T : Nat} {w0 W : World} {g : Nat} {L : List S31} {P : Nat → Prop} (h : One T w0 W g L P) : Below w0.heap.size w0 W := by
  obtain ⟨v, h1, h2, h3⟩ := h
  exact h2
theorem One.grown {T : Nat} {w0 W w1 : World} {g : Nat} {L : List S31} {P : Nat → Prop} {v v1 : Value} (h : One T w0 W g L P) (hg : W.grownBy w1 v.ownBlock) (hB : Below w0.heap.size w0 w1) (hP : ∀ b, v.ownBlock = some b → P b)
    (hat : v1.ownBlock = v.ownBlock ∨ ∃ b, v1.ownBlock = some b ∧ W.heap.size ≤ b) (hlt : ∀ b, v1.ownBlock = some b → b < w1.heap.size) : One T w0 w1 g L (fun b => v1.ownBlock = some b) := by
  obtain ⟨u, h1, h2, h3⟩ := h
  have hk : Kept W w1 (fun k => v.ownBlock = some k) := Kept.of_grown hg (Kept.refl W _) (fun k e => .inl e)
  refine ⟨u, h1.kept hk (fun e => (h3 g (hP g e)).2.1 rfl) (fun b e e' => (h3 b (hP b e')).2.2 e), hB, fun k hk' => ⟨hlt k hk', ?_⟩⟩
  rcases hat with e | ⟨b, e, hb⟩
  · rw [e] at hk'
    exact (h3 k (hP k hk')).2
  · rw [e] at hk'
    obtain rfl := Option.some.inj hk'
    refine ⟨by have := h1.inside; omega, fun e' => ?_⟩
    have := Kd.R_lt h1.row _ e'
    omega
theorem One.fresh {T : Nat} {w0 W w2 : World} {g : Nat} {L : List S31} {P : Nat → Prop} {v2 : Value} (h : One T w0 W g L P) (hb : Below W.heap.size W w2) (hf : ∀ b, v2.ownBlock = some b → W.heap.size ≤ b ∧ b < w2.heap.size) : One T w0 w2 g L (fun b => v2.ownBlock = some b) := by
  obtain ⟨u, h1, h2, h3⟩ := h
  refine ⟨u, h1.below hb, below_step h2 hb h2.size, fun k hk => ⟨(hf k hk).2, ?_, fun e => ?_⟩⟩
  · have := h1.inside
    have := (hf k hk).1
    omega
  · have := Kd.R_lt h1.row _ e
    have := (hf k hk).1
    omega
theorem and63 (n : Int) : Go.bits .and .i64 n 63 = n % 64 := by
  have h0 : (BitVec.ofInt 64 63).toNat = 2 ^ 6 - 1 := by decide
  have key : (BitVec.ofInt 64 n &&& BitVec.ofInt 64 63).toNat = (n % ((2 ^ 64 : Nat) : Int)).toNat % 2 ^ 6 := by
    rw [BitVec.toNat_and, BitVec.toNat_ofInt, h0, Nat.and_two_pow_sub_one_eq_mod]
  show IntKind.i64.wrap ((BitVec.ofInt 64 n &&& BitVec.ofInt 64 63).toNat : Nat) = n % 64
  rw [key, IntKind.wrap_i64]
  omega
def byte1 (k : Nat) : ByteArray := ⟨#[UInt8.ofNat k]⟩
theorem cv1 (W : World) (k : Nat) (hk : k < 100) : (convert 47 9 (.slice (some ⟨W.heap.size, 0, none⟩) 1 1)).run Try.prog (W.alloc (.cells #[.int .u8 (k : Int)] 5)) = .ok (.string (byte1 k)) (W.alloc (.cells #[.int .u8 (k : Int)] 5)) :=
  (BB.alloc W #[.int .u8 (k : Int)] 5 [UInt8.ofNat k] (by simp) (fun j hj => by
    obtain rfl : j = 0 := by simp at hj; omega
    have : (UInt8.ofNat k).toNat = k := by rw [UInt8.toNat_ofNat']; omega
    simp [this])).string (P := Try.prog) 47 9 5 1 Try.underlying47 Try.underlying5 Try.underlying9
theorem may1 (k : Nat) : mayF ⟨1, 2, byte1 k⟩ = true := by
  unfold mayF byte1
  rw [decide_eq_true_eq]
  simp [ByteArray.size]
theorem send_over (L : List S31) (m : S31) (hm : mayF m = true) (hl : 64 ≤ L.length) : sendF L m = (L, 2401) := by
  unfold sendF
  rw [if_pos hm, if_pos hl]
theorem all_may {L : List S31} (h : ∀ m, m ∈ L → mayF m = true) {m : S31} (hm : mayF m = true) : ∀ x, x ∈ L ++ [m] → mayF x = true := fun x hx =>
  (List.mem_append.1 hx).elim (h x) (fun e => by rw [List.mem_singleton.1 e]; exact hm)

theorem sameX {w : World} {b0 b1 : Nat} {ok0 ok1 : Nat → Prop} {v0 v1 : Value} {L : List S31} (h0 : Kd.R k31 31 w b0 ok0 v0 L) (h1 : Kd.R k31 31 w b1 ok1 v1 L) (hl : L.length ≤ 64) :
    Calls Try.prog 16 #[v0, v1] w fun e w' => e = .returned (.bool true) ∧ Below w.heap.size w w' := by
  obtain ⟨A0, c0, rfl⟩ := Kd.R_slice h0
  obtain ⟨A1, c1, rfl⟩ := Kd.R_slice h1
  exact same_true (Kd.R_reads' h0).2.2 (Kd.R_reads' h0).2.1 (Kd.R_reads' h1).2.2 (Kd.R_reads' h1).2.1 hl

theorem rd_memI (L : List S31) (k : Int) (h0 : 0 ≤ k) (h : k < L.length) : rd_T31 L k ∈ L := by
  obtain ⟨n, rfl⟩ := Int.eq_ofNat_of_zero_le h0
  exact rd_mem L n (by omega)

/-- What holds at a round's head of NetRow. -/
def RowAt (w : World) (zs : List Int) (g gk : Nat) (v i : Value) (wr : World) : Prop :=
  ∃ (k : Nat) (L : List S31), i = .int .i64 k ∧ k ≤ zs.length ∧ k + gk = 100 ∧ L.length ≤ 64 ∧ (∀ m, m ∈ L → mayF m = true) ∧ Kd.R k31 31 wr w.heap.size (fun _ => True) v L ∧ One 52 w wr g L (fun b => v.ownBlock = some b)

attribute [local go_sem high] eqA31
set_option maxHeartbeats 8000000 in
set_option maxRecDepth 100000 in
theorem row_walk (A1 : Option Addr) (zs : List Int) (cap1 : Nat) (w : World) (hz : ReadsInt w .i64 A1 zs.length zs) :
    Calls Try.prog 4 #[.slice A1 zs.length cap1] w fun e w' => e = .returned (.bool true) ∧ Below w.heap.size w w' := by
  replace hz := Aside0.mk hz
  go_enter Try.func4, Try.ntmps4
  go_wp2_with (first
    | (go_at_call 18; (with_reducible refine (awake_calls _).mono ?_); rintro e w1 ⟨rfl, hb1⟩; have HB := Aside0.mk hb1; clear hb1)
    | (go_at_call 7; (with_reducible refine (new_calls _).mono ?_); rintro e w2 ⟨rfl, rfl⟩))
  have hS : One 52 w (w1.alloc (.cells #[.slice none 0 0] 52)) w1.heap.size [] (fun b => (Value.slice none 0 0).ownBlock = some b) := One.new HB.out (fun k h => by cases h)
  have hstart : Aside0 (RowAt w zs w1.heap.size 100 (.slice none 0 0) (.int .i64 0) (w1.alloc (.cells #[.slice none 0 0] 52))) := ⟨0, [], rfl, by omega, by omega, by simp, by simp, Kd.R_nil _ _ _ _ _, hS⟩
  clear HB hS
  generalize w1.alloc (.cells #[.slice none 0 0] 52) = W at *
  generalize w1.heap.size = g at *
  go_loopg [4, 5] 100 (fun gk v i wr => RowAt w zs g gk v i wr)
  case atStart => exact hstart.out
  case round =>
    clear hstart
    obtain ⟨k, L, rfl, hk, hk100, hlL, hM, hW, hS⟩ := hrel
    obtain ⟨A, c, rfl⟩ := Kd.R_slice hW
    by_cases hlt : k < zs.length
    · by_cases h100 : k < 100
      · have d1 : decide ((k : Int) < (zs.length : Int)) = true := decide_eq_true (by omega)
        have d2 : decide ((k : Int) < 100) = true := decide_eq_true (by omega)
        have k0 : (0 : Int) ≤ (k : Int) := by omega
        have k1 : (k : Int) < (zs.length : Int) := by omega
        have kw : IntKind.i64.wrap ((k : Int) + 1) = ((k + 1 : Nat) : Int) := by rw [IntKind.wrap_i64]; omega
        obtain ⟨gk', rfl⟩ : ∃ gk', gk = gk' + 1 := ⟨gk - 1, by omega⟩
        obtain ⟨ad, rfl, hcell⟩ := (hz.out.below hS.base).at_ (k : Int) k0 k1
        rw [Int.toNat_natCast] at hcell
        replace hlL := Aside0.mk hlL
        replace hM := Aside0.mk hM
        replace hW := Aside0.mk hW
        replace hS := Aside0.mk hS
        generalize rd zs (k : Int) = z at *
        obtain ⟨kk, hkk⟩ : ∃ kk, Go.bits .and .i64 (z / 4) 63 = kk := ⟨_, rfl⟩
        have hkk0 : 0 ≤ kk := by rw [and63] at hkk; omega
        obtain ⟨q, hq⟩ : ∃ q, Go.bits .and .i64 z 3 = q := ⟨_, rfl⟩
        have hq4 : q = 0 ∨ q = 1 ∨ q = 2 ∨ q = 3 := by rw [and3] at hq; omega
        have u8k : IntKind.u8.wrap (k : Int) = (k : Int) := by rw [IntKind.wrap_u8]; omega
        have hcv := cv1 wr k h100
        rcases hq4 with rfl | rfl | rfl | rfl
        · by_cases hl : L.length < 64
          · have d3 : decide ((L.length : Int) < 64) = true := decide_eq_true (by omega)
            have es := Aside0.mk (send_may L ⟨1, 2, byte1 k⟩ (may1 k) hl)
            have hl64 : Aside0 ((L ++ [⟨1, 2, byte1 k⟩] : List S31).length ≤ 64) := ⟨by simp; omega⟩
            go_wp2_with (first
              | (go_at_call 9; (with_reducible refine (send_k ((hS.out.alloc (.cells #[.int .u8 (k : Int)] 5)).alloc (.cells #[.int .i64 1, .int .i64 2, .string (byte1 k)] 31)) 1 2 (byte1 k) _ _ es.out hlL.out).mono ?_); rintro e w3 ⟨rfl, hS2, hkp⟩; have hX := (Box.new (wr.alloc (.cells #[.int .u8 (k : Int)] 5)) 1 2 (byte1 k)).keep hkp (.inr rfl); rw [show (wr.alloc (.cells #[.int .u8 (k : Int)] 5)).heap.size = wr.heap.size + 1 by simp] at hX; have hW2 := Aside0.mk (R_keep (Kd.R_alloc (Kd.R_alloc hW.out _) _) hkp (fun b h => .inl (.inl h))); clear hS hW hkp; have hS := Aside0.mk hS2; have hW := hW2; clear hS2 hW2; replace hX := Aside0.mk hX)
              | (go_at_call 8; (with_reducible refine (num_below _ _).mono ?_); rintro e wn ⟨rfl, hb0⟩; have hS2 := Aside0.mk (hS.out.below hb0); have hW2 := Aside0.mk (Kd.R_below hW.out hb0); clear hS hW; have hS := hS2; have hW := hW2; clear hS2 hW2; have hX2 := hX.out.below hb0; clear hX hb0; have c0 := hX2.c0; have c1 := hX2.c1; have c2 := hX2.c2; have hz5 := hX2.lt; clear hX2)
              | ((with_reducible refine gate_builtin (b := .append) (xs := #[.tmp 84, .tmp 86]) rfl ?_); at_builtin; refine Kd.R_append_rows k31 (w0 := w) w.heap.size rfl (.tmp 84) (.tmp 86) 22 31 (.agg #[.int .i64 0, .int .i64 0, .string ⟨#[]⟩]) 32 rfl Try.underlying22 info31m rfl (by decide) (by decide) (.slice A L.length c) L [⟨1, 2, byte1 k⟩] _ 1 1 (fun _ => True) (fun _ => False) rfl rfl (Kd.R_alloc hW.out _) (built1 _ 1 2 (byte1 k)) (fun x cs h => k31_KM x cs h) (fun _ hk => hk.elim) (fun _ _ => trivial) (below_alloc2 hS.out.base hS.out.base.size _) (Nat.le_trans hS.out.base.size (by simp)) (by omega) ?_; intro v1 w5 ho hb hgr hat; have hS2 := Aside0.mk (One.grown (hS.out.alloc _) hgr hb (fun b h => .inl (.inl (.inl h))) hat (Kd.R_lt ho)); clear hS hW; have hS := hS2; clear hS2; obtain ⟨A1, n1, e1, rfl⟩ := slice_form ho; have hW := Aside0.mk ho; clear ho hb hgr hat)
              | (go_at_call 15; (with_reducible refine (all1 hS.out hl64.out).mono ?_); rintro e w8 ⟨v8, rfl, hR8, hb8⟩; obtain ⟨A8, n8, c8, rfl⟩ := slice_form hR8; have hS2 := Aside0.mk (hS.out.below hb8); have hW2 := Aside0.mk (Kd.R_below hW.out hb8); clear hS hW; have hS := hS2; have hW := hW2; clear hS2 hW2; clear hb8; replace hR8 := Aside0.mk hR8)
              | (go_at_call 16; (with_reducible refine (sameX hR8.out hW.out hl64.out).mono ?_); rintro e w9 ⟨rfl, hb9⟩; have hS2 := Aside0.mk (hS.out.below hb9); have hW2 := Aside0.mk (Kd.R_below hW.out hb9); clear hS hW; have hS := hS2; have hW := hW2; clear hS2 hW2; clear hb9 hR8))
            go_roundg gk'
            case measure => exact Nat.lt_succ_self _
            case rel => exact ⟨k + 1, L ++ [⟨1, 2, byte1 k⟩], rfl, by omega, by omega, hl64.out, all_may hM.out (may1 k), hW.out, hS.out⟩
          · have d3 : decide ((L.length : Int) < 64) = false := decide_eq_false (by omega)
            have es := Aside0.mk (send_over L ⟨1, 2, byte1 k⟩ (may1 k) (by omega))
            have hl64 := hlL
            go_wp2_with (first
              | (go_at_call 9; (with_reducible refine (send_k ((hS.out.alloc (.cells #[.int .u8 (k : Int)] 5)).alloc (.cells #[.int .i64 1, .int .i64 2, .string (byte1 k)] 31)) 1 2 (byte1 k) _ _ es.out hlL.out).mono ?_); rintro e w3 ⟨rfl, hS2, hkp⟩; have hX := (Box.new (wr.alloc (.cells #[.int .u8 (k : Int)] 5)) 1 2 (byte1 k)).keep hkp (.inr rfl); rw [show (wr.alloc (.cells #[.int .u8 (k : Int)] 5)).heap.size = wr.heap.size + 1 by simp] at hX; have hW2 := Aside0.mk (R_keep (Kd.R_alloc (Kd.R_alloc hW.out _) _) hkp (fun b h => .inl (.inl h))); clear hS hW hkp; have hS := Aside0.mk hS2; have hW := hW2; clear hS2 hW2; replace hX := Aside0.mk hX)
              | (go_at_call 8; (with_reducible refine (num_below _ _).mono ?_); rintro e wn ⟨rfl, hb0⟩; have hS2 := Aside0.mk (hS.out.below hb0); have hW2 := Aside0.mk (Kd.R_below hW.out hb0); clear hS hW; have hS := hS2; have hW := hW2; clear hS2 hW2; have hX2 := hX.out.below hb0; clear hX hb0; have c0 := hX2.c0; have c1 := hX2.c1; have c2 := hX2.c2; have hz5 := hX2.lt; clear hX2)
              | (go_at_call 15; (with_reducible refine (all1 hS.out hl64.out).mono ?_); rintro e w8 ⟨v8, rfl, hR8, hb8⟩; obtain ⟨A8, n8, c8, rfl⟩ := slice_form hR8; have hS2 := Aside0.mk (hS.out.below hb8); have hW2 := Aside0.mk (Kd.R_below hW.out hb8); clear hS hW; have hS := hS2; have hW := hW2; clear hS2 hW2; clear hb8; replace hR8 := Aside0.mk hR8)
              | (go_at_call 16; (with_reducible refine (sameX hR8.out hW.out hl64.out).mono ?_); rintro e w9 ⟨rfl, hb9⟩; have hS2 := Aside0.mk (hS.out.below hb9); have hW2 := Aside0.mk (Kd.R_below hW.out hb9); clear hS hW; have hS := hS2; have hW := hW2; clear hS2 hW2; clear hb9 hR8))
            go_roundg gk'
            case measure => exact Nat.lt_succ_self _
            case rel => exact ⟨k + 1, L, rfl, by omega, by omega, hl64.out, hM.out, hW.out, hS.out.mono (fun b h => .inl (.inl h))⟩
        · by_cases hl : L.length < 64
          · have d3 : decide ((L.length : Int) < 64) = true := decide_eq_true (by omega)
            have es := Aside0.mk (send_may L ⟨1, 2, byte1 k⟩ (may1 k) hl)
            have hl64 : Aside0 ((L ++ [⟨1, 2, byte1 k⟩] : List S31).length ≤ 64) := ⟨by simp; omega⟩
            go_wp2_with (first
              | (go_at_call 9; (with_reducible refine (send_k ((hS.out.alloc (.cells #[.int .u8 (k : Int)] 5)).alloc (.cells #[.int .i64 1, .int .i64 2, .string (byte1 k)] 31)) 1 2 (byte1 k) _ _ es.out hlL.out).mono ?_); rintro e w3 ⟨rfl, hS2, hkp⟩; have hX := (Box.new (wr.alloc (.cells #[.int .u8 (k : Int)] 5)) 1 2 (byte1 k)).keep hkp (.inr rfl); rw [show (wr.alloc (.cells #[.int .u8 (k : Int)] 5)).heap.size = wr.heap.size + 1 by simp] at hX; have hW2 := Aside0.mk (R_keep (Kd.R_alloc (Kd.R_alloc hW.out _) _) hkp (fun b h => .inl (.inl h))); clear hS hW hkp; have hS := Aside0.mk hS2; have hW := hW2; clear hS2 hW2; replace hX := Aside0.mk hX)
              | (go_at_call 8; (with_reducible refine (num_below _ _).mono ?_); rintro e wn ⟨rfl, hb0⟩; have hS2 := Aside0.mk (hS.out.below hb0); have hW2 := Aside0.mk (Kd.R_below hW.out hb0); clear hS hW; have hS := hS2; have hW := hW2; clear hS2 hW2; have hX2 := hX.out.below hb0; clear hX hb0; have c0 := hX2.c0; have c1 := hX2.c1; have c2 := hX2.c2; have hz5 := hX2.lt; clear hX2)
              | ((with_reducible refine gate_builtin (b := .append) (xs := #[.tmp 84, .tmp 86]) rfl ?_); at_builtin; refine Kd.R_append_rows k31 (w0 := w) w.heap.size rfl (.tmp 84) (.tmp 86) 22 31 (.agg #[.int .i64 0, .int .i64 0, .string ⟨#[]⟩]) 32 rfl Try.underlying22 info31m rfl (by decide) (by decide) (.slice A L.length c) L [⟨1, 2, byte1 k⟩] _ 1 1 (fun _ => True) (fun _ => False) rfl rfl (Kd.R_alloc hW.out _) (built1 _ 1 2 (byte1 k)) (fun x cs h => k31_KM x cs h) (fun _ hk => hk.elim) (fun _ _ => trivial) (below_alloc2 hS.out.base hS.out.base.size _) (Nat.le_trans hS.out.base.size (by simp)) (by omega) ?_; intro v1 w5 ho hb hgr hat; have hS2 := Aside0.mk (One.grown (hS.out.alloc _) hgr hb (fun b h => .inl (.inl (.inl h))) hat (Kd.R_lt ho)); clear hS hW; have hS := hS2; clear hS2; obtain ⟨A1, n1, e1, rfl⟩ := slice_form ho; have hW := Aside0.mk ho; clear ho hb hgr hat)
              | (go_at_call 15; (with_reducible refine (all1 hS.out hl64.out).mono ?_); rintro e w8 ⟨v8, rfl, hR8, hb8⟩; obtain ⟨A8, n8, c8, rfl⟩ := slice_form hR8; have hS2 := Aside0.mk (hS.out.below hb8); have hW2 := Aside0.mk (Kd.R_below hW.out hb8); clear hS hW; have hS := hS2; have hW := hW2; clear hS2 hW2; clear hb8; replace hR8 := Aside0.mk hR8)
              | (go_at_call 16; (with_reducible refine (sameX hR8.out hW.out hl64.out).mono ?_); rintro e w9 ⟨rfl, hb9⟩; have hS2 := Aside0.mk (hS.out.below hb9); have hW2 := Aside0.mk (Kd.R_below hW.out hb9); clear hS hW; have hS := hS2; have hW := hW2; clear hS2 hW2; clear hb9 hR8))
            go_roundg gk'
            case measure => exact Nat.lt_succ_self _
            case rel => exact ⟨k + 1, L ++ [⟨1, 2, byte1 k⟩], rfl, by omega, by omega, hl64.out, all_may hM.out (may1 k), hW.out, hS.out⟩
          · have d3 : decide ((L.length : Int) < 64) = false := decide_eq_false (by omega)
            have es := Aside0.mk (send_over L ⟨1, 2, byte1 k⟩ (may1 k) (by omega))
            have hl64 := hlL
            go_wp2_with (first
              | (go_at_call 9; (with_reducible refine (send_k ((hS.out.alloc (.cells #[.int .u8 (k : Int)] 5)).alloc (.cells #[.int .i64 1, .int .i64 2, .string (byte1 k)] 31)) 1 2 (byte1 k) _ _ es.out hlL.out).mono ?_); rintro e w3 ⟨rfl, hS2, hkp⟩; have hX := (Box.new (wr.alloc (.cells #[.int .u8 (k : Int)] 5)) 1 2 (byte1 k)).keep hkp (.inr rfl); rw [show (wr.alloc (.cells #[.int .u8 (k : Int)] 5)).heap.size = wr.heap.size + 1 by simp] at hX; have hW2 := Aside0.mk (R_keep (Kd.R_alloc (Kd.R_alloc hW.out _) _) hkp (fun b h => .inl (.inl h))); clear hS hW hkp; have hS := Aside0.mk hS2; have hW := hW2; clear hS2 hW2; replace hX := Aside0.mk hX)
              | (go_at_call 8; (with_reducible refine (num_below _ _).mono ?_); rintro e wn ⟨rfl, hb0⟩; have hS2 := Aside0.mk (hS.out.below hb0); have hW2 := Aside0.mk (Kd.R_below hW.out hb0); clear hS hW; have hS := hS2; have hW := hW2; clear hS2 hW2; have hX2 := hX.out.below hb0; clear hX hb0; have c0 := hX2.c0; have c1 := hX2.c1; have c2 := hX2.c2; have hz5 := hX2.lt; clear hX2)
              | (go_at_call 15; (with_reducible refine (all1 hS.out hl64.out).mono ?_); rintro e w8 ⟨v8, rfl, hR8, hb8⟩; obtain ⟨A8, n8, c8, rfl⟩ := slice_form hR8; have hS2 := Aside0.mk (hS.out.below hb8); have hW2 := Aside0.mk (Kd.R_below hW.out hb8); clear hS hW; have hS := hS2; have hW := hW2; clear hS2 hW2; clear hb8; replace hR8 := Aside0.mk hR8)
              | (go_at_call 16; (with_reducible refine (sameX hR8.out hW.out hl64.out).mono ?_); rintro e w9 ⟨rfl, hb9⟩; have hS2 := Aside0.mk (hS.out.below hb9); have hW2 := Aside0.mk (Kd.R_below hW.out hb9); clear hS hW; have hS := hS2; have hW := hW2; clear hS2 hW2; clear hb9 hR8))
            go_roundg gk'
            case measure => exact Nat.lt_succ_self _
            case rel => exact ⟨k + 1, L, rfl, by omega, by omega, hl64.out, hM.out, hW.out, hS.out.mono (fun b h => .inl (.inl h))⟩
        · by_cases hin : kk < (L.length : Int)
          · obtain ⟨n, rfl⟩ := Int.eq_ofNat_of_zero_le hkk0
            have hn : n < L.length := by omega
            have hc : L.length ≤ c := (Kd.R_reads' hW.out).2.1
            obtain ⟨gr, c', hv, hgr⟩ := Kd.R_form hW.out (by omega)
            injection hv with hA h2 h3
            subst hA h3
            clear h2
            have n0 : (0 : Int) ≤ (n : Int) := by omega
            have n2 : (n : Int) ≤ (c : Int) := by omega
            have n3 : (0 : Int) ≤ (n : Int) + 1 := by omega
            have n4 : (n : Int) + 1 ≤ (L.length : Int) := by omega
            have n5 : (L.length : Int) ≤ (c : Int) := by omega
            have nw : IntKind.i64.wrap ((n : Int) + 1) = (n : Int) + 1 := by rw [IntKind.wrap_i64]; have := hlL.out; omega
            have d3 : decide ((n : Int) < (L.length : Int)) = true := decide_eq_true hin
            have es : Aside0 (takeF L (n : Int) = (L.eraseIdx n, ⟨(rd_T31 L n).f0, (rd_T31 L n).f1, (rd_T31 L n).f2⟩, 0)) := ⟨by unfold takeF; rw [if_pos ⟨n0, hin⟩]; rfl⟩
            have hl64 : Aside0 ((L.eraseIdx n).length ≤ 64) := ⟨Nat.le_trans (List.length_eraseIdx_le ..) hlL.out⟩
            generalize hme : rd_T31 L (n : Int) = m at *
            replace hme := Aside0.mk hme
            go_wp2_with (first
              | (go_at_call 11; (with_reducible refine (take_k hS.out (n : Int) _ m.f0 m.f1 m.f2 _ es.out hlL.out).mono ?_); rintro e w3 ⟨rfl, hS2, hkp⟩; have hX := Box.new w3 m.f0 m.f1 m.f2; have hW2 := Aside0.mk (Kd.R_alloc (R_keep hW.out hkp (fun b h => h)) (.cells #[.int .i64 m.f0, .int .i64 m.f1, .string m.f2] 31)); clear hS hW hkp; have hS := Aside0.mk (hS2.alloc (.cells #[.int .i64 m.f0, .int .i64 m.f1, .string m.f2] 31)); have hW := hW2; clear hS2 hW2; replace hX := Aside0.mk hX)
              | (go_at_call 8; (with_reducible refine (num_below _ _).mono ?_); rintro e wn ⟨rfl, hb0⟩; have hS2 := Aside0.mk (hS.out.below hb0); have hW2 := Aside0.mk (Kd.R_below hW.out hb0); clear hS hW; have hS := hS2; have hW := hW2; clear hS2 hW2; have hX2 := hX.out.below hb0; clear hX hb0; have hX := Aside0.mk hX2; clear hX2))
            obtain ⟨ad2, had, e0, e1, e2⟩ := at_T31 (Kd.R_reads' hW.out).2.2 (n : Int) n0 hin
            obtain rfl : (⟨gr, 0, none⟩ : Addr) = ad2 := Option.some.inj had
            rw [show Addr.add ⟨gr, 0, none⟩ ((n : Int).toNat * 3) = ⟨gr, n * 3, none⟩ by (simp [Addr.add]; try omega), hme.out] at e0 e1 e2
            have hSA : (wn.cell? ⟨w3.heap.size, 0, none⟩ = some (.int .i64 m.f0) ∧ wn.cell? ⟨w3.heap.size, 1, none⟩ = some (.int .i64 m.f1) ∧ wn.cell? ⟨w3.heap.size, 2, none⟩ = some (.string m.f2) ∧ wn.cell? ⟨gr, n * 3, none⟩ = some (.int .i64 m.f0) ∧ wn.cell? ⟨gr, n * 3 + 1, none⟩ = some (.int .i64 m.f1) ∧ wn.cell? ⟨gr, n * 3 + 2, none⟩ = some (.string m.f2)) ∧ Aside0 (Kd.R k31 31 wn w.heap.size (fun _ => True) (.slice (some ⟨gr, 0, none⟩) L.length c) L ∧ One 52 w wn g (L.eraseIdx n) (fun _ => False)) := ⟨⟨hX.out.c0, hX.out.c1, hX.out.c2, e0, e1, e2⟩, ⟨hW.out, hS.out.mono (fun _ h => h.elim)⟩⟩
            replace hSA := Aside0.mk hSA
            clear e0 e1 e2 hX had
            go_region_held3 (fun W => (W.cell? ⟨w3.heap.size, 0, none⟩ = some (.int .i64 m.f0) ∧ W.cell? ⟨w3.heap.size, 1, none⟩ = some (.int .i64 m.f1) ∧ W.cell? ⟨w3.heap.size, 2, none⟩ = some (.string m.f2) ∧ W.cell? ⟨gr, n * 3, none⟩ = some (.int .i64 m.f0) ∧ W.cell? ⟨gr, n * 3 + 1, none⟩ = some (.int .i64 m.f1) ∧ W.cell? ⟨gr, n * 3 + 2, none⟩ = some (.string m.f2)) ∧ Aside0 (Kd.R k31 31 W w.heap.size (fun _ => True) (.slice (some ⟨gr, 0, none⟩) L.length c) L ∧ One 52 w W g (L.eraseIdx n) (fun _ => False)))
              (first | exact ⟨⟨pw_cell_below (below_drew (Below.refl _ _)) hSA.out.1.1, pw_cell_below (below_drew (Below.refl _ _)) hSA.out.1.2.1, pw_cell_below (below_drew (Below.refl _ _)) hSA.out.1.2.2.1, pw_cell_below (below_drew (Below.refl _ _)) hSA.out.1.2.2.2.1, pw_cell_below (below_drew (Below.refl _ _)) hSA.out.1.2.2.2.2.1, pw_cell_below (below_drew (Below.refl _ _)) hSA.out.1.2.2.2.2.2⟩, ⟨Kd.R_drew hSA.out.2.out.1, hSA.out.2.out.2.below (below_drew (Below.refl _ _))⟩⟩ | exact hSA.out)
              (first | (go_at_call 8; (with_reducible refine (num_below _ _).mono ?_); rintro e wq ⟨rfl, hb0⟩))
            rename_i hHeld
            have hM2 : ∀ x, x ∈ L.eraseIdx n → mayF x = true := fun x hx => hM.out x (List.mem_of_mem_eraseIdx hx)
            replace hM2 := Aside0.mk hM2
            have lk : Aside0 ((L.take n).length = n) := ⟨by rw [List.length_take]; omega⟩
            clear hHeld hSA
            go_wp2_with (first
              | ((with_reducible refine gate_builtin (b := .append) (xs := #[.tmp 114, .tmp 117]) rfl ?_); at_builtin; refine Kd.R_append_rows k31 (w0 := wn) wn.heap.size rfl (.tmp 114) (.tmp 117) 22 31 (.agg #[.int .i64 0, .int .i64 0, .string ⟨#[]⟩]) 32 rfl Try.underlying22 info31m rfl (by decide) (by decide) _ [] (L.take n) _ n c (fun _ => True) (fun _ => False) rfl rfl (Kd.R_drew (row_made wn _ (Nat.le_refl _))) (by have := Kd.C_take (Kd.C_drew (Kd.C_alloc (Kd.R_reads' hW.out).2.2 (.cells #[] 31))) (m := n) (by omega); rw [lk.out] at this; exact this) (fun x cs h => k31_KM x cs h) (fun _ hk => hk.elim) (fun _ _ => trivial) (below_drew (below_alloc (Below.refl _ _) _)) (by simp) (by have := hlL.out; simp; omega) ?_; intro v1 w5 ho hb hgr hat; obtain ⟨A1, n1, e1, rfl⟩ := slice_form ho; replace ho := Aside0.mk ho; replace hb := Aside0.mk hb; clear hgr hat)
              | ((with_reducible refine gate_builtin (b := .append) (xs := #[.tmp 119, .tmp 123]) rfl ?_); at_builtin; refine Kd.R_append_rows k31 (w0 := wn) wn.heap.size rfl (.tmp 119) (.tmp 123) 22 31 (.agg #[.int .i64 0, .int .i64 0, .string ⟨#[]⟩]) 32 rfl Try.underlying22 info31m rfl (by decide) (by decide) (.slice A1 n1 e1) (L.take n) (L.drop (n + 1)) (if c = n + 1 then some ⟨gr, 0, none⟩ else some ⟨gr, (n + 1) * 3, none⟩) (L.length - (n + 1)) (c - (n + 1)) (fun _ => True) (fun _ => False) rfl rfl (by simpa using ho.out) (by rw [tail_at]; have := Kd.C_drop (Kd.C_below (Kd.R_reads' hW.out).2.2 hb.out) (m := n + 1) (c := c) (by omega) hc; rw [List.length_drop] at this; exact this) (fun x cs h => k31_KM x cs h) (fun _ hk => hk.elim) (fun _ _ => trivial) hb.out hb.out.size (by rw [lk.out]; have := hlL.out; omega) ?_; intro v2 w6 ho2 hb2 hgr2 hat2; obtain ⟨A2, n2', e2, rfl⟩ := slice_form ho2; rw [← List.eraseIdx_eq_take_drop_succ] at ho2; have hS2 := Aside0.mk (hS.out.fresh hb2 (fun b e => ⟨Kd.R_base ho2 b e, Kd.R_lt ho2 b e⟩)); have hW2 := Aside0.mk (Kd.R_lower ho2 (hS.out.base.size)); clear hS hW ho hb ho2 hb2 hgr2 hat2; have hS := hS2; have hW := hW2; clear hS2 hW2)
              | (go_at_call 15; (with_reducible refine (all1 hS.out hl64.out).mono ?_); rintro e w8 ⟨v8, rfl, hR8, hb8⟩; obtain ⟨A8, n8, c8, rfl⟩ := slice_form hR8; have hS2 := Aside0.mk (hS.out.below hb8); have hW2 := Aside0.mk (Kd.R_below hW.out hb8); clear hS hW; have hS := hS2; have hW := hW2; clear hS2 hW2; clear hb8; replace hR8 := Aside0.mk hR8)
              | (go_at_call 16; (with_reducible refine (sameX hR8.out hW.out hl64.out).mono ?_); rintro e w9 ⟨rfl, hb9⟩; have hS2 := Aside0.mk (hS.out.below hb9); have hW2 := Aside0.mk (Kd.R_below hW.out hb9); clear hS hW; have hS := hS2; have hW := hW2; clear hS2 hW2; clear hb9 hR8))
            all_goals
              go_roundg gk'
              case measure => exact Nat.lt_succ_self _
              case rel => exact ⟨k + 1, L.eraseIdx n, rfl, by omega, by omega, hl64.out, hM2.out, hW.out, hS.out⟩
          · have d3 : decide (kk < (L.length : Int)) = false := decide_eq_false hin
            have es : Aside0 (takeF L kk = (L, ⟨0, 0, ⟨#[]⟩⟩, 2402)) := ⟨take_out L kk (fun h => hin h.2)⟩
            have hl64 := hlL
            go_wp2_with (first
              | (go_at_call 11; (with_reducible refine (take_k hS.out kk _ 0 0 ⟨#[]⟩ _ es.out hlL.out).mono ?_); rintro e w3 ⟨rfl, hS2, hkp⟩; have hW2 := Aside0.mk (Kd.R_alloc (R_keep hW.out hkp (fun b h => h)) (.cells #[.int .i64 0, .int .i64 0, .string ⟨#[]⟩] 31)); clear hS hW hkp; have hS := Aside0.mk (hS2.alloc (.cells #[.int .i64 0, .int .i64 0, .string ⟨#[]⟩] 31)); have hW := hW2; clear hS2 hW2)
              | (go_at_call 8; (with_reducible refine (num_below _ _).mono ?_); rintro e wn ⟨rfl, hb0⟩; have hS2 := Aside0.mk (hS.out.below hb0); have hW2 := Aside0.mk (Kd.R_below hW.out hb0); clear hS hW; have hS := hS2; have hW := hW2; clear hS2 hW2; clear hb0)
              | (go_at_call 15; (with_reducible refine (all1 hS.out hl64.out).mono ?_); rintro e w8 ⟨v8, rfl, hR8, hb8⟩; obtain ⟨A8, n8, c8, rfl⟩ := slice_form hR8; have hS2 := Aside0.mk (hS.out.below hb8); have hW2 := Aside0.mk (Kd.R_below hW.out hb8); clear hS hW; have hS := hS2; have hW := hW2; clear hS2 hW2; clear hb8; replace hR8 := Aside0.mk hR8)
              | (go_at_call 16; (with_reducible refine (sameX hR8.out hW.out hl64.out).mono ?_); rintro e w9 ⟨rfl, hb9⟩; have hS2 := Aside0.mk (hS.out.below hb9); have hW2 := Aside0.mk (Kd.R_below hW.out hb9); clear hS hW; have hS := hS2; have hW := hW2; clear hS2 hW2; clear hb9 hR8))
            go_roundg gk'
            case measure => exact Nat.lt_succ_self _
            case rel => exact ⟨k + 1, L, rfl, by omega, by omega, hl64.out, hM.out, hW.out, hS.out.mono (fun b h => .inl h)⟩
        · by_cases hin : kk < (L.length : Int)
          · have d3 : decide (kk < (L.length : Int)) = true := decide_eq_true hin
            have hm := hM.out (rd_T31 L kk) (rd_memI L kk hkk0 hin)
            have hcp : copyF L kk = sendF L (rd_T31 L kk) := by unfold copyF; rw [if_pos ⟨hkk0, hin⟩]
            by_cases hl : L.length < 64
            · have d4 : decide ((L.length : Int) < 64) = true := decide_eq_true (by omega)
              have es := Aside0.mk (hcp.trans (send_may L _ hm hl))
              replace hm := Aside0.mk hm
              have hl64 : Aside0 ((L ++ [rd_T31 L kk]).length ≤ 64) := ⟨by simp; omega⟩
              have hrow := fun W' (h : Kd.R k31 31 W' w.heap.size (fun _ => True) (.slice A L.length c) L) => at_T31 (Kd.R_reads' h).2.2 kk hkk0 hin
              replace hrow := Aside0.mk hrow
              clear hcp
              go_wp2_with (first
                | (go_at_call 13; (with_reducible refine (copy_k hS.out kk _ _ es.out hlL.out).mono ?_); rintro e w3 ⟨rfl, hS2, hkp⟩; have hW2 := Aside0.mk (R_keep hW.out hkp (fun b h => h)); clear hS hW hkp; have hS := Aside0.mk hS2; have hW := hW2; clear hS2 hW2)
                | (go_at_call 8; (with_reducible refine (num_below _ _).mono ?_); rintro e wn ⟨rfl, hb0⟩; have hS2 := Aside0.mk (hS.out.below hb0); have hW2 := Aside0.mk (Kd.R_below hW.out hb0); clear hS hW; have hS := hS2; have hW := hW2; clear hS2 hW2; clear hb0; have hrow2 := hrow.out _ hW.out; obtain ⟨ad3, rfl, c0, c1, c2⟩ := hrow2)
                | ((with_reducible refine gate_builtin (b := .append) (xs := #[.tmp 57, .tmp 62]) rfl ?_); at_builtin; refine Kd.R_append_rows k31 (w0 := w) w.heap.size rfl (.tmp 57) (.tmp 62) 22 31 (.agg #[.int .i64 0, .int .i64 0, .string ⟨#[]⟩]) 32 rfl Try.underlying22 info31m rfl (by decide) (by decide) (.slice _ L.length c) L [rd_T31 L kk] _ 1 1 (fun _ => True) (fun _ => False) rfl rfl (Kd.R_alloc hW.out _) (built1 _ (rd_T31 L kk).f0 (rd_T31 L kk).f1 (rd_T31 L kk).f2) (fun x cs h => k31_KM x cs h) (fun _ hk => hk.elim) (fun _ _ => trivial) (below_alloc2 hS.out.base hS.out.base.size _) (Nat.le_trans hS.out.base.size (by simp)) (by omega) ?_; intro v1 w5 ho hb hgr hat; have hS2 := Aside0.mk (One.grown (hS.out.alloc _) hgr hb (fun b h => .inl h) hat (Kd.R_lt ho)); clear hS hW; have hS := hS2; clear hS2; obtain ⟨A1, n1, e1, rfl⟩ := slice_form ho; have hW := Aside0.mk ho; clear ho hb hgr hat)
                | (go_at_call 15; (with_reducible refine (all1 hS.out hl64.out).mono ?_); rintro e w8 ⟨v8, rfl, hR8, hb8⟩; obtain ⟨A8, n8, c8, rfl⟩ := slice_form hR8; have hS2 := Aside0.mk (hS.out.below hb8); have hW2 := Aside0.mk (Kd.R_below hW.out hb8); clear hS hW; have hS := hS2; have hW := hW2; clear hS2 hW2; clear hb8; replace hR8 := Aside0.mk hR8)
                | (go_at_call 16; (with_reducible refine (sameX hR8.out hW.out hl64.out).mono ?_); rintro e w9 ⟨rfl, hb9⟩; have hS2 := Aside0.mk (hS.out.below hb9); have hW2 := Aside0.mk (Kd.R_below hW.out hb9); clear hS hW; have hS := hS2; have hW := hW2; clear hS2 hW2; clear hb9 hR8))
              go_roundg gk'
              case measure => exact Nat.lt_succ_self _
              case rel => exact ⟨k + 1, L ++ [rd_T31 L kk], rfl, by omega, by omega, hl64.out, all_may hM.out hm.out, hW.out, hS.out⟩
            · have d4 : decide ((L.length : Int) < 64) = false := decide_eq_false (by omega)
              have es := Aside0.mk (hcp.trans (send_over L _ hm (by omega)))
              clear hcp hm
              have hl64 := hlL
              go_wp2_with (first
                | (go_at_call 13; (with_reducible refine (copy_k hS.out kk _ _ es.out hlL.out).mono ?_); rintro e w3 ⟨rfl, hS2, hkp⟩; have hW2 := Aside0.mk (R_keep hW.out hkp (fun b h => h)); clear hS hW hkp; have hS := Aside0.mk hS2; have hW := hW2; clear hS2 hW2)
                | (go_at_call 8; (with_reducible refine (num_below _ _).mono ?_); rintro e wn ⟨rfl, hb0⟩; have hS2 := Aside0.mk (hS.out.below hb0); have hW2 := Aside0.mk (Kd.R_below hW.out hb0); clear hS hW; have hS := hS2; have hW := hW2; clear hS2 hW2; clear hb0)
                | (go_at_call 15; (with_reducible refine (all1 hS.out hl64.out).mono ?_); rintro e w8 ⟨v8, rfl, hR8, hb8⟩; obtain ⟨A8, n8, c8, rfl⟩ := slice_form hR8; have hS2 := Aside0.mk (hS.out.below hb8); have hW2 := Aside0.mk (Kd.R_below hW.out hb8); clear hS hW; have hS := hS2; have hW := hW2; clear hS2 hW2; clear hb8; replace hR8 := Aside0.mk hR8)
                | (go_at_call 16; (with_reducible refine (sameX hR8.out hW.out hl64.out).mono ?_); rintro e w9 ⟨rfl, hb9⟩; have hS2 := Aside0.mk (hS.out.below hb9); have hW2 := Aside0.mk (Kd.R_below hW.out hb9); clear hS hW; have hS := hS2; have hW := hW2; clear hS2 hW2; clear hb9 hR8))
              go_roundg gk'
              case measure => exact Nat.lt_succ_self _
              case rel => exact ⟨k + 1, L, rfl, by omega, by omega, hl64.out, hM.out, hW.out, hS.out⟩
          · have d3 : decide (kk < (L.length : Int)) = false := decide_eq_false hin
            have es := Aside0.mk (copy_out L kk (fun h => hin h.2))
            have hl64 := hlL
            go_wp2_with (first
              | (go_at_call 13; (with_reducible refine (copy_k hS.out kk _ _ es.out hlL.out).mono ?_); rintro e w3 ⟨rfl, hS2, hkp⟩; have hW2 := Aside0.mk (R_keep hW.out hkp (fun b h => h)); clear hS hW hkp; have hS := Aside0.mk hS2; have hW := hW2; clear hS2 hW2)
              | (go_at_call 8; (with_reducible refine (num_below _ _).mono ?_); rintro e wn ⟨rfl, hb0⟩; have hS2 := Aside0.mk (hS.out.below hb0); have hW2 := Aside0.mk (Kd.R_below hW.out hb0); clear hS hW; have hS := hS2; have hW := hW2; clear hS2 hW2; clear hb0)
              | (go_at_call 15; (with_reducible refine (all1 hS.out hl64.out).mono ?_); rintro e w8 ⟨v8, rfl, hR8, hb8⟩; obtain ⟨A8, n8, c8, rfl⟩ := slice_form hR8; have hS2 := Aside0.mk (hS.out.below hb8); have hW2 := Aside0.mk (Kd.R_below hW.out hb8); clear hS hW; have hS := hS2; have hW := hW2; clear hS2 hW2; clear hb8; replace hR8 := Aside0.mk hR8)
              | (go_at_call 16; (with_reducible refine (sameX hR8.out hW.out hl64.out).mono ?_); rintro e w9 ⟨rfl, hb9⟩; have hS2 := Aside0.mk (hS.out.below hb9); have hW2 := Aside0.mk (Kd.R_below hW.out hb9); clear hS hW; have hS := hS2; have hW := hW2; clear hS2 hW2; clear hb9 hR8))
            go_roundg gk'
            case measure => exact Nat.lt_succ_self _
            case rel => exact ⟨k + 1, L, rfl, by omega, by omega, hl64.out, hM.out, hW.out, hS.out⟩
      · have d1 : decide ((k : Int) < (zs.length : Int)) = true := decide_eq_true (by omega)
        have d2 : decide ((k : Int) < 100) = false := decide_eq_false (by omega)
        have hB := Aside0.mk hS.base
        clear hW hS
        go_wp2_with fail
        go_ret
        exact ⟨rfl, hB.out⟩
    · have d1 : decide ((k : Int) < (zs.length : Int)) = false := decide_eq_false (by omega)
      have hB := Aside0.mk hS.base
      clear hW hS
      go_wp2_with fail
      go_ret
      exact ⟨rfl, hB.out⟩

theorem row_row (a : Option Addr) (len cap : Nat) (zs : List Int) (W : World) (h : (a = none ∧ len = 0 ∧ cap = 0 ∧ zs = []) ∨ ∃ x, a = some x ∧ len ≤ cap ∧ cap ≤ maxLen ∧ zs.length = cap ∧ (∀ i, i < zs.length → W.cell? (x.add i) = some (.int .i64 (zs.getD i 0))) ∧ ∀ n ∈ zs, (Lit.int .i64 n).wf = true) (_y : len * 8 ≤ 140737488351232) :
    Calls Try.prog 4 #[.slice a len cap] W fun e w' => e = .returned (.bool true) ∧ Below W.heap.size W w' := by
  obtain ⟨l, rfl, hr, -, -, -⟩ := ReadsInt.ofRowC h
  exact row_walk a l cap W hr

end Go.Proofs.Ytecagknnkbolgaa.NetW
