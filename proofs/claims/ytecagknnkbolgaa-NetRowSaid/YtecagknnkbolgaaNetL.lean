/- NetApart's code, step by step: two nets hold nothing of one another. -/
import Derived.Test.YtecagknnkbolgaaNetK
namespace Go.Proofs.Ytecagknnkbolgaa.NetW
open Go.RowKit Go.Proofs.YtecagknnkbolgaaW.PrintWords Go.Proofs.YtecagknnkbolgaaW.PrintLast Go.Proofs.YtecagknnkbolgaaW.PrintMore Go.Proofs.Ytecagknnkbolgaa.PNets

theorem all2_k {T2 : Nat} {w0 W : World} {g r : Nat} {L M : List S31} {P : Nat → Prop} (h : Two 52 T2 w0 W g r L M P) (n : Nat) (hn : L.length = n) (hl : n ≤ 64) :
    Calls Try.prog 15 #[.pointer (some ⟨g, 0, none⟩)] W fun e W' => ∃ A c, e = .returned (.slice A n c) ∧ n ≤ c ∧ Kd.R k31 31 W' W.heap.size (fun _ => True) (.slice A n c) L ∧ Below W.heap.size W W' :=
  (all2 h (by omega)).mono fun e w' h => by
    obtain ⟨v', rfl, hR, hb⟩ := h
    obtain ⟨A, c, rfl⟩ := Kd.R_slice hR
    subst hn
    exact ⟨A, c, rfl, (Kd.R_reads' hR).2.1, hR, hb⟩
theorem send2_k {T2 : Nat} {w0 W : World} {g r : Nat} {L M : List S31} {P : Nat → Prop} (h : Two 52 T2 w0 W g r L M P) (ht : 31 ≠ T2) (a b : Int) (s : ByteArray) (L' : List S31) (x : Int) (hs : sendF L ⟨a, b, s⟩ = (L', x)) (hl : L.length ≤ 64) :
    Calls Try.prog 9 #[.pointer (some ⟨g, 0, none⟩), .agg #[.int .i64 a, .int .i64 b, .string s]] W fun e W' => e = .returned (.int .i64 x) ∧ Two 52 T2 w0 W' g r L' M P ∧ Keep P W W' := by
  have := send2 h ht ⟨a, b, s⟩ hl
  rw [hs] at this
  exact this

theorem and15 (n : Int) : Go.bits .and .i64 n 15 = n % 16 := by
  have h0 : (BitVec.ofInt 64 15).toNat = 2 ^ 4 - 1 := by decide
  have key : (BitVec.ofInt 64 n &&& BitVec.ofInt 64 15).toNat = (n % ((2 ^ 64 : Nat) : Int)).toNat % 2 ^ 4 := by
    rw [BitVec.toNat_and, BitVec.toNat_ofInt, h0, Nat.and_two_pow_sub_one_eq_mod]
  show IntKind.i64.wrap ((BitVec.ofInt 64 n &&& BitVec.ofInt 64 15).toNat : Nat) = n % 16
  rw [key, IntKind.wrap_i64]
  omega
theorem send_may (L : List S31) (m : S31) (hm : mayF m = true) (hl : L.length < 64) : sendF L m = (L ++ [m], 0) := by
  unfold sendF
  rw [if_pos hm, if_neg (by omega)]
theorem rd_mem (L : List S31) (j : Nat) (h : j < L.length) : rd_T31 L (j : Int) ∈ L := by
  have : rd_T31 L (j : Int) = L[j] := by
    simp [rd_T31, h]
  rw [this]
  exact List.getElem_mem h
theorem Two.base {T1 T2 : Nat} {w0 W : World} {g r : Nat} {L M : List S31} {P : Nat → Prop} (h : Two T1 T2 w0 W g r L M P) : Below w0.heap.size w0 W := by
  obtain ⟨v, u, h1, h2, h3, h4⟩ := h
  exact h3
/-- What holds at a round's head of NetApart. -/
def ApartAt (w : World) (l : List S31) (ga gb gk : Nat) (c i : Value) (wr : World) : Prop :=
  ∃ (k : Nat) (L M : List S31), i = .int .i64 k ∧ c = .int .i64 ((L.length + M.length : Nat) : Int) ∧ k ≤ l.length ∧ k + gk = 20 ∧ L.length + M.length ≤ k ∧ (∀ m, m ∈ L → mayF m = true) ∧ (∀ m, m ∈ M → mayF m = true) ∧ Two 52 52 w wr ga gb L M (fun _ => False)
def ApartAt2 (w : World) (L M : List S31) (ga gb gk : Nat) (i : Value) (wr : World) : Prop :=
  ∃ k : Nat, i = .int .i64 k ∧ k ≤ L.length ∧ k + gk = L.length ∧ Two 52 52 w wr ga gb L M (fun _ => False)

set_option maxHeartbeats 8000000 in
set_option maxRecDepth 100000 in
theorem apart_walk (A0 : Option Addr) (l : List S31) (cap : Nat) (x : Int) (w : World) (hr : Kd.C k31 w A0 l.length l) :
    Calls Try.prog 6 #[.slice A0 l.length cap, .int .i64 x] w fun e w' => e = .returned (.bool true) ∧ Below w.heap.size w w' := by
  replace hr := Aside0.mk hr
  go_enter Try.func6, Try.ntmps6
  go_wp2_with (first
    | (go_at_call 18; (with_reducible refine (awake_calls _).mono ?_); rintro e w1 ⟨rfl, hb1⟩; have HB := Aside0.mk hb1; clear hb1)
    | (go_at_call 7; (with_reducible refine (new_calls _).mono ?_); rintro e w2 ⟨rfl, rfl⟩))
  have hT : Two 52 52 w ((w1.alloc (.cells #[.slice none 0 0] 52)).alloc (.cells #[.slice none 0 0] 52)) w1.heap.size (w1.heap.size + 1) [] [] (fun _ => False) := by
    have := Two.new (T2 := 52) (One.new (T := 52) (P := fun _ => False) HB.out (fun _ h => h.elim))
    rwa [show (w1.alloc (.cells #[.slice none 0 0] 52)).heap.size = w1.heap.size + 1 by simp] at this
  clear HB
  generalize w1.heap.size + 1 = gb at *
  generalize w1.heap.size = ga at *
  generalize (w1.alloc (.cells #[.slice none 0 0] 52)).alloc (.cells #[.slice none 0 0] 52) = W at *
  have hstart : Aside0 (ApartAt w l ga gb 20 (.int .i64 0) (.int .i64 0) W) := ⟨0, [], [], rfl, rfl, by omega, by omega, by simp, by simp, by simp, hT⟩
  clear hT
  go_loopg [7, 8] 20 (fun gk c i wr => ApartAt w l ga gb gk c i wr)
  case atStart => exact hstart.out
  case round =>
    clear hstart
    obtain ⟨k, L, M, rfl, rfl, hkl, hk, hLM, hL, hM, hT⟩ := hrel
    replace hL := Aside0.mk hL
    replace hM := Aside0.mk hM
    by_cases hlt : k < l.length
    · by_cases h20 : k < 20
      · have d1 : decide ((k : Int) < (l.length : Int)) = true := decide_eq_true (by omega)
        have d2 : decide ((k : Int) < 20) = true := decide_eq_true (by omega)
        obtain ⟨ad, rfl, c0, c1, c2⟩ := at_T31 (Kd.C_below hr.out hT.base) (k : Int) (by omega) (by omega)
        rw [Int.toNat_natCast] at c0 c1 c2
        obtain ⟨gk', rfl⟩ : ∃ gk', gk = gk' + 1 := ⟨gk - 1, by omega⟩
        replace hT := Aside0.mk hT
        have s0 : 0 ≤ Go.bits .and .i64 (k : Int) 15 := by rw [and15]; omega
        have s1 : Go.bits .and .i64 (k : Int) 15 < 64 := by rw [and15]; omega
        have kw : IntKind.i64.wrap ((k : Int) + 1) = ((k + 1 : Nat) : Int) := by rw [IntKind.wrap_i64]; omega
        rcases Bool.eq_false_or_eq_true (Go.bits .and .i64 (x / 2 ^ (Go.bits .and .i64 (k : Int) 15).toNat) 1 == 1) with d3 | d3 <;> rcases Bool.eq_false_or_eq_true (mayF (rd_T31 l k)) with hm | hm
        · have es := Aside0.mk (show sendF M ⟨(rd_T31 l k).f0, (rd_T31 l k).f1, (rd_T31 l k).f2⟩ = _ from send_may M (rd_T31 l k) hm (by omega))
          have hlL : Aside0 (L.length ≤ 64) := ⟨by first | omega | (simp; omega)⟩
          have hlM : Aside0 ((M ++ [rd_T31 l k]).length ≤ 64) := ⟨by first | omega | (simp; omega)⟩
          replace hm := Aside0.mk hm
          have cw : IntKind.i64.wrap (((L.length + M.length : Nat) : Int) + 1) = ((L.length + M.length + 1 : Nat) : Int) := by rw [IntKind.wrap_i64]; omega
          go_wp2_with (first
            | (go_at_call 9; (with_reducible refine (send2_k hT.out.swap (by decide) (rd_T31 l k).f0 (rd_T31 l k).f1 (rd_T31 l k).f2 _ _ es.out (by omega)).mono ?_); rintro e w4 ⟨rfl, hT2, hk⟩; clear hT; have hT := Aside0.mk hT2.swap; clear hT2 hk)
            | (go_at_call 8; (with_reducible refine (num_below _ _).mono ?_); rintro e w5 ⟨rfl, hb1⟩; have hT2 := Aside0.mk (hT.out.below hb1); clear hT hb1; have hT := hT2; clear hT2)
            | (go_at_call 15; (with_reducible refine (all2_k hT.out L.length (by simp) (by omega)).mono ?_); rintro e w6 ⟨A, c, rfl, hc, hR, hb1⟩; replace hR := Aside0.mk hR; replace hb1 := Aside0.mk hb1)
            | (go_at_call 15; (with_reducible refine (all2_k hT.out.swap (M.length + 1) (by simp) (by omega)).mono ?_); rintro e w6 ⟨A, c, rfl, hc, hR, hb1⟩; replace hR := Aside0.mk hR; replace hb1 := Aside0.mk hb1)
            | (go_at_call 17; (with_reducible refine (spoil_calls hb1.out hR.out (by first | exact hlL.out | exact hlM.out)).mono ?_); rintro e w7 ⟨rfl, hb2⟩; have hT2 := Aside0.mk (hT.out.below hb2); clear hT hb1 hR hb2 hc; have hT := hT2; clear hT2))
          go_roundg gk'
          case measure => exact Nat.lt_succ_self _
          case rel => exact ⟨k + 1, L, M ++ [rd_T31 l k], rfl, by simp; omega, by omega, by omega, by first | omega | (simp; omega), hL.out, fun m h => (List.mem_append.1 h).elim (hM.out m) (fun h => by rw [List.mem_singleton.1 h]; exact hm.out), hT.out⟩
        · have es := Aside0.mk (show sendF M ⟨(rd_T31 l k).f0, (rd_T31 l k).f1, (rd_T31 l k).f2⟩ = _ from send_bad M (rd_T31 l k) hm)
          have hlL : Aside0 (L.length ≤ 64) := ⟨by first | omega | (simp; omega)⟩
          have hlM : Aside0 (M.length ≤ 64) := ⟨by first | omega | (simp; omega)⟩
          replace hm := Aside0.mk hm
          go_wp2_with (first
            | (go_at_call 9; (with_reducible refine (send2_k hT.out.swap (by decide) (rd_T31 l k).f0 (rd_T31 l k).f1 (rd_T31 l k).f2 _ _ es.out (by omega)).mono ?_); rintro e w4 ⟨rfl, hT2, hk⟩; clear hT; have hT := Aside0.mk hT2.swap; clear hT2 hk)
            | (go_at_call 8; (with_reducible refine (num_below _ _).mono ?_); rintro e w5 ⟨rfl, hb1⟩; have hT2 := Aside0.mk (hT.out.below hb1); clear hT hb1; have hT := hT2; clear hT2)
            | (go_at_call 15; (with_reducible refine (all2_k hT.out L.length (by simp) (by omega)).mono ?_); rintro e w6 ⟨A, c, rfl, hc, hR, hb1⟩; replace hR := Aside0.mk hR; replace hb1 := Aside0.mk hb1)
            | (go_at_call 15; (with_reducible refine (all2_k hT.out.swap M.length (by simp) (by omega)).mono ?_); rintro e w6 ⟨A, c, rfl, hc, hR, hb1⟩; replace hR := Aside0.mk hR; replace hb1 := Aside0.mk hb1)
            | (go_at_call 17; (with_reducible refine (spoil_calls hb1.out hR.out (by first | exact hlL.out | exact hlM.out)).mono ?_); rintro e w7 ⟨rfl, hb2⟩; have hT2 := Aside0.mk (hT.out.below hb2); clear hT hb1 hR hb2 hc; have hT := hT2; clear hT2))
          go_roundg gk'
          case measure => exact Nat.lt_succ_self _
          case rel => exact ⟨k + 1, L, M, rfl, rfl, by omega, by omega, by first | omega | (simp; omega), hL.out, hM.out, hT.out⟩
        · have es := Aside0.mk (show sendF L ⟨(rd_T31 l k).f0, (rd_T31 l k).f1, (rd_T31 l k).f2⟩ = _ from send_may L (rd_T31 l k) hm (by omega))
          have hlL : Aside0 ((L ++ [rd_T31 l k]).length ≤ 64) := ⟨by first | omega | (simp; omega)⟩
          have hlM : Aside0 (M.length ≤ 64) := ⟨by first | omega | (simp; omega)⟩
          replace hm := Aside0.mk hm
          have cw : IntKind.i64.wrap (((L.length + M.length : Nat) : Int) + 1) = ((L.length + M.length + 1 : Nat) : Int) := by rw [IntKind.wrap_i64]; omega
          go_wp2_with (first
            | (go_at_call 9; (with_reducible refine (send2_k hT.out (by decide) (rd_T31 l k).f0 (rd_T31 l k).f1 (rd_T31 l k).f2 _ _ es.out (by omega)).mono ?_); rintro e w4 ⟨rfl, hT2, hk⟩; clear hT; have hT := Aside0.mk hT2; clear hT2 hk)
            | (go_at_call 8; (with_reducible refine (num_below _ _).mono ?_); rintro e w5 ⟨rfl, hb1⟩; have hT2 := Aside0.mk (hT.out.below hb1); clear hT hb1; have hT := hT2; clear hT2)
            | (go_at_call 15; (with_reducible refine (all2_k hT.out (L.length + 1) (by simp) (by omega)).mono ?_); rintro e w6 ⟨A, c, rfl, hc, hR, hb1⟩; replace hR := Aside0.mk hR; replace hb1 := Aside0.mk hb1)
            | (go_at_call 15; (with_reducible refine (all2_k hT.out.swap M.length (by simp) (by omega)).mono ?_); rintro e w6 ⟨A, c, rfl, hc, hR, hb1⟩; replace hR := Aside0.mk hR; replace hb1 := Aside0.mk hb1)
            | (go_at_call 17; (with_reducible refine (spoil_calls hb1.out hR.out (by first | exact hlL.out | exact hlM.out)).mono ?_); rintro e w7 ⟨rfl, hb2⟩; have hT2 := Aside0.mk (hT.out.below hb2); clear hT hb1 hR hb2 hc; have hT := hT2; clear hT2))
          go_roundg gk'
          case measure => exact Nat.lt_succ_self _
          case rel => exact ⟨k + 1, L ++ [rd_T31 l k], M, rfl, by simp; omega, by omega, by omega, by first | omega | (simp; omega), fun m h => (List.mem_append.1 h).elim (hL.out m) (fun h => by rw [List.mem_singleton.1 h]; exact hm.out), hM.out, hT.out⟩
        · have es := Aside0.mk (show sendF L ⟨(rd_T31 l k).f0, (rd_T31 l k).f1, (rd_T31 l k).f2⟩ = _ from send_bad L (rd_T31 l k) hm)
          have hlL : Aside0 (L.length ≤ 64) := ⟨by first | omega | (simp; omega)⟩
          have hlM : Aside0 (M.length ≤ 64) := ⟨by first | omega | (simp; omega)⟩
          replace hm := Aside0.mk hm
          go_wp2_with (first
            | (go_at_call 9; (with_reducible refine (send2_k hT.out (by decide) (rd_T31 l k).f0 (rd_T31 l k).f1 (rd_T31 l k).f2 _ _ es.out (by omega)).mono ?_); rintro e w4 ⟨rfl, hT2, hk⟩; clear hT; have hT := Aside0.mk hT2; clear hT2 hk)
            | (go_at_call 8; (with_reducible refine (num_below _ _).mono ?_); rintro e w5 ⟨rfl, hb1⟩; have hT2 := Aside0.mk (hT.out.below hb1); clear hT hb1; have hT := hT2; clear hT2)
            | (go_at_call 15; (with_reducible refine (all2_k hT.out L.length (by simp) (by omega)).mono ?_); rintro e w6 ⟨A, c, rfl, hc, hR, hb1⟩; replace hR := Aside0.mk hR; replace hb1 := Aside0.mk hb1)
            | (go_at_call 15; (with_reducible refine (all2_k hT.out.swap M.length (by simp) (by omega)).mono ?_); rintro e w6 ⟨A, c, rfl, hc, hR, hb1⟩; replace hR := Aside0.mk hR; replace hb1 := Aside0.mk hb1)
            | (go_at_call 17; (with_reducible refine (spoil_calls hb1.out hR.out (by first | exact hlL.out | exact hlM.out)).mono ?_); rintro e w7 ⟨rfl, hb2⟩; have hT2 := Aside0.mk (hT.out.below hb2); clear hT hb1 hR hb2 hc; have hT := hT2; clear hT2))
          go_roundg gk'
          case measure => exact Nat.lt_succ_self _
          case rel => exact ⟨k + 1, L, M, rfl, rfl, by omega, by omega, by first | omega | (simp; omega), hL.out, hM.out, hT.out⟩
      · have d1 : decide ((k : Int) < (l.length : Int)) = true := decide_eq_true (by omega)
        have d2 : decide ((k : Int) < 20) = false := decide_eq_false (by omega)
        replace hT := Aside0.mk hT
        go_wp2_with fail
        go_loopg [10] L.length (fun gk i wr => ApartAt2 w L M ga gb gk i wr)
        case atStart => exact ⟨0, rfl, by omega, by omega, hT.out⟩
        case round =>
          clear hT
          obtain ⟨j, rfl, hj, hjk, hT⟩ := hrel
          replace hT := Aside0.mk hT
          by_cases hjl : j < L.length
          · have hm := hL.out (rd_T31 L j) (rd_mem L j hjl)
            unfold mayF at hm
            rw [decide_eq_true_eq] at hm
            have m0 : decide ((rd_T31 L j).f0 < 1) = false := decide_eq_false (by omega)
            have m1 : decide (4 < (rd_T31 L j).f0) = false := decide_eq_false (by omega)
            have m2 : decide ((rd_T31 L j).f1 < 1) = false := decide_eq_false (by omega)
            have m3 : decide (4 < (rd_T31 L j).f1) = false := decide_eq_false (by omega)
            have j0 : (0 : Int) ≤ (j : Int) := by omega
            have j1 : (j : Int) < (L.length : Int) := by omega
            have j2 : decide ((j : Int) < (L.length : Int)) = true := decide_eq_true j1
            have jw : IntKind.i64.wrap ((j : Int) + 1) = ((j + 1 : Nat) : Int) := by rw [IntKind.wrap_i64]; omega
            replace hm := Aside0.mk hm
            obtain ⟨gk', rfl⟩ : ∃ gk', gk = gk' + 1 := ⟨gk - 1, by omega⟩
            go_wp2_with (go_at_call 15; (with_reducible refine (all2_k hT.out L.length rfl (by omega)).mono ?_); rintro e w6 ⟨A, c, rfl, hc, hR, hb1⟩; have hT2 := Aside0.mk (hT.out.below hb1); clear hT hb1; have hT := hT2; clear hT2; obtain ⟨ad2, rfl, c0, c1, c2⟩ := at_T31 (Kd.R_reads' hR).2.2 (j : Int) j0 j1; rw [Int.toNat_natCast] at c0 c1 c2; clear hR hc)
            go_roundg gk'
            case measure => exact Nat.lt_succ_self _
            case rel => exact ⟨j + 1, rfl, by omega, by omega, (hT.out.alloc _).mono (fun _ h => h.elim)⟩
          · have j2 : decide ((L.length : Int) < (L.length : Int)) = false := decide_eq_false (by omega)
            have jw : IntKind.i64.wrap ((L.length : Int) + (M.length : Int)) = (L.length : Int) + (M.length : Int) := by rw [IntKind.wrap_i64]; omega
            obtain rfl : j = L.length := by omega
            clear hL hM
            go_wp2_with (first
              | (go_at_call 15; (with_reducible refine (all2_k hT.out L.length rfl (by omega)).mono ?_); rintro e w6 ⟨A, c, rfl, hc, hR, hb1⟩; have hT2 := Aside0.mk (hT.out.below hb1); clear hT hb1 hR hc; have hT := hT2; clear hT2)
              | (go_at_call 15; (with_reducible refine (all2_k hT.out.swap M.length rfl (by omega)).mono ?_); rintro e w6 ⟨A, c, rfl, hc, hR, hb1⟩; have hT2 := Aside0.mk (hT.out.below hb1); clear hT hb1 hR hc; have hT := hT2; clear hT2))
            go_ret
            exact ⟨rfl, hT.out.base⟩
    · have d1 : decide ((k : Int) < (l.length : Int)) = false := decide_eq_false (by omega)
      replace hT := Aside0.mk hT
      go_wp2_with fail
      go_loopg [10] L.length (fun gk i wr => ApartAt2 w L M ga gb gk i wr)
      case atStart => exact ⟨0, rfl, by omega, by omega, hT.out⟩
      case round =>
        clear hT
        obtain ⟨j, rfl, hj, hjk, hT⟩ := hrel
        replace hT := Aside0.mk hT
        by_cases hjl : j < L.length
        · have hm := hL.out (rd_T31 L j) (rd_mem L j hjl)
          unfold mayF at hm
          rw [decide_eq_true_eq] at hm
          have m0 : decide ((rd_T31 L j).f0 < 1) = false := decide_eq_false (by omega)
          have m1 : decide (4 < (rd_T31 L j).f0) = false := decide_eq_false (by omega)
          have m2 : decide ((rd_T31 L j).f1 < 1) = false := decide_eq_false (by omega)
          have m3 : decide (4 < (rd_T31 L j).f1) = false := decide_eq_false (by omega)
          have j0 : (0 : Int) ≤ (j : Int) := by omega
          have j1 : (j : Int) < (L.length : Int) := by omega
          have j2 : decide ((j : Int) < (L.length : Int)) = true := decide_eq_true j1
          have jw : IntKind.i64.wrap ((j : Int) + 1) = ((j + 1 : Nat) : Int) := by rw [IntKind.wrap_i64]; omega
          replace hm := Aside0.mk hm
          obtain ⟨gk', rfl⟩ : ∃ gk', gk = gk' + 1 := ⟨gk - 1, by omega⟩
          go_wp2_with (go_at_call 15; (with_reducible refine (all2_k hT.out L.length rfl (by omega)).mono ?_); rintro e w6 ⟨A, c, rfl, hc, hR, hb1⟩; have hT2 := Aside0.mk (hT.out.below hb1); clear hT hb1; have hT := hT2; clear hT2; obtain ⟨ad2, rfl, c0, c1, c2⟩ := at_T31 (Kd.R_reads' hR).2.2 (j : Int) j0 j1; rw [Int.toNat_natCast] at c0 c1 c2; clear hR hc)
          go_roundg gk'
          case measure => exact Nat.lt_succ_self _
          case rel => exact ⟨j + 1, rfl, by omega, by omega, (hT.out.alloc _).mono (fun _ h => h.elim)⟩
        · have j2 : decide ((L.length : Int) < (L.length : Int)) = false := decide_eq_false (by omega)
          have jw : IntKind.i64.wrap ((L.length : Int) + (M.length : Int)) = (L.length : Int) + (M.length : Int) := by rw [IntKind.wrap_i64]; omega
          obtain rfl : j = L.length := by omega
          clear hL hM
          go_wp2_with (first
            | (go_at_call 15; (with_reducible refine (all2_k hT.out L.length rfl (by omega)).mono ?_); rintro e w6 ⟨A, c, rfl, hc, hR, hb1⟩; have hT2 := Aside0.mk (hT.out.below hb1); clear hT hb1 hR hc; have hT := hT2; clear hT2)
            | (go_at_call 15; (with_reducible refine (all2_k hT.out.swap M.length rfl (by omega)).mono ?_); rintro e w6 ⟨A, c, rfl, hc, hR, hb1⟩; have hT2 := Aside0.mk (hT.out.below hb1); clear hT hb1 hR hc; have hT := hT2; clear hT2))
          go_ret
          exact ⟨rfl, hT.out.base⟩

end Go.Proofs.Ytecagknnkbolgaa.NetW
