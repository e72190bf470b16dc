/- ScriptRows's code, step by step. -/
import Derived.Test.YtdpbklckeamjpaaDoorScrQ
namespace Go.Proofs.YtdpbklckeamjpaaDoor.Scr
open Go.RowKit Go.Proofs.YtdpbklckeamjpaaDoorW.PrintWords Go.Proofs.YtdpbklckeamjpaaDoorW.PrintLast Go.Proofs.YtdpbklckeamjpaaDoorW.PrintMore Go.Proofs.YtdpbklckeamjpaaDoor.PScripts

theorem num_below (x : Int) (w : World) : Calls Tryd.prog 10 #[.int .i64 x] w fun e w' => e = .returned (.int .i64 x) ∧ Below w.heap.size w w' := (num_calls x w).mono fun _ _ h => ⟨h.1, by rw [h.2]; exact Below.refl _ _⟩

set_option maxHeartbeats 8000000 in
set_option maxRecDepth 100000 in
theorem rows_long (A : Option Addr) (n cap : Nat) (x : Int) (W : World) (hv : Vars W) (hl : 200 < n) :
    Calls Tryd.prog 3 #[.slice A n cap, .int .i64 x] W fun e w' => e = .returned (.bool true) ∧ Below W.heap.size W w' := by
  have d1 : decide ((200 : Int) < (n : Int)) = true := decide_eq_true (by omega)
  replace hv := Aside0.mk hv
  go_enter Tryd.func3, Tryd.ntmps3
  go_wp2_with (go_at_call 8; (with_reducible refine (awake_calls _ hv.out).mono ?_); rintro e w1 ⟨rfl, hb1⟩; replace hb1 := Aside0.mk hb1)
  go_ret
  exact ⟨rfl, hb1.out⟩

theorem num_same (x : Int) (w : World) : Calls Tryd.prog 10 #[.int .i64 x] w fun e w' => e = .returned (.int .i64 x) ∧ w = w' := (num_calls x w).mono fun _ _ h => ⟨h.1, h.2.symm⟩
theorem showF_pair {L : List S36} {s : ByteArray} {e : Int} (h : showF L = (s, e)) {Q : ByteArray → Int → Prop} (hq : Q (showF L).1 (showF L).2) : Q s e := by rw [h] at hq; exact hq
theorem showF_ok {L : List S36} (h : okB L = true) : showF L = (⟨(tellT L).toArray⟩, 0) := by unfold showF; rw [if_pos h]
theorem showF_no {L : List S36} (h : okB L = false) : showF L = (⟨#[]⟩, 2300) := by unfold showF; rw [if_neg (by rw [h]; decide)]
theorem show_all (w : World) (A : Option Addr) (L : List S36) (cap : Nat) (hv : Vars w) (hC : Kd.C k36 w A L.length L) (s : ByteArray) (e : Int) (h : showF L = (s, e)) :
    Calls Tryd.prog 9 #[.slice A L.length cap] w fun r w' => r = .returned (.tuple #[.string s, .int .i64 e]) ∧ Below w.heap.size w w' := by
  have := show_calls w A L cap hv hC
  rw [h] at this
  exact this
theorem show_take (w : World) (A : Option Addr) (L : List S36) (k cap : Nat) (hv : Vars w) (hC : Kd.C k36 w A L.length L) (hk : k ≤ L.length) (s : ByteArray) (e : Int) (h : showF (L.take k) = (s, e)) :
    Calls Tryd.prog 9 #[.slice A k cap] w fun r w' => r = .returned (.tuple #[.string s, .int .i64 e]) ∧ Below w.heap.size w w' := by
  have h2 := show_all w A (L.take k) cap hv (Kd.C_take hC hk) s e h
  have e : (L.take k).length = k := by simp; omega
  rw [e] at h2
  exact h2
theorem show_drop (w : World) (A B : Option Addr) (L : List S36) (k n cap c : Nat) (hv : Vars w) (hC : Kd.C k36 w A L.length L) (hk : k ≤ L.length) (hc : L.length ≤ c) (hn : n = L.length - k) (hB : B = if c = k then A else A.map (·.add (k * 12))) (s : ByteArray) (e : Int) (h : showF (L.drop k) = (s, e)) :
    Calls Tryd.prog 9 #[.slice B n cap] w fun r w' => r = .returned (.tuple #[.string s, .int .i64 e]) ∧ Below w.heap.size w w' := by
  have hd := Kd.C_drop hC hk hc
  rw [show k36.sz = 12 from rfl, ← hB] at hd
  have h2 := show_all w B (L.drop k) cap hv hd s e h
  have e : (L.drop k).length = n := by simp; omega
  rw [e] at h2
  exact h2
theorem parse_in (W : World) (s : ByteArray) (hv : Vars W) (hs : s.size ≤ 281474976710656) (c : List S36) (n : Nat) (hn : c.length = n) (hc : okB c = true) (e : s.data.toList = tellT c) :
    Calls Tryd.prog 11 #[.string s] W fun e W' => ∃ A cap, e = .returned (.tuple #[.slice A n cap, .int .i64 0]) ∧ Below W.heap.size W W' ∧ n ≤ cap ∧ Kd.C k36 W' A n c := by
  subst hn
  exact parse_ok W s hv hs c hc e
theorem same_in (A0 : Option Addr) (c0 : Nat) (l : List S36) (n : Nat) (hn : l.length = n) (A1 : Option Addr) (c1 : Nat) (w : World) (hl : l.length ≤ 256) (hr0 : Kd.C k36 w A0 n l) (hc0 : n ≤ c0) (hr1 : Kd.C k36 w A1 n l) (hc1 : n ≤ c1) :
    Calls Tryd.prog 12 #[.slice A0 n c0, .slice A1 n c1] w fun e w' => e = .returned (.bool true) ∧ Below w.heap.size w w' := by
  subst hn
  exact (same_calls A0 c0 l A1 c1 w (by omega) hr0 hc0 hr1 hc1).mono fun _ _ ⟨h1, h2⟩ => ⟨h1, h2.below⟩
theorem ok_parts {L : List S36} (k : Nat) (hl : L.length ≤ 200) : okB L = (okB (L.take k) && okB (L.drop k)) := by
  unfold okB
  rw [decide_eq_true (by omega : L.length ≤ 256), decide_eq_true (by simp; omega : (L.take k).length ≤ 256), decide_eq_true (by simp; omega : (L.drop k).length ≤ 256)]
  simp only [Bool.true_and]
  rw [← List.all_append, List.take_append_drop]
theorem tell_parts (L : List S36) (k : Nat) : tellT L = tellT (L.take k) ++ tellT (L.drop k) := by
  unfold tellT
  rw [← List.flatMap_append, List.take_append_drop]

set_option maxHeartbeats 8000000 in
set_option maxRecDepth 100000 in
theorem rows_walk (A : Option Addr) (L : List S36) (cap : Nat) (x : Int) (k : Nat) (W : World) (hv : Vars W) (hl : L.length ≤ 200) (hc : L.length ≤ cap) (hC : Kd.C k36 W A L.length L) (hk : k ≤ L.length)
    (hq : (IntKind.u64.wrap x).tmod ((L.length : Int) + 1) = (k : Int)) :
    Calls Tryd.prog 3 #[.slice A L.length cap, .int .i64 x] W fun e w' => e = .returned (.bool true) ∧ Below W.heap.size W w' := by
  have d1 : decide ((200 : Int) < (L.length : Int)) = false := decide_eq_false (by omega)
  have w1_ : IntKind.i64.wrap ((L.length : Int) + 1) = (L.length : Int) + 1 := by rw [IntKind.wrap_i64]; omega
  have w2_ : IntKind.u64.wrap ((L.length : Int) + 1) = (L.length : Int) + 1 := by rw [IntKind.wrap_u64]; omega
  have w3_ : IntKind.i64.wrap (k : Int) = (k : Int) := by rw [IntKind.wrap_i64]; omega
  have hp := ok_parts (L := L) k hl
  replace hv := Aside0.mk hv
  replace hC := Aside0.mk hC
  by_cases hS : okB (L.take k) = true
  · by_cases hT : okB (L.drop k) = true
    · have hok : okB L = true := by rw [hp, hS, hT]; rfl
      have tS : (tellT (L.take k)).length ≤ 200000 := Nat.le_trans (tellT_length (ok_may hS).2) (by simp; omega)
      have tT : (tellT (L.drop k)).length ≤ 200000 := Nat.le_trans (tellT_length (ok_may hT).2) (by simp; omega)
      replace hS := showF_ok hS
      replace hT := showF_ok hT
      have hU := showF_ok hok
      have hcat := tell_parts L k
      obtain ⟨s, hs⟩ : ∃ s : ByteArray, s = ⟨(tellT (L.take k)).toArray⟩ := ⟨_, rfl⟩
      obtain ⟨t, ht⟩ : ∃ t : ByteArray, t = ⟨(tellT (L.drop k)).toArray⟩ := ⟨_, rfl⟩
      obtain ⟨u, hu⟩ : ∃ u : ByteArray, u = ⟨(tellT L).toArray⟩ := ⟨_, rfl⟩
      rw [← hs] at hS
      rw [← ht] at hT
      rw [← hu] at hU
      have zs : s.size ≤ 200000 := by rw [hs]; simpa [ByteArray.size] using tS
      have zt : t.size ≤ 200000 := by rw [ht]; simpa [ByteArray.size] using tT
      have hst : (s ++ t).data.toList = tellT L := by rw [ByteArray.data_append, Array.toList_append, hs, ht, hcat]
      have hz : (s ++ t).size ≤ 281474976710656 := by rw [ByteArray.size_append]; omega
      have hus : u = s ++ t := by
        apply ByteArray.ext
        apply Array.ext'
        rw [hst, hu]
      have hsum : (9223372036854775807 < s.size + t.size) = False := eq_false (by omega)
      clear hs ht hu tS tT hcat hp zs zt
      subst hus
      replace hok := Aside0.mk hok
      replace hst := Aside0.mk hst
      replace hz := Aside0.mk hz
      replace hS := Aside0.mk hS
      replace hT := Aside0.mk hT
      replace hU := Aside0.mk hU
      go_enter Tryd.func3, Tryd.ntmps3
      go_wp2_with (first
        | (go_at_call 8; (with_reducible refine (awake_calls _ hv.out).mono ?_); rintro e w1 ⟨rfl, hb1⟩; replace hC := Aside0.mk (Kd.C_below hC.out hb1); replace hb1 := Aside0.mk hb1)
        | (go_at_call 9; (with_reducible refine (show_take w1 A L k cap (hv.out.below hb1.out) hC.out hk _ _ hS.out).mono ?_); rintro e w2 ⟨rfl, hb2⟩; replace hC := Aside0.mk (Kd.C_below hC.out hb2); replace hb2 := Aside0.mk (below_step hb1.out hb2 hb1.out.size))
        | (go_at_call 9; (with_reducible refine (show_drop w2 A _ L k _ _ cap (hv.out.below hb2.out) hC.out hk hc (by omega) rfl _ _ hT.out).mono ?_); rintro e w3 ⟨rfl, hb3⟩; replace hC := Aside0.mk (Kd.C_below hC.out hb3); replace hb3 := Aside0.mk (below_step hb2.out hb3 hb2.out.size))
        | (go_at_call 9; (with_reducible refine (show_all w3 A L cap (hv.out.below hb3.out) hC.out _ _ hU.out).mono ?_); rintro e w4 ⟨rfl, hb4⟩; replace hC := Aside0.mk (Kd.C_below hC.out hb4); replace hb4 := Aside0.mk (below_step hb3.out hb4 hb3.out.size))
        | (go_at_call 10; (with_reducible refine (num_same _ _).mono ?_); rintro e wn ⟨rfl, rfl⟩)
        | (go_at_call 11; (with_reducible refine (parse_in w4 _ (hv.out.below hb4.out) hz.out L L.length rfl hok.out hst.out).mono ?_); rintro e w5 ⟨A5, c5, rfl, hb5, hcap5, hC5⟩; replace hC := Aside0.mk (Kd.C_below hC.out hb5); replace hC5 := Aside0.mk hC5; replace hcap5 := Aside0.mk hcap5; replace hb5 := Aside0.mk (below_step hb4.out hb5 hb4.out.size))
        | (go_at_call 12; (with_reducible refine (same_in A5 c5 L L.length rfl A cap _ (by omega) hC5.out hcap5.out hC.out hc).mono ?_); rintro e w6 ⟨rfl, hb6⟩; replace hb6 := Aside0.mk (below_step hb5.out hb6 hb5.out.size)))
      all_goals go_ret
      all_goals exact ⟨rfl, hb6.out⟩
    · have hT2 : okB (L.drop k) = false := Bool.eq_false_iff.2 hT
      have hok : okB L = false := by rw [hp, hT2, Bool.and_false]
      clear hp
      replace hS := Aside0.mk (showF_ok hS)
      replace hT := Aside0.mk (showF_no hT2)
      have hU := Aside0.mk (showF_no hok)
      clear hT2 hok
      go_enter Tryd.func3, Tryd.ntmps3
      go_wp2_with (first
        | (go_at_call 8; (with_reducible refine (awake_calls _ hv.out).mono ?_); rintro e w1 ⟨rfl, hb1⟩; replace hC := Aside0.mk (Kd.C_below hC.out hb1); replace hb1 := Aside0.mk hb1)
        | (go_at_call 9; (with_reducible refine (show_take w1 A L k cap (hv.out.below hb1.out) hC.out hk _ _ hS.out).mono ?_); rintro e w2 ⟨rfl, hb2⟩; replace hC := Aside0.mk (Kd.C_below hC.out hb2); replace hb2 := Aside0.mk (below_step hb1.out hb2 hb1.out.size))
        | (go_at_call 9; (with_reducible refine (show_drop w2 A _ L k _ _ cap (hv.out.below hb2.out) hC.out hk hc (by omega) rfl _ _ hT.out).mono ?_); rintro e w3 ⟨rfl, hb3⟩; replace hC := Aside0.mk (Kd.C_below hC.out hb3); replace hb3 := Aside0.mk (below_step hb2.out hb3 hb2.out.size))
        | (go_at_call 9; (with_reducible refine (show_all w3 A L cap (hv.out.below hb3.out) hC.out _ _ hU.out).mono ?_); rintro e w4 ⟨rfl, hb4⟩; replace hC := Aside0.mk (Kd.C_below hC.out hb4); replace hb4 := Aside0.mk (below_step hb3.out hb4 hb3.out.size))
        | (go_at_call 10; (with_reducible refine (num_same _ _).mono ?_); rintro e wn ⟨rfl, rfl⟩))
      all_goals go_ret
      all_goals exact ⟨rfl, hb4.out⟩
  · have hS2 : okB (L.take k) = false := Bool.eq_false_iff.2 hS
    have hok : okB L = false := by rw [hp, hS2, Bool.false_and]
    have hU := Aside0.mk (showF_no hok)
    obtain ⟨t, et, hT⟩ : ∃ t et, showF (L.drop k) = (t, et) := ⟨_, _, rfl⟩
    replace hS := Aside0.mk (showF_no hS2)
    replace hT := Aside0.mk hT
    clear hp hS2 hok
    go_enter Tryd.func3, Tryd.ntmps3
    go_wp2_with (first
      | (go_at_call 8; (with_reducible refine (awake_calls _ hv.out).mono ?_); rintro e w1 ⟨rfl, hb1⟩; replace hC := Aside0.mk (Kd.C_below hC.out hb1); replace hb1 := Aside0.mk hb1)
      | (go_at_call 9; (with_reducible refine (show_take w1 A L k cap (hv.out.below hb1.out) hC.out hk _ _ hS.out).mono ?_); rintro e w2 ⟨rfl, hb2⟩; replace hC := Aside0.mk (Kd.C_below hC.out hb2); replace hb2 := Aside0.mk (below_step hb1.out hb2 hb1.out.size))
      | (go_at_call 9; (with_reducible refine (show_drop w2 A _ L k _ _ cap (hv.out.below hb2.out) hC.out hk hc (by omega) rfl _ _ hT.out).mono ?_); rintro e w3 ⟨rfl, hb3⟩; replace hC := Aside0.mk (Kd.C_below hC.out hb3); replace hb3 := Aside0.mk (below_step hb2.out hb3 hb2.out.size))
      | (go_at_call 9; (with_reducible refine (show_all w3 A L cap (hv.out.below hb3.out) hC.out _ _ hU.out).mono ?_); rintro e w4 ⟨rfl, hb4⟩; replace hC := Aside0.mk (Kd.C_below hC.out hb4); replace hb4 := Aside0.mk (below_step hb3.out hb4 hb3.out.size))
      | (go_at_call 10; (with_reducible refine (num_same _ _).mono ?_); rintro e wn ⟨rfl, rfl⟩))
    all_goals go_ret
    all_goals exact ⟨rfl, hb4.out⟩

theorem rows_row (A : Option Addr) (L : List S36) (cap : Nat) (x : Int) (W : World) (hv : Vars W) (hw : L.length ≤ cap ∧ Kd.C k36 W A L.length L) :
    Calls Tryd.prog 3 #[.slice A L.length cap, .int .i64 x] W fun e w' => e = .returned (.bool true) ∧ Below W.heap.size W w' := by
  by_cases hl : L.length ≤ 200
  · have hu : 0 ≤ IntKind.u64.wrap x := by rw [IntKind.wrap_u64]; omega
    have hq := Int.tmod_eq_emod_of_nonneg (b := (L.length : Int) + 1) hu
    have h0 := Int.emod_nonneg (IntKind.u64.wrap x) (by omega : (L.length : Int) + 1 ≠ 0)
    have h1 := Int.emod_lt_of_pos (IntKind.u64.wrap x) (by omega : (0 : Int) < (L.length : Int) + 1)
    rw [← hq] at h0 h1
    obtain ⟨k, hk⟩ := Int.eq_ofNat_of_zero_le h0
    exact rows_walk A L cap x k W hv hl hw.1 hw.2 (by omega) hk
  · exact rows_long A L.length cap x W hv (by omega)
end Go.Proofs.YtdpbklckeamjpaaDoor.Scr
