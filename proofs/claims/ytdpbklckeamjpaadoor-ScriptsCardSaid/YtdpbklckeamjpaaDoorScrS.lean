/- ScriptBack's code, step by step. -/
import Derived.Test.YtdpbklckeamjpaaDoorScrR
namespace Go.Proofs.YtdpbklckeamjpaaDoor.Scr
open Go.RowKit Go.Proofs.YtdpbklckeamjpaaDoorW.PrintWords Go.Proofs.YtdpbklckeamjpaaDoorW.PrintLast Go.Proofs.YtdpbklckeamjpaaDoorW.PrintMore Go.Proofs.YtdpbklckeamjpaaDoor.PScripts

theorem text_back {s : ByteArray} {c : List S36} (h : s.data.toList = tellT c) : (⟨(tellT c).toArray⟩ : ByteArray) = s := by
  rw [← h]
theorem parse_none (W : World) (s : ByteArray) (hv : Vars W) (hs : s.size ≤ 281474976710656) (h : ¬ ∃ c, okB c = true ∧ s.data.toList = tellT c) :
    Calls Tryd.prog 11 #[.string s] W fun e W' => e = .returned (.tuple #[.slice none 0 0, .int .i64 2300]) ∧ Below W.heap.size W W' :=
  parse_no W s hv hs fun c hc e => h ⟨c, hc, e⟩

set_option maxHeartbeats 8000000 in
set_option maxRecDepth 100000 in
theorem back_00 (A : Option Addr) (L : List S36) (cap : Nat) (s : ByteArray) (W : World) (hv : Vars W) (hc : L.length ≤ cap) (hC : Kd.C k36 W A L.length L) (hs : s.size ≤ 281474976710656) (hok : okB L = false) (hno : ¬ ∃ c, okB c = true ∧ s.data.toList = tellT c) :
    Calls Tryd.prog 6 #[.slice A L.length cap, .string s] W fun e w' => e = .returned (.bool true) ∧ Below W.heap.size W w' := by
  replace hv := Aside0.mk hv
  replace hC := Aside0.mk hC
  replace hc := Aside0.mk hc
  replace hs := Aside0.mk hs
  have hU := Aside0.mk (showF_no hok)
  clear hok
  replace hno := Aside0.mk hno
  go_enter Tryd.func6, Tryd.ntmps6
  go_wp2_with (first
    | (go_at_call 8; (with_reducible refine (awake_calls _ hv.out).mono ?_); rintro e w1 ⟨rfl, hb1⟩; replace hC := Aside0.mk (Kd.C_below hC.out hb1); replace hb1 := Aside0.mk hb1)
    | (go_at_call 9; (with_reducible refine (show_all w1 A L cap (hv.out.below hb1.out) hC.out _ _ hU.out).mono ?_); rintro e w2 ⟨rfl, hb2⟩; replace hC := Aside0.mk (Kd.C_below hC.out hb2); replace hb2 := Aside0.mk (below_step hb1.out hb2 hb1.out.size))
    | (go_at_call 10; (with_reducible refine (num_same _ _).mono ?_); rintro e wn ⟨rfl, rfl⟩)
    | (go_at_call 11; (with_reducible refine (parse_none w2 s (hv.out.below hb2.out) hs.out hno.out).mono ?_); rintro e w5 ⟨rfl, hb5⟩; replace hb5 := Aside0.mk (below_step hb2.out hb5 hb2.out.size)))
  all_goals go_ret
  all_goals exact ⟨rfl, hb5.out⟩

set_option maxHeartbeats 8000000 in
set_option maxRecDepth 100000 in
theorem back_01 (A : Option Addr) (L : List S36) (cap : Nat) (s : ByteArray) (W : World) (hv : Vars W) (hc : L.length ≤ cap) (hC : Kd.C k36 W A L.length L) (hs : s.size ≤ 281474976710656) (hok : okB L = false) (c : List S36) (hcok : okB c = true) (hce : s.data.toList = tellT c) :
    Calls Tryd.prog 6 #[.slice A L.length cap, .string s] W fun e w' => e = .returned (.bool true) ∧ Below W.heap.size W w' := by
  replace hv := Aside0.mk hv
  replace hC := Aside0.mk hC
  replace hc := Aside0.mk hc
  replace hs := Aside0.mk hs
  have hU := Aside0.mk (showF_no hok)
  clear hok
  have hT := showF_ok hcok
  rw [text_back hce] at hT
  replace hT := Aside0.mk hT
  replace hcok := Aside0.mk hcok
  replace hce := Aside0.mk hce
  go_enter Tryd.func6, Tryd.ntmps6
  go_wp2_with (first
    | (go_at_call 8; (with_reducible refine (awake_calls _ hv.out).mono ?_); rintro e w1 ⟨rfl, hb1⟩; replace hC := Aside0.mk (Kd.C_below hC.out hb1); replace hb1 := Aside0.mk hb1)
    | (go_at_call 9; (with_reducible refine (show_all w1 A L cap (hv.out.below hb1.out) hC.out _ _ hU.out).mono ?_); rintro e w2 ⟨rfl, hb2⟩; replace hC := Aside0.mk (Kd.C_below hC.out hb2); replace hb2 := Aside0.mk (below_step hb1.out hb2 hb1.out.size))
    | (go_at_call 10; (with_reducible refine (num_same _ _).mono ?_); rintro e wn ⟨rfl, rfl⟩)
    | (go_at_call 11; (with_reducible refine (parse_in w2 s (hv.out.below hb2.out) hs.out c c.length rfl hcok.out hce.out).mono ?_); rintro e w5 ⟨A5, c5, rfl, hb5, hcap5, hC5⟩; replace hC5 := Aside0.mk hC5; replace hcap5 := Aside0.mk hcap5; replace hb5 := Aside0.mk (below_step hb2.out hb5 hb2.out.size))
    | (go_at_call 9; (with_reducible refine (show_all w5 A5 c c5 (hv.out.below hb5.out) hC5.out _ _ hT.out).mono ?_); rintro e w6 ⟨rfl, hb6⟩; replace hb6 := Aside0.mk (below_step hb5.out hb6 hb5.out.size)))
  all_goals go_ret
  all_goals exact ⟨rfl, hb6.out⟩

set_option maxHeartbeats 8000000 in
set_option maxRecDepth 100000 in
theorem back_10 (A : Option Addr) (L : List S36) (cap : Nat) (s : ByteArray) (W : World) (hv : Vars W) (hc : L.length ≤ cap) (hC : Kd.C k36 W A L.length L) (hs : s.size ≤ 281474976710656) (hok : okB L = true) (hno : ¬ ∃ c, okB c = true ∧ s.data.toList = tellT c) :
    Calls Tryd.prog 6 #[.slice A L.length cap, .string s] W fun e w' => e = .returned (.bool true) ∧ Below W.heap.size W w' := by
  replace hv := Aside0.mk hv
  replace hC := Aside0.mk hC
  replace hc := Aside0.mk hc
  replace hs := Aside0.mk hs
  have tS : (tellT L).length ≤ 256000 := Nat.le_trans (tellT_length (ok_may hok).2) (by have := (ok_may hok).1; omega)
  have hl := Aside0.mk (ok_may hok).1
  have hU := showF_ok hok
  obtain ⟨u, hu⟩ : ∃ u : ByteArray, u = ⟨(tellT L).toArray⟩ := ⟨_, rfl⟩
  rw [← hu] at hU
  have hzu : u.size ≤ 281474976710656 := by rw [hu]; have : (tellT L).length ≤ 281474976710656 := by omega
                                            simpa [ByteArray.size] using this
  have hst : u.data.toList = tellT L := by rw [hu]
  clear hu tS
  replace hzu := Aside0.mk hzu
  replace hst := Aside0.mk hst
  replace hU := Aside0.mk hU
  replace hok := Aside0.mk hok
  replace hno := Aside0.mk hno
  go_enter Tryd.func6, Tryd.ntmps6
  go_wp2_with (first
    | (go_at_call 8; (with_reducible refine (awake_calls _ hv.out).mono ?_); rintro e w1 ⟨rfl, hb1⟩; replace hC := Aside0.mk (Kd.C_below hC.out hb1); replace hb1 := Aside0.mk hb1)
    | (go_at_call 9; (with_reducible refine (show_all w1 A L cap (hv.out.below hb1.out) hC.out _ _ hU.out).mono ?_); rintro e w2 ⟨rfl, hb2⟩; replace hC := Aside0.mk (Kd.C_below hC.out hb2); replace hb2 := Aside0.mk (below_step hb1.out hb2 hb1.out.size))
    | (go_at_call 10; (with_reducible refine (num_same _ _).mono ?_); rintro e wn ⟨rfl, rfl⟩)
    | (go_at_call 11; (with_reducible refine (parse_in w2 _ (hv.out.below hb2.out) hzu.out L L.length rfl hok.out hst.out).mono ?_); rintro e w3 ⟨A3, c3, rfl, hb3, hcap3, hC3⟩; replace hC := Aside0.mk (Kd.C_below hC.out hb3); replace hC3 := Aside0.mk hC3; replace hcap3 := Aside0.mk hcap3; replace hb3 := Aside0.mk (below_step hb2.out hb3 hb2.out.size))
    | (go_at_call 12; (with_reducible refine (same_in A cap L L.length rfl A3 c3 _ hl.out hC.out hc.out hC3.out hcap3.out).mono ?_); rintro e w4 ⟨rfl, hb4⟩; replace hb4 := Aside0.mk (below_step hb3.out hb4 hb3.out.size))
    | (go_at_call 11; (with_reducible refine (parse_none w4 s (hv.out.below hb4.out) hs.out hno.out).mono ?_); rintro e w5 ⟨rfl, hb5⟩; replace hb5 := Aside0.mk (below_step hb4.out hb5 hb4.out.size)))
  all_goals go_ret
  all_goals exact ⟨rfl, hb5.out⟩

set_option maxHeartbeats 8000000 in
set_option maxRecDepth 100000 in
theorem back_11 (A : Option Addr) (L : List S36) (cap : Nat) (s : ByteArray) (W : World) (hv : Vars W) (hc : L.length ≤ cap) (hC : Kd.C k36 W A L.length L) (hs : s.size ≤ 281474976710656) (hok : okB L = true) (c : List S36) (hcok : okB c = true) (hce : s.data.toList = tellT c) :
    Calls Tryd.prog 6 #[.slice A L.length cap, .string s] W fun e w' => e = .returned (.bool true) ∧ Below W.heap.size W w' := by
  replace hv := Aside0.mk hv
  replace hC := Aside0.mk hC
  replace hc := Aside0.mk hc
  replace hs := Aside0.mk hs
  have tS : (tellT L).length ≤ 256000 := Nat.le_trans (tellT_length (ok_may hok).2) (by have := (ok_may hok).1; omega)
  have hl := Aside0.mk (ok_may hok).1
  have hU := showF_ok hok
  obtain ⟨u, hu⟩ : ∃ u : ByteArray, u = ⟨(tellT L).toArray⟩ := ⟨_, rfl⟩
  rw [← hu] at hU
  have hzu : u.size ≤ 281474976710656 := by rw [hu]; have : (tellT L).length ≤ 281474976710656 := by omega
                                            simpa [ByteArray.size] using this
  have hst : u.data.toList = tellT L := by rw [hu]
  clear hu tS
  replace hzu := Aside0.mk hzu
  replace hst := Aside0.mk hst
  replace hU := Aside0.mk hU
  replace hok := Aside0.mk hok
  have hT := showF_ok hcok
  rw [text_back hce] at hT
  replace hT := Aside0.mk hT
  replace hcok := Aside0.mk hcok
  replace hce := Aside0.mk hce
  go_enter Tryd.func6, Tryd.ntmps6
  go_wp2_with (first
    | (go_at_call 8; (with_reducible refine (awake_calls _ hv.out).mono ?_); rintro e w1 ⟨rfl, hb1⟩; replace hC := Aside0.mk (Kd.C_below hC.out hb1); replace hb1 := Aside0.mk hb1)
    | (go_at_call 9; (with_reducible refine (show_all w1 A L cap (hv.out.below hb1.out) hC.out _ _ hU.out).mono ?_); rintro e w2 ⟨rfl, hb2⟩; replace hC := Aside0.mk (Kd.C_below hC.out hb2); replace hb2 := Aside0.mk (below_step hb1.out hb2 hb1.out.size))
    | (go_at_call 10; (with_reducible refine (num_same _ _).mono ?_); rintro e wn ⟨rfl, rfl⟩)
    | (go_at_call 11; (with_reducible refine (parse_in w2 _ (hv.out.below hb2.out) hzu.out L L.length rfl hok.out hst.out).mono ?_); rintro e w3 ⟨A3, c3, rfl, hb3, hcap3, hC3⟩; replace hC := Aside0.mk (Kd.C_below hC.out hb3); replace hC3 := Aside0.mk hC3; replace hcap3 := Aside0.mk hcap3; replace hb3 := Aside0.mk (below_step hb2.out hb3 hb2.out.size))
    | (go_at_call 12; (with_reducible refine (same_in A cap L L.length rfl A3 c3 _ hl.out hC.out hc.out hC3.out hcap3.out).mono ?_); rintro e w4 ⟨rfl, hb4⟩; replace hb4 := Aside0.mk (below_step hb3.out hb4 hb3.out.size))
    | (go_at_call 11; (with_reducible refine (parse_in w4 s (hv.out.below hb4.out) hs.out c c.length rfl hcok.out hce.out).mono ?_); rintro e w5 ⟨A5, c5, rfl, hb5, hcap5, hC5⟩; replace hC5 := Aside0.mk hC5; replace hcap5 := Aside0.mk hcap5; replace hb5 := Aside0.mk (below_step hb4.out hb5 hb4.out.size))
    | (go_at_call 9; (with_reducible refine (show_all w5 A5 c c5 (hv.out.below hb5.out) hC5.out _ _ hT.out).mono ?_); rintro e w6 ⟨rfl, hb6⟩; replace hb6 := Aside0.mk (below_step hb5.out hb6 hb5.out.size)))
  all_goals go_ret
  all_goals exact ⟨rfl, hb6.out⟩

theorem back_row (A : Option Addr) (L : List S36) (cap : Nat) (s : ByteArray) (W : World) (hv : Vars W) (hw : L.length ≤ cap ∧ Kd.C k36 W A L.length L) (hs : s.size ≤ 140737488351232) :
    Calls Tryd.prog 6 #[.slice A L.length cap, .string s] W fun e w' => e = .returned (.bool true) ∧ Below W.heap.size W w' := by
  have hs2 : s.size ≤ 281474976710656 := by omega
  by_cases hno : ∃ c, okB c = true ∧ s.data.toList = tellT c
  · obtain ⟨c, h1, h2⟩ := hno
    cases hok : okB L
    · exact back_01 A L cap s W hv hw.1 hw.2 hs2 hok c h1 h2
    · exact back_11 A L cap s W hv hw.1 hw.2 hs2 hok c h1 h2
  · cases hok : okB L
    · exact back_00 A L cap s W hv hw.1 hw.2 hs2 hok hno
    · exact back_10 A L cap s W hv hw.1 hw.2 hs2 hok hno
end Go.Proofs.YtdpbklckeamjpaaDoor.Scr
