/- The document's ParseActs, step by step. -/
import Derived.Test.YtdpbklckeamjpaaDoorWordsX
import Derived.Test.YtdpbklckeamjpaaDoorWApart
import Derived.Test.YtdpbklckeamjpaaDoorWKept
namespace Go.Proofs.YtdpbklckeamjpaaDoor.Scr
open Go.RowKit Go.Proofs.YtdpbklckeamjpaaDoorW.PrintWords Go.Proofs.YtdpbklckeamjpaaDoorW.PrintLast Go.Proofs.YtdpbklckeamjpaaDoorW.PrintMore Go.Proofs.YtdpbklckeamjpaaDoor.PScripts

theorem built36_at (W : World) (a : S36) (n : Nat) (hn : W.heap.size = n) : Kd.C k36 (W.alloc (.cells (cells12 a) 36)) (some ⟨n, 0, none⟩) 1 [a] := by
  subst hn
  exact built36 W a
/-- What holds at a round's head. -/
def RefParseAt (W : World) (g : Nat) (s : ByteArray) (gk : Nat) (v : Value) (wr : World) : Prop :=
  ∃ (out : List S36) (n : Nat) (bk : Bool), out.length + gk = 257 ∧ Kd.R k36 36 wr W.heap.size (fun _ => True) v out ∧ Words wr g s n bk ∧ n ≤ s.size + 20 ∧ Sofar s out (restB s n) bk ∧ Below W.heap.size W wr

set_option maxHeartbeats 8000000 in
set_option maxRecDepth 100000 in
theorem refParse_walk (W : World) (s : ByteArray) (hs : s.size ≤ 281474976710656) :
    Calls Tryd.prog 15 #[.string s] W fun e W' => Below W.heap.size W W' ∧ ((∃ v c, e = .returned (.tuple #[v, .int .i64 0]) ∧ Kd.R k36 36 W' W.heap.size (fun _ => True) v c ∧ okB c = true ∧ s.data.toList = tellT c) ∨ (e = .returned (.tuple #[.slice none 0 0, .int .i64 2300]) ∧ ∀ c, okB c = true → s.data.toList ≠ tellT c)) := by
  obtain ⟨g, hg⟩ : ∃ g, g = W.heap.size := ⟨_, rfl⟩
  have hstart : Aside0 (RefParseAt W g s 257 (.slice none 0 0) (W.alloc (.cells #[.string s, .int .i64 0, .bool false] 68))) := ⟨[], 0, false, rfl, Kd.R_nil _ _ _ _ _, ⟨by rw [hg]; exact heap_alloc_new W _⟩, by omega, fun c hc hs => ⟨rfl, 0, by omega, by simp, by simpa [restB_list] using hs⟩, below_alloc (Below.refl _ _) _⟩
  have hgw : W.heap.size ≤ g := by omega
  go_enter Tryd.func15, Tryd.ntmps15
  go_wp2_with fail
  rw [← hg]
  clear hg
  generalize W.alloc (.cells #[.string s, .int .i64 0, .bool false] 68) = W1 at *
  go_loopg [4] 257 (fun gk v wr => RefParseAt W g s gk v wr)
  case atStart => exact hstart.out
  case round =>
    clear hstart
    obtain ⟨out, n, bk, hlen, hR, hT, hn20, hso, hB⟩ := hrel
    obtain ⟨A, c, rfl⟩ := Kd.R_slice hR
    obtain ⟨p0, p1, p2⟩ := hT.cells
    have hgv : some g ≠ (Value.slice A out.length c).ownBlock := Kd.R_ne hR hT.out (by decide)
    have hgl := hT.lt
    replace hR := Aside0.mk hR
    replace hT := Aside0.mk hT
    replace hso := Aside0.mk hso
    replace hB := Aside0.mk hB
    by_cases hz : n < s.size
    · have d0 : decide ((n : Int) < (s.size : Int)) = true := decide_eq_true (by omega)
      have hne : Aside0 ((restB s n).data.toList ≠ []) := ⟨by rw [restB_list, drop_at hz]; simp⟩
      by_cases hb0 : bk = true
      · have hstop : (restB s n).data.toList = [] ∨ bk = true ∨ 256 < out.length := .inr (.inl hb0)
        clear hT
        replace hb0 := Aside0.mk hb0
        have hend := Aside0.mk (sofar_end hso.out hstop)
        clear hstop hso
        have hno : ∀ {P : Prop}, (∀ c', okB c' = true → s.data.toList = tellT c' → bk = false ∧ out = c') → (bk = true ∨ okB out = false ∨ tellT out ≠ s.data.toList) → ∀ c', okB c' = true → s.data.toList ≠ tellT c' := by
          intro _ h1 h2 c' hc' e
          obtain ⟨e1, e2⟩ := h1 c' hc' e
          subst e2
          rcases h2 with h | h | h
          · rw [e1] at h
            cases h
          · rw [hc'] at h
            cases h
          · exact h e.symm
        replace hno := Aside0.mk (hno (P := True))
        have hsh := fun w1 (hb : Below wr.heap.size wr w1) => refShow_calls w1 A out c (Kd.C_below (Kd.R_reads' hR.out).2.2 hb)
        by_cases hbk : bk = true
        · subst hbk
          replace hsh := Aside0.mk hsh
          go_wp2_with (go_at_call 14; (with_reducible refine (hsh.out _ (Below.refl _ _)).mono ?_); rintro e w1 ⟨rfl, hb1⟩; replace p2 := pw_cell_below hb1 p2; have hB1 := Aside0.mk (below_step hB.out hb1 hB.out.size); clear hb1)
          go_ret2
          exact ⟨hB1.out, .inr ⟨rfl, hno.out hend.out (.inl (by first | trivial | rfl))⟩⟩
        · exact absurd hb0.out hbk
      · by_cases h256 : 256 < out.length
        · have d1 : decide ((out.length : Int) ≤ 256) = false := decide_eq_false (by omega)
          have hstop : (restB s n).data.toList = [] ∨ bk = true ∨ 256 < out.length := .inr (.inr h256)
          clear hT hb0
          have hend := Aside0.mk (sofar_end hso.out hstop)
          clear hstop hso
          have hno : ∀ {P : Prop}, (∀ c', okB c' = true → s.data.toList = tellT c' → bk = false ∧ out = c') → (bk = true ∨ okB out = false ∨ tellT out ≠ s.data.toList) → ∀ c', okB c' = true → s.data.toList ≠ tellT c' := by
            intro _ h1 h2 c' hc' e
            obtain ⟨e1, e2⟩ := h1 c' hc' e
            subst e2
            rcases h2 with h | h | h
            · rw [e1] at h
              cases h
            · rw [hc'] at h
              cases h
            · exact h e.symm
          replace hno := Aside0.mk (hno (P := True))
          have hsh := fun w1 (hb : Below wr.heap.size wr w1) => refShow_calls w1 A out c (Kd.C_below (Kd.R_reads' hR.out).2.2 hb)
          by_cases hbk : bk = true
          · subst hbk
            replace hsh := Aside0.mk hsh
            go_wp2_with (go_at_call 14; (with_reducible refine (hsh.out _ (Below.refl _ _)).mono ?_); rintro e w1 ⟨rfl, hb1⟩; replace p2 := pw_cell_below hb1 p2; have hB1 := Aside0.mk (below_step hB.out hb1 hB.out.size); clear hb1)
            go_ret2
            exact ⟨hB1.out, .inr ⟨rfl, hno.out hend.out (.inl (by first | trivial | rfl))⟩⟩
          · have hbk' : bk = false := Bool.eq_false_iff.2 hbk
            subst hbk'
            by_cases hok : okB out = true
            · have hF : showF out = (⟨(tellT out).toArray⟩, 0) := by unfold showF; rw [if_pos hok]
              rw [hF] at hsh
              obtain ⟨u, hu⟩ : ∃ u : ByteArray, u = ⟨(tellT out).toArray⟩ := ⟨_, rfl⟩
              have hu2 : u.data.toList = tellT out := by rw [hu]
              rw [← hu] at hsh
              clear hu hF
              obtain ⟨b, hb⟩ : ∃ b, (u.toList == s.toList) = b := ⟨_, rfl⟩
              have hb2 : (u.toList != s.toList) = !b := by rw [← hb]; rfl
              replace hok := Aside0.mk hok
              replace hsh := Aside0.mk hsh
              cases b
              · have hx : tellT out ≠ s.data.toList := by
                  have hb' := hb
                  rw [beq_eq_false_iff_ne, ByteArray.toList_eq, ByteArray.toList_eq, hu2] at hb'
                  exact hb'
                replace hx := Aside0.mk hx
                replace hu2 := Aside0.mk hu2
                go_wp2_with (go_at_call 14; (with_reducible refine (hsh.out _ (Below.refl _ _)).mono ?_); rintro e w1 ⟨rfl, hb1⟩; replace p2 := pw_cell_below hb1 p2; have hB1 := Aside0.mk (below_step hB.out hb1 hB.out.size); clear hb1)
                go_ret2
                exact ⟨hB1.out, .inr ⟨rfl, hno.out hend.out (.inr (.inr hx.out))⟩⟩
              · have hx : s.data.toList = tellT out := by
                  have hb' := hb
                  rw [beq_iff_eq, ByteArray.toList_eq, ByteArray.toList_eq, hu2] at hb'
                  exact hb'.symm
                replace hx := Aside0.mk hx
                replace hu2 := Aside0.mk hu2
                go_wp2_with (go_at_call 14; (with_reducible refine (hsh.out _ (Below.refl _ _)).mono ?_); rintro e w1 ⟨rfl, hb1⟩; replace p2 := pw_cell_below hb1 p2; have hB1 := Aside0.mk (below_step hB.out hb1 hB.out.size); have hR1 := Aside0.mk (Kd.R_below hR.out hb1); clear hb1)
                go_ret2
                exact ⟨hB1.out, .inl ⟨_, out, rfl, hR1.out, hok.out, hx.out⟩⟩
            · have hok' : okB out = false := Bool.eq_false_iff.2 hok
              have hF : showF out = (⟨#[]⟩, 2300) := by unfold showF; rw [if_neg hok]
              rw [hF] at hsh
              clear hF
              replace hsh := Aside0.mk hsh
              replace hok' := Aside0.mk hok'
              clear hok
              go_wp2_with (go_at_call 14; (with_reducible refine (hsh.out _ (Below.refl _ _)).mono ?_); rintro e w1 ⟨rfl, hb1⟩; replace p2 := pw_cell_below hb1 p2; have hB1 := Aside0.mk (below_step hB.out hb1 hB.out.size); clear hb1)
              go_ret2
              exact ⟨hB1.out, .inr ⟨rfl, hno.out hend.out (.inr (.inl hok'.out))⟩⟩
        · have d1 : decide ((out.length : Int) ≤ 256) = true := decide_eq_true (by omega)
          have hbk' : bk = false := Bool.eq_false_iff.2 hb0
          subst hbk'
          obtain ⟨gk', rfl⟩ : ∃ gk', gk = gk' + 1 := ⟨gk - 1, by omega⟩
          clear hb0
          go_wp2_with (go_at_call 29; (with_reducible refine (wnum_calls wr g s n false hT.out hs (by omega)).mono ?_); rintro e w0 ⟨x0, n0, b0, rfl, r0, hW0, hk0⟩)
          have P0 : Aside0 (PSt W g w0.heap.size s (.slice A out.length c) out (w0.alloc (.cells #[.int .i64 (x0 : Int), .int .i64 0, .int .i64 0, .int .i64 0, .int .i64 0, .string ⟨#[]⟩, .int .i64 0, .string ⟨#[]⟩, .int .i64 0, .int .i64 0, .int .i64 0, .int .i64 0] 36)) n0 b0 ⟨(x0 : Int), 0, 0, 0, 0, ⟨#[]⟩, ⟨0, ⟨#[]⟩, 0, 0, 0, 0⟩⟩) := ⟨PSt.new hW0 hk0 hR.out hB.out hgw hgv ⟨(x0 : Int), 0, 0, 0, 0, ⟨#[]⟩, ⟨0, ⟨#[]⟩, 0, 0, 0, 0⟩⟩⟩
          have up0 := r0.up
          replace r0 := Aside0.mk r0
          clear hW0 hk0 hT hR hB p0 p1 p2 hgl
          generalize w0.alloc (.cells #[.int .i64 (x0 : Int), .int .i64 0, .int .i64 0, .int .i64 0, .int .i64 0, .string ⟨#[]⟩, .int .i64 0, .string ⟨#[]⟩, .int .i64 0, .int .i64 0, .int .i64 0, .int .i64 0] 36) = v0 at *
          generalize w0.heap.size = ga at *
          by_cases h7 : (x0 : Int) = 7
          · have d7 : ((x0 : Int) == 7) = true := beq_iff_eq.mpr h7
            replace h7 := Aside0.mk h7
            go_wp2_with (first
              | (go_at_call 29; (with_reducible refine ((pnum_calls P0.out hs (by omega))).mono ?_); rintro e w1 ⟨x1, n1, b1, rfl, r1, q1⟩; have up1 := r1.up; replace r1 := Aside0.mk r1; have f1 := q1.box.froz 1; have c1_1 : w1.cell? ⟨ga, 1, none⟩ = some (.int .i64 0) := (q1.box.cell 1).trans rfl; have P1 : Aside0 (PSt W g ga s (.slice A out.length c) out (w1.setCell ⟨ga, 1, none⟩ (.int .i64 (x1 : Int))) n1 b1 ⟨(x0 : Int), (x1 : Int), 0, 0, 0, ⟨#[]⟩, ⟨0, ⟨#[]⟩, 0, 0, 0, 0⟩⟩) := ⟨q1.set 1 _ _ rfl⟩; have l1 := q1.box.lt; clear q1)
              | (go_at_call 29; (with_reducible refine ((pnum_calls P1.out hs (by omega))).mono ?_); rintro e w2 ⟨x2, n2, b2, rfl, r2, q2⟩; have up2 := r2.up; replace r2 := Aside0.mk r2; have f2 := q2.box.froz 2; have c2_2 : w2.cell? ⟨ga, 2, none⟩ = some (.int .i64 0) := (q2.box.cell 2).trans rfl; have P2 : Aside0 (PSt W g ga s (.slice A out.length c) out (w2.setCell ⟨ga, 2, none⟩ (.int .i64 (x2 : Int))) n2 b2 ⟨(x0 : Int), (x1 : Int), (x2 : Int), 0, 0, ⟨#[]⟩, ⟨0, ⟨#[]⟩, 0, 0, 0, 0⟩⟩) := ⟨q2.set 2 _ _ rfl⟩; have l2 := q2.box.lt; clear q2)
              | (go_at_call 29; (with_reducible refine ((pnum_calls P2.out hs (by omega))).mono ?_); rintro e w3 ⟨x3, n3, b3, rfl, r3, q3⟩; have up3 := r3.up; replace r3 := Aside0.mk r3; have f3 := q3.box.froz 3; have c3_3 : w3.cell? ⟨ga, 3, none⟩ = some (.int .i64 0) := (q3.box.cell 3).trans rfl; have P3 : Aside0 (PSt W g ga s (.slice A out.length c) out (w3.setCell ⟨ga, 3, none⟩ (.int .i64 (x3 : Int))) n3 b3 ⟨(x0 : Int), (x1 : Int), (x2 : Int), (x3 : Int), 0, ⟨#[]⟩, ⟨0, ⟨#[]⟩, 0, 0, 0, 0⟩⟩) := ⟨q3.set 3 _ _ rfl⟩; have l3 := q3.box.lt; clear q3)
              | (go_at_call 29; (with_reducible refine ((pnum_calls P3.out hs (by omega))).mono ?_); rintro e w4 ⟨x4, n4, b4, rfl, r4, q4⟩; have up4 := r4.up; replace r4 := Aside0.mk r4; have f4 := q4.box.froz 4; have c4_4 : w4.cell? ⟨ga, 4, none⟩ = some (.int .i64 0) := (q4.box.cell 4).trans rfl; have P4 : Aside0 (PSt W g ga s (.slice A out.length c) out (w4.setCell ⟨ga, 4, none⟩ (.int .i64 (x4 : Int))) n4 b4 ⟨(x0 : Int), (x1 : Int), (x2 : Int), (x3 : Int), (x4 : Int), ⟨#[]⟩, ⟨0, ⟨#[]⟩, 0, 0, 0, 0⟩⟩) := ⟨q4.set 4 _ _ rfl⟩; have l4 := q4.box.lt; clear q4)
              | (go_at_call 30; (with_reducible refine ((ptext_calls P4.out hs (by omega))).mono ?_); rintro e w5 ⟨u5, n5, b5, rfl, r5, q5⟩; have up5 := r5.up; replace r5 := Aside0.mk r5; have f5 := q5.box.froz 5; have c5_5 : w5.cell? ⟨ga, 5, none⟩ = some (.string ⟨#[]⟩) := (q5.box.cell 5).trans rfl; have c5_0 : w5.cell? ⟨ga, 0, none⟩ = some (.int .i64 (x0 : Int)) := (q5.box.cell 0).trans rfl; have P5 : Aside0 (PSt W g ga s (.slice A out.length c) out (w5.setCell ⟨ga, 5, none⟩ (.string u5)) n5 b5 ⟨(x0 : Int), (x1 : Int), (x2 : Int), (x3 : Int), (x4 : Int), u5, ⟨0, ⟨#[]⟩, 0, 0, 0, 0⟩⟩) := ⟨q5.set 5 _ _ rfl⟩; have l5 := q5.box.lt; clear q5)
              | (go_at_call 29; (with_reducible refine ((pnum_calls P5.out hs (by omega))).mono ?_); rintro e w6 ⟨x6, n6, b6, rfl, r6, q6⟩; have up6 := r6.up; replace r6 := Aside0.mk r6; have f6 := q6.box.froz 6; have c6_6 : w6.cell? ⟨ga, 6, none⟩ = some (.int .i64 0) := (q6.box.cell 6).trans rfl; have P6 : Aside0 (PSt W g ga s (.slice A out.length c) out (w6.setCell ⟨ga, 6, none⟩ (.int .i64 (x6 : Int))) n6 b6 ⟨(x0 : Int), (x1 : Int), (x2 : Int), (x3 : Int), (x4 : Int), u5, ⟨(x6 : Int), ⟨#[]⟩, 0, 0, 0, 0⟩⟩) := ⟨q6.set 6 _ _ rfl⟩; have l6 := q6.box.lt; clear q6)
              | (go_at_call 29; (with_reducible refine ((pnum_calls P6.out hs (by omega))).mono ?_); rintro e w7 ⟨x7, n7, b7, rfl, r7, q7⟩; have up7 := r7.up; replace r7 := Aside0.mk r7; have f7 := q7.box.froz 8; have c7_8 : w7.cell? ⟨ga, 8, none⟩ = some (.int .i64 0) := (q7.box.cell 8).trans rfl; have P7 : Aside0 (PSt W g ga s (.slice A out.length c) out (w7.setCell ⟨ga, 8, none⟩ (.int .i64 (x7 : Int))) n7 b7 ⟨(x0 : Int), (x1 : Int), (x2 : Int), (x3 : Int), (x4 : Int), u5, ⟨(x6 : Int), ⟨#[]⟩, (x7 : Int), 0, 0, 0⟩⟩) := ⟨q7.set 8 _ _ rfl⟩; have l7 := q7.box.lt; clear q7)
              | (go_at_call 29; (with_reducible refine ((pnum_calls P7.out hs (by omega))).mono ?_); rintro e w8 ⟨x8, n8, b8, rfl, r8, q8⟩; have up8 := r8.up; replace r8 := Aside0.mk r8; have f8 := q8.box.froz 9; have c8_9 : w8.cell? ⟨ga, 9, none⟩ = some (.int .i64 0) := (q8.box.cell 9).trans rfl; have P8 : Aside0 (PSt W g ga s (.slice A out.length c) out (w8.setCell ⟨ga, 9, none⟩ (.int .i64 (x8 : Int))) n8 b8 ⟨(x0 : Int), (x1 : Int), (x2 : Int), (x3 : Int), (x4 : Int), u5, ⟨(x6 : Int), ⟨#[]⟩, (x7 : Int), (x8 : Int), 0, 0⟩⟩) := ⟨q8.set 9 _ _ rfl⟩; have l8 := q8.box.lt; clear q8)
              | (go_at_call 29; (with_reducible refine ((pnum_calls P8.out hs (by omega))).mono ?_); rintro e w9 ⟨x9, n9, b9, rfl, r9, q9⟩; have up9 := r9.up; replace r9 := Aside0.mk r9; have f9 := q9.box.froz 10; have c9_10 : w9.cell? ⟨ga, 10, none⟩ = some (.int .i64 0) := (q9.box.cell 10).trans rfl; have P9 : Aside0 (PSt W g ga s (.slice A out.length c) out (w9.setCell ⟨ga, 10, none⟩ (.int .i64 (x9 : Int))) n9 b9 ⟨(x0 : Int), (x1 : Int), (x2 : Int), (x3 : Int), (x4 : Int), u5, ⟨(x6 : Int), ⟨#[]⟩, (x7 : Int), (x8 : Int), (x9 : Int), 0⟩⟩) := ⟨q9.set 10 _ _ rfl⟩; have l9 := q9.box.lt; clear q9)
              | (go_at_call 29; (with_reducible refine ((pnum_calls P9.out hs (by omega))).mono ?_); rintro e w10 ⟨x10, n10, b10, rfl, r10, q10⟩; have up10 := r10.up; replace r10 := Aside0.mk r10; have f10 := q10.box.froz 11; have c10_11 : w10.cell? ⟨ga, 11, none⟩ = some (.int .i64 0) := (q10.box.cell 11).trans rfl; have P10 : Aside0 (PSt W g ga s (.slice A out.length c) out (w10.setCell ⟨ga, 11, none⟩ (.int .i64 (x10 : Int))) n10 b10 ⟨(x0 : Int), (x1 : Int), (x2 : Int), (x3 : Int), (x4 : Int), u5, ⟨(x6 : Int), ⟨#[]⟩, (x7 : Int), (x8 : Int), (x9 : Int), (x10 : Int)⟩⟩) := ⟨q10.set 11 _ _ rfl⟩; have l10 := q10.box.lt; clear q10)
              | (go_at_call 30; (with_reducible refine ((ptext_calls P10.out hs (by omega))).mono ?_); rintro e w11 ⟨u11, n11, b11, rfl, r11, q11⟩; have up11 := r11.up; replace r11 := Aside0.mk r11; have f11 := q11.box.froz 7; have c11_7 : w11.cell? ⟨ga, 7, none⟩ = some (.string ⟨#[]⟩) := (q11.box.cell 7).trans rfl; have c11_0 : w11.cell? ⟨ga, 0, none⟩ = some (.int .i64 (x0 : Int)) := (q11.box.cell 0).trans rfl; have c11_1 : w11.cell? ⟨ga, 1, none⟩ = some (.int .i64 (x1 : Int)) := (q11.box.cell 1).trans rfl; have c11_2 : w11.cell? ⟨ga, 2, none⟩ = some (.int .i64 (x2 : Int)) := (q11.box.cell 2).trans rfl; have c11_3 : w11.cell? ⟨ga, 3, none⟩ = some (.int .i64 (x3 : Int)) := (q11.box.cell 3).trans rfl; have c11_4 : w11.cell? ⟨ga, 4, none⟩ = some (.int .i64 (x4 : Int)) := (q11.box.cell 4).trans rfl; have c11_5 : w11.cell? ⟨ga, 5, none⟩ = some (.string u5) := (q11.box.cell 5).trans rfl; have c11_6 : w11.cell? ⟨ga, 6, none⟩ = some (.int .i64 (x6 : Int)) := (q11.box.cell 6).trans rfl; have c11_8 : w11.cell? ⟨ga, 8, none⟩ = some (.int .i64 (x7 : Int)) := (q11.box.cell 8).trans rfl; have c11_9 : w11.cell? ⟨ga, 9, none⟩ = some (.int .i64 (x8 : Int)) := (q11.box.cell 9).trans rfl; have c11_10 : w11.cell? ⟨ga, 10, none⟩ = some (.int .i64 (x9 : Int)) := (q11.box.cell 10).trans rfl; have c11_11 : w11.cell? ⟨ga, 11, none⟩ = some (.int .i64 (x10 : Int)) := (q11.box.cell 11).trans rfl; have P11 : Aside0 (PSt W g ga s (.slice A out.length c) out (w11.setCell ⟨ga, 7, none⟩ (.string u11)) n11 b11 ⟨(x0 : Int), (x1 : Int), (x2 : Int), (x3 : Int), (x4 : Int), u5, ⟨(x6 : Int), u11, (x7 : Int), (x8 : Int), (x9 : Int), (x10 : Int)⟩⟩) := ⟨q11.set 7 _ _ rfl⟩; have l11 := q11.box.lt; clear q11)
              | ((with_reducible refine gate_builtin (b := .append) (xs := #[.tmp 76, .tmp 78]) rfl ?_); at_builtin; obtain ⟨a, ha⟩ : ∃ a : S36, a = ⟨(x0 : Int), (x1 : Int), (x2 : Int), (x3 : Int), (x4 : Int), u5, ⟨(x6 : Int), u11, (x7 : Int), (x8 : Int), (x9 : Int), (x10 : Int)⟩⟩ := ⟨_, rfl⟩; have hcl : (#[.int .i64 (x0 : Int), .int .i64 (x1 : Int), .int .i64 (x2 : Int), .int .i64 (x3 : Int), .int .i64 (x4 : Int), .string u5, .int .i64 (x6 : Int), .string u11, .int .i64 (x7 : Int), .int .i64 (x8 : Int), .int .i64 (x9 : Int), .int .i64 (x10 : Int)] : Array Value) = cells12 a := (by rw [ha]; rfl); rw [hcl]; clear hcl; replace ha := Aside0.mk ha; refine Kd.R_append_rows k36 (w0 := W) W.heap.size rfl (.tmp 76) (.tmp 78) 22 36 (.agg (cells12 z36)) 112 rfl Tryd.underlying22 info36 rfl (by decide) (by decide) (.slice A out.length c) out [a] _ 1 1 (fun _ => True) (fun _ => False) rfl rfl (Kd.R_alloc P11.out.rows _) (built36_at _ a _ (size_set _ _ _)) (fun x cs h => k36_KM x cs h) (fun _ hk => hk.elim) (fun _ _ => trivial) (P11.out.below.alloc P11.out.below.size _) (Nat.le_trans P11.out.below.size (by simp)) (by omega) ?_; intro v1 wz ho hb hgr hat; have hT2 : Words wz g s n11 b11 := ⟨(hgr.block g (by have := P11.out.words.lt; rw [size_set] at this; simp; omega) hgv).trans ((heap_alloc_old _ _ P11.out.words.lt).trans P11.out.words.out)⟩; obtain ⟨A1, nz, e1, rfl⟩ := form36 ho; replace ho := Aside0.mk ho; replace hb := Aside0.mk hb; replace hT2 := Aside0.mk hT2; clear hgr hat))
            go_roundg gk'
            case measure => exact Nat.lt_succ_self _
            case rel => exact ⟨out ++ [a], n11, b11, by simp; omega, ho.out, hT2.out, by omega, sofar_step hso.out (by rw [ha.out]; exact act_two (row_r r0.out r1.out r2.out r3.out r4.out r5.out) (row_r r6.out r7.out r8.out r9.out r10.out r11.out) h7.out) hne.out, hb.out⟩
          · have d7 : ((x0 : Int) == 7) = false := beq_eq_false_iff_ne.mpr h7
            replace h7 := Aside0.mk h7
            go_wp2_with (first
              | (go_at_call 29; (with_reducible refine ((pnum_calls P0.out hs (by omega))).mono ?_); rintro e w1 ⟨x1, n1, b1, rfl, r1, q1⟩; have up1 := r1.up; replace r1 := Aside0.mk r1; have f1 := q1.box.froz 1; have c1_1 : w1.cell? ⟨ga, 1, none⟩ = some (.int .i64 0) := (q1.box.cell 1).trans rfl; have P1 : Aside0 (PSt W g ga s (.slice A out.length c) out (w1.setCell ⟨ga, 1, none⟩ (.int .i64 (x1 : Int))) n1 b1 ⟨(x0 : Int), (x1 : Int), 0, 0, 0, ⟨#[]⟩, ⟨0, ⟨#[]⟩, 0, 0, 0, 0⟩⟩) := ⟨q1.set 1 _ _ rfl⟩; have l1 := q1.box.lt; clear q1)
              | (go_at_call 29; (with_reducible refine ((pnum_calls P1.out hs (by omega))).mono ?_); rintro e w2 ⟨x2, n2, b2, rfl, r2, q2⟩; have up2 := r2.up; replace r2 := Aside0.mk r2; have f2 := q2.box.froz 2; have c2_2 : w2.cell? ⟨ga, 2, none⟩ = some (.int .i64 0) := (q2.box.cell 2).trans rfl; have P2 : Aside0 (PSt W g ga s (.slice A out.length c) out (w2.setCell ⟨ga, 2, none⟩ (.int .i64 (x2 : Int))) n2 b2 ⟨(x0 : Int), (x1 : Int), (x2 : Int), 0, 0, ⟨#[]⟩, ⟨0, ⟨#[]⟩, 0, 0, 0, 0⟩⟩) := ⟨q2.set 2 _ _ rfl⟩; have l2 := q2.box.lt; clear q2)
              | (go_at_call 29; (with_reducible refine ((pnum_calls P2.out hs (by omega))).mono ?_); rintro e w3 ⟨x3, n3, b3, rfl, r3, q3⟩; have up3 := r3.up; replace r3 := Aside0.mk r3; have f3 := q3.box.froz 3; have c3_3 : w3.cell? ⟨ga, 3, none⟩ = some (.int .i64 0) := (q3.box.cell 3).trans rfl; have P3 : Aside0 (PSt W g ga s (.slice A out.length c) out (w3.setCell ⟨ga, 3, none⟩ (.int .i64 (x3 : Int))) n3 b3 ⟨(x0 : Int), (x1 : Int), (x2 : Int), (x3 : Int), 0, ⟨#[]⟩, ⟨0, ⟨#[]⟩, 0, 0, 0, 0⟩⟩) := ⟨q3.set 3 _ _ rfl⟩; have l3 := q3.box.lt; clear q3)
              | (go_at_call 29; (with_reducible refine ((pnum_calls P3.out hs (by omega))).mono ?_); rintro e w4 ⟨x4, n4, b4, rfl, r4, q4⟩; have up4 := r4.up; replace r4 := Aside0.mk r4; have f4 := q4.box.froz 4; have c4_4 : w4.cell? ⟨ga, 4, none⟩ = some (.int .i64 0) := (q4.box.cell 4).trans rfl; have P4 : Aside0 (PSt W g ga s (.slice A out.length c) out (w4.setCell ⟨ga, 4, none⟩ (.int .i64 (x4 : Int))) n4 b4 ⟨(x0 : Int), (x1 : Int), (x2 : Int), (x3 : Int), (x4 : Int), ⟨#[]⟩, ⟨0, ⟨#[]⟩, 0, 0, 0, 0⟩⟩) := ⟨q4.set 4 _ _ rfl⟩; have l4 := q4.box.lt; clear q4)
              | (go_at_call 30; (with_reducible refine ((ptext_calls P4.out hs (by omega))).mono ?_); rintro e w5 ⟨u5, n5, b5, rfl, r5, q5⟩; have up5 := r5.up; replace r5 := Aside0.mk r5; have f5 := q5.box.froz 5; have c5_5 : w5.cell? ⟨ga, 5, none⟩ = some (.string ⟨#[]⟩) := (q5.box.cell 5).trans rfl; have c5_0 : w5.cell? ⟨ga, 0, none⟩ = some (.int .i64 (x0 : Int)) := (q5.box.cell 0).trans rfl; have c5_1 : w5.cell? ⟨ga, 1, none⟩ = some (.int .i64 (x1 : Int)) := (q5.box.cell 1).trans rfl; have c5_2 : w5.cell? ⟨ga, 2, none⟩ = some (.int .i64 (x2 : Int)) := (q5.box.cell 2).trans rfl; have c5_3 : w5.cell? ⟨ga, 3, none⟩ = some (.int .i64 (x3 : Int)) := (q5.box.cell 3).trans rfl; have c5_4 : w5.cell? ⟨ga, 4, none⟩ = some (.int .i64 (x4 : Int)) := (q5.box.cell 4).trans rfl; have c5_6 : w5.cell? ⟨ga, 6, none⟩ = some (.int .i64 0) := (q5.box.cell 6).trans rfl; have c5_7 : w5.cell? ⟨ga, 7, none⟩ = some (.string ⟨#[]⟩) := (q5.box.cell 7).trans rfl; have c5_8 : w5.cell? ⟨ga, 8, none⟩ = some (.int .i64 0) := (q5.box.cell 8).trans rfl; have c5_9 : w5.cell? ⟨ga, 9, none⟩ = some (.int .i64 0) := (q5.box.cell 9).trans rfl; have c5_10 : w5.cell? ⟨ga, 10, none⟩ = some (.int .i64 0) := (q5.box.cell 10).trans rfl; have c5_11 : w5.cell? ⟨ga, 11, none⟩ = some (.int .i64 0) := (q5.box.cell 11).trans rfl; have P5 : Aside0 (PSt W g ga s (.slice A out.length c) out (w5.setCell ⟨ga, 5, none⟩ (.string u5)) n5 b5 ⟨(x0 : Int), (x1 : Int), (x2 : Int), (x3 : Int), (x4 : Int), u5, ⟨0, ⟨#[]⟩, 0, 0, 0, 0⟩⟩) := ⟨q5.set 5 _ _ rfl⟩; have l5 := q5.box.lt; clear q5)
              | ((with_reducible refine gate_builtin (b := .append) (xs := #[.tmp 76, .tmp 78]) rfl ?_); at_builtin; obtain ⟨a, ha⟩ : ∃ a : S36, a = ⟨(x0 : Int), (x1 : Int), (x2 : Int), (x3 : Int), (x4 : Int), u5, ⟨0, ⟨#[]⟩, 0, 0, 0, 0⟩⟩ := ⟨_, rfl⟩; have hcl : (#[.int .i64 (x0 : Int), .int .i64 (x1 : Int), .int .i64 (x2 : Int), .int .i64 (x3 : Int), .int .i64 (x4 : Int), .string u5, .int .i64 0, .string ⟨#[]⟩, .int .i64 0, .int .i64 0, .int .i64 0, .int .i64 0] : Array Value) = cells12 a := (by rw [ha]; rfl); rw [hcl]; clear hcl; replace ha := Aside0.mk ha; refine Kd.R_append_rows k36 (w0 := W) W.heap.size rfl (.tmp 76) (.tmp 78) 22 36 (.agg (cells12 z36)) 112 rfl Tryd.underlying22 info36 rfl (by decide) (by decide) (.slice A out.length c) out [a] _ 1 1 (fun _ => True) (fun _ => False) rfl rfl (Kd.R_alloc P5.out.rows _) (built36_at _ a _ (size_set _ _ _)) (fun x cs h => k36_KM x cs h) (fun _ hk => hk.elim) (fun _ _ => trivial) (P5.out.below.alloc P5.out.below.size _) (Nat.le_trans P5.out.below.size (by simp)) (by omega) ?_; intro v1 wz ho hb hgr hat; have hT2 : Words wz g s n5 b5 := ⟨(hgr.block g (by have := P5.out.words.lt; rw [size_set] at this; simp; omega) hgv).trans ((heap_alloc_old _ _ P5.out.words.lt).trans P5.out.words.out)⟩; obtain ⟨A1, nz, e1, rfl⟩ := form36 ho; replace ho := Aside0.mk ho; replace hb := Aside0.mk hb; replace hT2 := Aside0.mk hT2; clear hgr hat))
            go_roundg gk'
            case measure => exact Nat.lt_succ_self _
            case rel => exact ⟨out ++ [a], n5, b5, by simp; omega, ho.out, hT2.out, by omega, sofar_step hso.out (by rw [ha.out]; exact act_one (row_r r0.out r1.out r2.out r3.out r4.out r5.out) h7.out) hne.out, hb.out⟩
    · have d0 : decide ((n : Int) < (s.size : Int)) = false := decide_eq_false (by omega)
      have hstop : (restB s n).data.toList = [] ∨ bk = true ∨ 256 < out.length := .inl (by rw [restB_list, drop_end hz])
      clear hT
      have hend := Aside0.mk (sofar_end hso.out hstop)
      clear hstop hso
      have hno : ∀ {P : Prop}, (∀ c', okB c' = true → s.data.toList = tellT c' → bk = false ∧ out = c') → (bk = true ∨ okB out = false ∨ tellT out ≠ s.data.toList) → ∀ c', okB c' = true → s.data.toList ≠ tellT c' := by
        intro _ h1 h2 c' hc' e
        obtain ⟨e1, e2⟩ := h1 c' hc' e
        subst e2
        rcases h2 with h | h | h
        · rw [e1] at h
          cases h
        · rw [hc'] at h
          cases h
        · exact h e.symm
      replace hno := Aside0.mk (hno (P := True))
      have hsh := fun w1 (hb : Below wr.heap.size wr w1) => refShow_calls w1 A out c (Kd.C_below (Kd.R_reads' hR.out).2.2 hb)
      by_cases hbk : bk = true
      · subst hbk
        replace hsh := Aside0.mk hsh
        go_wp2_with (go_at_call 14; (with_reducible refine (hsh.out _ (Below.refl _ _)).mono ?_); rintro e w1 ⟨rfl, hb1⟩; replace p2 := pw_cell_below hb1 p2; have hB1 := Aside0.mk (below_step hB.out hb1 hB.out.size); clear hb1)
        go_ret2
        exact ⟨hB1.out, .inr ⟨rfl, hno.out hend.out (.inl (by first | trivial | rfl))⟩⟩
      · have hbk' : bk = false := Bool.eq_false_iff.2 hbk
        subst hbk'
        by_cases hok : okB out = true
        · have hF : showF out = (⟨(tellT out).toArray⟩, 0) := by unfold showF; rw [if_pos hok]
          rw [hF] at hsh
          obtain ⟨u, hu⟩ : ∃ u : ByteArray, u = ⟨(tellT out).toArray⟩ := ⟨_, rfl⟩
          have hu2 : u.data.toList = tellT out := by rw [hu]
          rw [← hu] at hsh
          clear hu hF
          obtain ⟨b, hb⟩ : ∃ b, (u.toList == s.toList) = b := ⟨_, rfl⟩
          have hb2 : (u.toList != s.toList) = !b := by rw [← hb]; rfl
          replace hok := Aside0.mk hok
          replace hsh := Aside0.mk hsh
          cases b
          · have hx : tellT out ≠ s.data.toList := by
              have hb' := hb
              rw [beq_eq_false_iff_ne, ByteArray.toList_eq, ByteArray.toList_eq, hu2] at hb'
              exact hb'
            replace hx := Aside0.mk hx
            replace hu2 := Aside0.mk hu2
            go_wp2_with (go_at_call 14; (with_reducible refine (hsh.out _ (Below.refl _ _)).mono ?_); rintro e w1 ⟨rfl, hb1⟩; replace p2 := pw_cell_below hb1 p2; have hB1 := Aside0.mk (below_step hB.out hb1 hB.out.size); clear hb1)
            go_ret2
            exact ⟨hB1.out, .inr ⟨rfl, hno.out hend.out (.inr (.inr hx.out))⟩⟩
          · have hx : s.data.toList = tellT out := by
              have hb' := hb
              rw [beq_iff_eq, ByteArray.toList_eq, ByteArray.toList_eq, hu2] at hb'
              exact hb'.symm
            replace hx := Aside0.mk hx
            replace hu2 := Aside0.mk hu2
            go_wp2_with (go_at_call 14; (with_reducible refine (hsh.out _ (Below.refl _ _)).mono ?_); rintro e w1 ⟨rfl, hb1⟩; replace p2 := pw_cell_below hb1 p2; have hB1 := Aside0.mk (below_step hB.out hb1 hB.out.size); have hR1 := Aside0.mk (Kd.R_below hR.out hb1); clear hb1)
            go_ret2
            exact ⟨hB1.out, .inl ⟨_, out, rfl, hR1.out, hok.out, hx.out⟩⟩
        · have hok' : okB out = false := Bool.eq_false_iff.2 hok
          have hF : showF out = (⟨#[]⟩, 2300) := by unfold showF; rw [if_neg hok]
          rw [hF] at hsh
          clear hF
          replace hsh := Aside0.mk hsh
          replace hok' := Aside0.mk hok'
          clear hok
          go_wp2_with (go_at_call 14; (with_reducible refine (hsh.out _ (Below.refl _ _)).mono ?_); rintro e w1 ⟨rfl, hb1⟩; replace p2 := pw_cell_below hb1 p2; have hB1 := Aside0.mk (below_step hB.out hb1 hB.out.size); clear hb1)
          go_ret2
          exact ⟨hB1.out, .inr ⟨rfl, hno.out hend.out (.inr (.inl hok'.out))⟩⟩
end Go.Proofs.YtdpbklckeamjpaaDoor.Scr
