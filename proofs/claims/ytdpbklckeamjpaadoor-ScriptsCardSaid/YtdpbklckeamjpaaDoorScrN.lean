/- The package's Parse, step by step. -/
import Derived.Test.YtdpbklckeamjpaaDoorScrM
import Derived.Test.YtdpbklckeamjpaaDoorWApart
import Derived.Test.YtdpbklckeamjpaaDoorWKept
namespace Go.Proofs.YtdpbklckeamjpaaDoor.Scr
open Go.RowKit Go.Proofs.YtdpbklckeamjpaaDoorW.PrintWords Go.Proofs.YtdpbklckeamjpaaDoorW.PrintLast Go.Proofs.YtdpbklckeamjpaaDoorW.PrintMore Go.Proofs.YtdpbklckeamjpaaDoor.PScripts

theorem tell1_ne (a : S36) : tell1 a ≠ [] := by
  intro h
  have := congrArg List.length h
  unfold tell1 rowT at this
  simp at this
theorem tellT_nil {c : List S36} (h : tellT c = []) : c = [] := by
  cases c with
  | nil => rfl
  | cons a c =>
    exfalso
    unfold tellT at h
    rw [List.flatMap_cons] at h
    exact tell1_ne a (List.append_eq_nil_iff.1 h).1
theorem ok_may {c : List S36} (h : okB c = true) : c.length ≤ 256 ∧ ∀ a, a ∈ c → mayB a = true := by
  unfold okB at h
  rw [Bool.and_eq_true] at h
  exact ⟨of_decide_eq_true h.1, List.all_eq_true.1 h.2⟩

/-- What has been read so far, if the text is one of acts that may be. -/
def Sofar (s : ByteArray) (out : List S36) (rk : ByteArray) (bk : Bool) : Prop :=
  ∀ c, okB c = true → s.data.toList = tellT c → bk = false ∧ ∃ k, k ≤ c.length ∧ out = c.take k ∧ rk.data.toList = tellT (c.drop k)
theorem sofar_step {s rk rk' : ByteArray} {out : List S36} {bk bk' : Bool} {a : S36} (h : Sofar s out rk bk) (ha : ActAt rk bk a rk' bk') (hne : rk.data.toList ≠ []) : Sofar s (out ++ [a]) rk' bk' := by
  intro c hc hs
  obtain ⟨h1, k, hk, h2, h3⟩ := h c hc hs
  have hlt : k < c.length := by
    rcases Nat.lt_or_ge k c.length with h | h
    · exact h
    · rw [List.drop_of_length_le h] at h3
      exact absurd h3 hne
  rw [List.drop_eq_getElem_cons hlt] at h3
  have h4 : rk.data.toList = tell1 c[k] ++ tellT (c.drop (k + 1)) := by
    rw [h3]
    unfold tellT
    rw [List.flatMap_cons]
  obtain ⟨e1, e2, e3⟩ := ha.at_ h1 c[k] _ ((ok_may hc).2 _ (List.getElem_mem hlt)) h4
  exact ⟨e2, k + 1, hlt, by rw [h2, e1, List.take_succ_eq_append_getElem hlt], e3⟩
theorem sofar_end {s rk : ByteArray} {out : List S36} {bk : Bool} (h : Sofar s out rk bk) (hstop : rk.data.toList = [] ∨ bk = true ∨ 256 < out.length) : ∀ c, okB c = true → s.data.toList = tellT c → bk = false ∧ out = c := by
  intro c hc hs
  obtain ⟨h1, k, hk, h2, h3⟩ := h c hc hs
  refine ⟨h1, ?_⟩
  rcases hstop with e | e | e
  · rw [e] at h3
    have := tellT_nil h3.symm
    rw [h2]
    have hk2 := congrArg List.length this
    rw [List.length_drop] at hk2
    simp at hk2
    exact List.take_of_length_le (by omega)
  · rw [h1] at e
    cases e
  · exfalso
    rw [h2, List.length_take] at e
    have := (ok_may hc).1
    omega

theorem add0 (b j : Nat) : Addr.add ⟨b, 0, none⟩ j = ⟨b, j, none⟩ := by
  unfold Addr.add
  by_cases h : j = 0 <;> simp [h]
theorem info36 : (Tryd.prog.info? 36).map (fun i => (i.zero, i.size, i.bytes)) = some (some (.agg (cells12 z36)), 12, 112) := by kernel_rfl
theorem built36 (W : World) (a : S36) : Kd.C k36 (W.alloc (.cells (cells12 a) 36)) (some ⟨W.heap.size, 0, none⟩) 1 [a] := by
  have h1 : (W.alloc (.cells (cells12 a) 36)).heap[W.heap.size]? = some (.cells (cells12 a) 36 (0, 0)) := heap_alloc_new W _
  refine ⟨rfl, by decide, fun _ => ⟨_, rfl, fun j p hj => ?_⟩⟩
  obtain ⟨rfl, rfl⟩ : j = 0 ∧ p = a := by
    rcases j with _ | j
    · exact ⟨rfl, (Option.some.inj hj).symm⟩
    · cases hj
  refine ⟨_, rfl, k36_mk _ _, fun i u hu => ?_⟩
  have hi : i < 12 := (List.getElem?_eq_some_iff.1 hu).1
  rw [show 0 * k36.sz + i = i by omega, add0]
  exact ((blk_cell h1 i).trans List.getElem?_toArray).trans hu

theorem k36_KM {W : World} {base : Nat} {okp : Nat → Prop} (x : S36) (cs : List Value) (h : k36.K W x cs) : k36.M W base okp x cs := by
  obtain rfl := k36_open h
  exact k36_mkM W base okp x
theorem R36_grown {W W' : World} {base g : Nat} {v : Value} {L : List S36} (h : Kd.R k36 36 W base (fun _ => True) v L) (hg : W.grownBy W' (some g)) (hne : some g ≠ v.ownBlock) : Kd.R k36 36 W' base (fun _ => True) v L :=
  Kd.R_mono (Kd.R_step (Kd.R_tight rfl h) (fun k ho hk => hg.block k hk (fun e => hne (by rw [← ho]; exact e.symm)))) (fun _ _ => trivial)

theorem form36 {W : World} {b : Nat} {ok : Nat → Prop} {v : Value} {L : List S36} (h : Kd.R k36 36 W b ok v L) : ∃ A n c, v = .slice A n c := by
  obtain ⟨A, c, e⟩ := Kd.R_slice h
  exact ⟨A, _, c, e⟩
theorem act_raw {w0 W : World} (g : Nat) (rest : ByteArray) (bad : Bool) (hv : Vars w0) (hB : Below w0.heap.size w0 W) (hg : w0.heap.size ≤ g) (hT : Taker W g rest bad) (hs : rest.size ≤ 281474976710656) :
    Calls Tryd.prog 21 #[.pointer (some ⟨g, 0, none⟩)] W fun e W' => ∃ a rk bk, e = .returned (.agg #[.int .i64 a.f0, .int .i64 a.f1, .int .i64 a.f2, .int .i64 a.f3, .int .i64 a.f4, .string a.f5, .int .i64 a.f6.f0, .string a.f6.f1, .int .i64 a.f6.f2, .int .i64 a.f6.f3, .int .i64 a.f6.f4, .int .i64 a.f6.f5]) ∧ ActAt rest bad a rk bk ∧ Taker W' g rk bk ∧ W.grownBy W' (some g) := act_calls g rest bad hv hB hg hT hs

/-- What holds at a round's head. -/
def ParseAt (W : World) (g : Nat) (s : ByteArray) (gk : Nat) (v : Value) (wr : World) : Prop :=
  ∃ (out : List S36) (rk : ByteArray) (bk : Bool), out.length + gk = 257 ∧ Kd.R k36 36 wr W.heap.size (fun _ => True) v out ∧ Taker wr g rk bk ∧ rk.size ≤ s.size ∧ Sofar s out rk bk ∧ Below W.heap.size W wr

set_option maxHeartbeats 8000000 in
set_option maxRecDepth 100000 in
theorem parse_walk (W : World) (s : ByteArray) (hv : Vars W) (hs : s.size ≤ 281474976710656) :
    Calls Tryd.prog 11 #[.string s] W fun e W' => Below W.heap.size W W' ∧ ((∃ v c, e = .returned (.tuple #[v, .int .i64 0]) ∧ Kd.R k36 36 W' W.heap.size (fun _ => True) v c ∧ okB c = true ∧ s.data.toList = tellT c) ∨ (e = .returned (.tuple #[.slice none 0 0, .int .i64 2300]) ∧ ∀ c, okB c = true → s.data.toList ≠ tellT c)) := by
  obtain ⟨g, hg⟩ : ∃ g, g = W.heap.size := ⟨_, rfl⟩
  have hstart : Aside0 (ParseAt W g s 257 (.slice none 0 0) (W.alloc (.cells #[.string s, .bool false] 60))) := ⟨[], s, false, rfl, Kd.R_nil _ _ _ _ _, by rw [hg]; exact heap_alloc_new W _, Nat.le_refl _, fun c hc hs => ⟨rfl, 0, by omega, by simp, by simpa using hs⟩, below_alloc (Below.refl _ _) _⟩
  have hgw : W.heap.size ≤ g := by omega
  replace hv := Aside0.mk hv
  go_enter Tryd.func11, Tryd.ntmps11
  go_wp2_with fail
  rw [← hg]
  clear hg
  generalize W.alloc (.cells #[.string s, .bool false] 60) = W1 at *
  go_loopg [5] 257 (fun gk v wr => ParseAt W g s gk v wr)
  case atStart => exact hstart.out
  case round =>
    clear hstart
    obtain ⟨out, rk, bk, hlen, hR, hT, hle, hso, hB⟩ := hrel
    obtain ⟨A, c, rfl⟩ := Kd.R_slice hR
    have hT' : wr.heap[g]? = _ := hT
    have p0 : wr.cell? ⟨g, 0, none⟩ = some (.string rk) := by simp [World.cell?, hT']
    have p1 : wr.cell? ⟨g, 1, none⟩ = some (.bool bk) := by simp [World.cell?, hT']
    have hgv : some g ≠ (Value.slice A out.length c).ownBlock := Kd.R_ne hR hT' (by decide)
    have hgl : g < wr.heap.size := (Array.getElem?_eq_some_iff.1 hT').1
    clear hT'
    replace hR := Aside0.mk hR
    replace hT := Aside0.mk hT
    replace hso := Aside0.mk hso
    replace hB := Aside0.mk hB
    by_cases hemp : rk.toList = []
    · have hstop : rk.data.toList = [] ∨ bk = true ∨ 256 < out.length := .inl (by rw [← ByteArray.toList_eq]; exact hemp)
      have n0 : rk.toList.isEmpty = true := by rw [hemp]; rfl
      clear hT
      have hend := Aside0.mk (sofar_end hso.out hstop)
      clear hstop hso
      have hno : ∀ {P : Prop}, (∀ c', okB c' = true → s.data.toList = tellT c' → bk = false ∧ out = c') → (bk = true ∨ okB out = false ∨ tellT out ≠ s.data.toList) → ∀ c', okB c' = true → s.data.toList ≠ tellT c' := by
        intro _ h1 h2 c' hc' e
        obtain ⟨e1, e2⟩ := h1 c' hc' e
        subst e2
        rcases h2 with h | h | h
        · rw [e1] at h
          cases h
        · rw [hc'] at h
          cases h
        · exact h e.symm
      replace hno := Aside0.mk (hno (P := True))
      have hsh := fun w1 (hb : Below wr.heap.size wr w1) => show_calls w1 A out c (hv.out.below (below_step hB.out hb hB.out.size)) (Kd.C_below (Kd.R_reads' hR.out).2.2 hb)
      by_cases hbk : bk = true
      · subst hbk
        replace hsh := Aside0.mk hsh
        go_wp2_with (go_at_call 9; (with_reducible refine (hsh.out _ (Below.refl _ _)).mono ?_); rintro e w1 ⟨rfl, hb1⟩; replace p1 := pw_cell_below hb1 p1; have hB1 := Aside0.mk (below_step hB.out hb1 hB.out.size); clear hb1)
        go_ret2
        exact ⟨hB1.out, .inr ⟨rfl, hno.out hend.out (.inl (by first | trivial | rfl))⟩⟩
      · have hbk' : bk = false := Bool.eq_false_iff.2 hbk
        subst hbk'
        by_cases hok : okB out = true
        · have hF : showF out = (⟨(tellT out).toArray⟩, 0) := by unfold showF; rw [if_pos hok]
          rw [hF] at hsh
          obtain ⟨u, hu⟩ : ∃ u : ByteArray, u = ⟨(tellT out).toArray⟩ := ⟨_, rfl⟩
          have hu2 : u.data.toList = tellT out := by rw [hu]
          rw [← hu] at hsh
          clear hu hF
          obtain ⟨b, hb⟩ : ∃ b, (u.toList == s.toList) = b := ⟨_, rfl⟩
          replace hok := Aside0.mk hok
          replace hsh := Aside0.mk hsh
          cases b
          · have hx : tellT out ≠ s.data.toList := by
              have hb' := hb
              rw [beq_eq_false_iff_ne, ByteArray.toList_eq, ByteArray.toList_eq, hu2] at hb'
              exact hb'
            replace hx := Aside0.mk hx
            replace hu2 := Aside0.mk hu2
            go_wp2_with (go_at_call 9; (with_reducible refine (hsh.out _ (Below.refl _ _)).mono ?_); rintro e w1 ⟨rfl, hb1⟩; replace p1 := pw_cell_below hb1 p1; have hB1 := Aside0.mk (below_step hB.out hb1 hB.out.size); clear hb1)
            go_ret2
            exact ⟨hB1.out, .inr ⟨rfl, hno.out hend.out (.inr (.inr hx.out))⟩⟩
          · have hx : s.data.toList = tellT out := by
              have hb' := hb
              rw [beq_iff_eq, ByteArray.toList_eq, ByteArray.toList_eq, hu2] at hb'
              exact hb'.symm
            replace hx := Aside0.mk hx
            replace hu2 := Aside0.mk hu2
            go_wp2_with (go_at_call 9; (with_reducible refine (hsh.out _ (Below.refl _ _)).mono ?_); rintro e w1 ⟨rfl, hb1⟩; replace p1 := pw_cell_below hb1 p1; have hB1 := Aside0.mk (below_step hB.out hb1 hB.out.size); have hR1 := Aside0.mk (Kd.R_below hR.out hb1); clear hb1)
            go_ret2
            exact ⟨hB1.out, .inl ⟨_, out, rfl, hR1.out, hok.out, hx.out⟩⟩
        · have hok' : okB out = false := Bool.eq_false_iff.2 hok
          have hF : showF out = (⟨#[]⟩, 2300) := by unfold showF; rw [if_neg hok]
          rw [hF] at hsh
          clear hF
          replace hsh := Aside0.mk hsh
          replace hok' := Aside0.mk hok'
          clear hok
          go_wp2_with (go_at_call 9; (with_reducible refine (hsh.out _ (Below.refl _ _)).mono ?_); rintro e w1 ⟨rfl, hb1⟩; replace p1 := pw_cell_below hb1 p1; have hB1 := Aside0.mk (below_step hB.out hb1 hB.out.size); clear hb1)
          go_ret2
          exact ⟨hB1.out, .inr ⟨rfl, hno.out hend.out (.inr (.inl hok'.out))⟩⟩
    · have n0 : rk.toList.isEmpty = false := by
        cases h : rk.toList with
        | nil => exact absurd h hemp
        | cons x l => rfl
      have hne : rk.data.toList ≠ [] := by rw [← ByteArray.toList_eq]; exact hemp
      by_cases hb0 : bk = true
      · have hstop : rk.data.toList = [] ∨ bk = true ∨ 256 < out.length := .inr (.inl hb0)
        replace hne := Aside0.mk hne
        replace hemp := Aside0.mk hemp
        clear hT
        replace hb0 := Aside0.mk hb0
        have hend := Aside0.mk (sofar_end hso.out hstop)
        clear hstop hso
        have hno : ∀ {P : Prop}, (∀ c', okB c' = true → s.data.toList = tellT c' → bk = false ∧ out = c') → (bk = true ∨ okB out = false ∨ tellT out ≠ s.data.toList) → ∀ c', okB c' = true → s.data.toList ≠ tellT c' := by
          intro _ h1 h2 c' hc' e
          obtain ⟨e1, e2⟩ := h1 c' hc' e
          subst e2
          rcases h2 with h | h | h
          · rw [e1] at h
            cases h
          · rw [hc'] at h
            cases h
          · exact h e.symm
        replace hno := Aside0.mk (hno (P := True))
        have hsh := fun w1 (hb : Below wr.heap.size wr w1) => show_calls w1 A out c (hv.out.below (below_step hB.out hb hB.out.size)) (Kd.C_below (Kd.R_reads' hR.out).2.2 hb)
        by_cases hbk : bk = true
        · subst hbk
          replace hsh := Aside0.mk hsh
          go_wp2_with (go_at_call 9; (with_reducible refine (hsh.out _ (Below.refl _ _)).mono ?_); rintro e w1 ⟨rfl, hb1⟩; replace p1 := pw_cell_below hb1 p1; have hB1 := Aside0.mk (below_step hB.out hb1 hB.out.size); clear hb1)
          go_ret2
          exact ⟨hB1.out, .inr ⟨rfl, hno.out hend.out (.inl (by first | trivial | rfl))⟩⟩
        · exact absurd hb0.out hbk
      · by_cases h256 : 256 < out.length
        · have hstop : rk.data.toList = [] ∨ bk = true ∨ 256 < out.length := .inr (.inr h256)
          replace hne := Aside0.mk hne
          replace hemp := Aside0.mk hemp
          clear hT hb0
          have hend := Aside0.mk (sofar_end hso.out hstop)
          clear hstop hso
          have hno : ∀ {P : Prop}, (∀ c', okB c' = true → s.data.toList = tellT c' → bk = false ∧ out = c') → (bk = true ∨ okB out = false ∨ tellT out ≠ s.data.toList) → ∀ c', okB c' = true → s.data.toList ≠ tellT c' := by
            intro _ h1 h2 c' hc' e
            obtain ⟨e1, e2⟩ := h1 c' hc' e
            subst e2
            rcases h2 with h | h | h
            · rw [e1] at h
              cases h
            · rw [hc'] at h
              cases h
            · exact h e.symm
          replace hno := Aside0.mk (hno (P := True))
          have hsh := fun w1 (hb : Below wr.heap.size wr w1) => show_calls w1 A out c (hv.out.below (below_step hB.out hb hB.out.size)) (Kd.C_below (Kd.R_reads' hR.out).2.2 hb)
          by_cases hbk : bk = true
          · subst hbk
            replace hsh := Aside0.mk hsh
            go_wp2_with (go_at_call 9; (with_reducible refine (hsh.out _ (Below.refl _ _)).mono ?_); rintro e w1 ⟨rfl, hb1⟩; replace p1 := pw_cell_below hb1 p1; have hB1 := Aside0.mk (below_step hB.out hb1 hB.out.size); clear hb1)
            go_ret2
            exact ⟨hB1.out, .inr ⟨rfl, hno.out hend.out (.inl (by first | trivial | rfl))⟩⟩
          · have hbk' : bk = false := Bool.eq_false_iff.2 hbk
            subst hbk'
            by_cases hok : okB out = true
            · have hF : showF out = (⟨(tellT out).toArray⟩, 0) := by unfold showF; rw [if_pos hok]
              rw [hF] at hsh
              obtain ⟨u, hu⟩ : ∃ u : ByteArray, u = ⟨(tellT out).toArray⟩ := ⟨_, rfl⟩
              have hu2 : u.data.toList = tellT out := by rw [hu]
              rw [← hu] at hsh
              clear hu hF
              obtain ⟨b, hb⟩ : ∃ b, (u.toList == s.toList) = b := ⟨_, rfl⟩
              replace hok := Aside0.mk hok
              replace hsh := Aside0.mk hsh
              cases b
              · have hx : tellT out ≠ s.data.toList := by
                  have hb' := hb
                  rw [beq_eq_false_iff_ne, ByteArray.toList_eq, ByteArray.toList_eq, hu2] at hb'
                  exact hb'
                replace hx := Aside0.mk hx
                replace hu2 := Aside0.mk hu2
                go_wp2_with (go_at_call 9; (with_reducible refine (hsh.out _ (Below.refl _ _)).mono ?_); rintro e w1 ⟨rfl, hb1⟩; replace p1 := pw_cell_below hb1 p1; have hB1 := Aside0.mk (below_step hB.out hb1 hB.out.size); clear hb1)
                go_ret2
                exact ⟨hB1.out, .inr ⟨rfl, hno.out hend.out (.inr (.inr hx.out))⟩⟩
              · have hx : s.data.toList = tellT out := by
                  have hb' := hb
                  rw [beq_iff_eq, ByteArray.toList_eq, ByteArray.toList_eq, hu2] at hb'
                  exact hb'.symm
                replace hx := Aside0.mk hx
                replace hu2 := Aside0.mk hu2
                go_wp2_with (go_at_call 9; (with_reducible refine (hsh.out _ (Below.refl _ _)).mono ?_); rintro e w1 ⟨rfl, hb1⟩; replace p1 := pw_cell_below hb1 p1; have hB1 := Aside0.mk (below_step hB.out hb1 hB.out.size); have hR1 := Aside0.mk (Kd.R_below hR.out hb1); clear hb1)
                go_ret2
                exact ⟨hB1.out, .inl ⟨_, out, rfl, hR1.out, hok.out, hx.out⟩⟩
            · have hok' : okB out = false := Bool.eq_false_iff.2 hok
              have hF : showF out = (⟨#[]⟩, 2300) := by unfold showF; rw [if_neg hok]
              rw [hF] at hsh
              clear hF
              replace hsh := Aside0.mk hsh
              replace hok' := Aside0.mk hok'
              clear hok
              go_wp2_with (go_at_call 9; (with_reducible refine (hsh.out _ (Below.refl _ _)).mono ?_); rintro e w1 ⟨rfl, hb1⟩; replace p1 := pw_cell_below hb1 p1; have hB1 := Aside0.mk (below_step hB.out hb1 hB.out.size); clear hb1)
              go_ret2
              exact ⟨hB1.out, .inr ⟨rfl, hno.out hend.out (.inr (.inl hok'.out))⟩⟩
        · have d1 : decide ((out.length : Int) ≤ 256) = true := decide_eq_true (by omega)
          have hbk' : bk = false := Bool.eq_false_iff.2 hb0
          subst hbk'
          obtain ⟨gk', rfl⟩ : ∃ gk', gk = gk' + 1 := ⟨gk - 1, by omega⟩
          replace hne := Aside0.mk hne
          replace hemp := Aside0.mk hemp
          clear hb0
          go_wp2_with (first
            | (go_at_call 21; (with_reducible refine (act_raw g rk false hv.out hB.out hgw hT.out (by omega)).mono ?_); rintro e w1 ⟨a, rk', bk', rfl, ha, hT1, hg1⟩; have hR1 := R36_grown hR.out hg1 hgv; have hB1 := hB.out.grown hg1 hB.out.size (fun k hk => by cases hk; exact hgw); have hso1 := sofar_step hso.out ha hne.out; have hle1 := Nat.le_trans ha.le hle; have hgl1 := Nat.lt_of_lt_of_le hgl hg1.size; replace hR1 := Aside0.mk hR1; replace hB1 := Aside0.mk hB1; replace hso1 := Aside0.mk hso1; replace hT1 := Aside0.mk hT1; clear ha hg1)
            | ((with_reducible refine gate_builtin (b := .append) (xs := #[.tmp 28, .tmp 31]) rfl ?_); at_builtin; refine Kd.R_append_rows k36 (w0 := W) W.heap.size rfl (.tmp 28) (.tmp 31) 22 36 (.agg (cells12 z36)) 112 rfl Tryd.underlying22 info36 rfl (by decide) (by decide) (.slice A out.length c) out [a] _ 1 1 (fun _ => True) (fun _ => False) rfl rfl (Kd.R_alloc hR1.out _) (built36 _ a) (fun x cs h => k36_KM x cs h) (fun _ hk => hk.elim) (fun _ _ => trivial) (hB1.out.alloc hB1.out.size _) (Nat.le_trans hB1.out.size (by simp)) (by omega) ?_; intro v1 w2 ho hb hgr hat; have hT2 : Taker w2 g rk' bk' := (hgr.block g (by simp; omega) hgv).trans ((heap_alloc_old w1 _ hgl1).trans hT1.out); obtain ⟨A1, n1, e1, rfl⟩ := form36 ho; replace ho := Aside0.mk ho; replace hb := Aside0.mk hb; replace hT2 := Aside0.mk hT2; clear hgr hat))
          go_roundg gk'
          case measure => exact Nat.lt_succ_self _
          case rel => exact ⟨out ++ [a], rk', bk', by simp; omega, ho.out, hT2.out, hle1, hso1.out, hb.out⟩

end Go.Proofs.YtdpbklckeamjpaaDoor.Scr
