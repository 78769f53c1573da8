/- Stacks: what the contracts of a core's step, and of all, say. -/
import Derived.Test.YtdabdbbgaekmdaaZc
namespace Go.Proofs.Ytdabdbbgaekmdaa
set_option linter.unusedVariables false
set_option linter.unusedSimpArgs false
set_option linter.unusedSectionVars false
open Go Go.RowKit

theorem hctsZ : ∀ (ci : Nat) (c : Ctr U), ctsZ[ci]? = some c → c.Holds objs Try.prog := ctsApp hctsSy (by
  intro ci c h
  match ci, h with
  | 0, h => cases h; exact hSKnown
  | 1, h => cases h; exact hSt0
  | 2, h => cases h; exact hSt1
  | 3, h => cases h; exact hSt2
  | 4, h => cases h; exact hAllS
  | n + 5, h => cases h)
theorem cp_inj {o o' : CoreP} (h1 : cpA o = cpA o') (h2 : cpB o = cpB o') (h3 : cpC o = cpC o') : o' = o := by
  cases o <;> cases o' <;> simp_all [cpA, cpB, cpC]
theorem row_inj {H H' c c' : List Int} (h : H ++ c = H' ++ c') (hl : (H.length : Int) = H'.length) : H' = H ∧ c' = c := by
  have := List.append_inj h (by omega)
  exact ⟨this.1.symm, this.2.symm⟩
section
variable {M : MemSt} {k : Tree} {env : List (EV U)} {X : Cx U} {R : List (EV U) → List (EV U) → Prop} {ci : Nat} {β : List Bnd} {t l n kk : Int} {o : CoreP} {H cc : List Int} {y : Int} {b c : CoreT}
theorem st_K0 {x7 x8 x9 x10 x11 x12 x13 x14 x15 x16 x17 x18 x19 x20 : EV U} (hc : X.cts[ci]? = some cSt0) (ha : β.map (Bnd.den env) = [.u (cpA o), .u (cpB o), .u (cpC o), .l (H ++ cc), .i H.length, .i ((H.length + cc.length : Nat) : Int), .i y, x7, x8, x9, x10, x11, x12, x13, x14, x15, x16, x17, x18, x19, x20, .u (.mem M), .i t, .i l, .i n]) (g : Geo t l n) (h : SInv M t l n kk ⟨o, H, y⟩ b c) (hkk : kk < 1000000) (ho : o ≠ .none)
    (hk : ∀ (o' : CoreP) (H' : List Int) (M' : MemSt) (dd : List Int) (env' : List (EV U)), SInv M' t l n (kk + 1) ⟨o', H', y⟩ b c → ViewL M M' t o o' → (M'.word t = M.word t ∨ M'.k = 3 ∧ M'.h = true) → o'.ok → env ++ [.u (cpA o'), .u (cpB o'), .u (cpC o'), .l (H' ++ dd), .i H'.length, .i ((H'.length + dd.length : Nat) : Int), .u (.mem M'), .b true] = env' → k.sat X R env') : (Tree.callm ci β k).sat X R env := by
  obtain ⟨hG, hN, hE⟩ := step_law g h hkk ho
  have hV := step_view g h ho
  have hn2 := g.n2
  have hHl : H.length ≤ 900000 := by
    have h1 := h.pm.length_eq
    rw [len_iot, List.length_append, List.length_append] at h1
    have h2 : H.length ≤ (CoreT.own ⟨o, H, y⟩).length := by cases o <;> simp [CoreT.own, CoreP.lays]
    omega
  refine st_callm hc ha ⟨x7, x8, x9, x10, x11, x12, x13, x14, x15, x16, x17, x18, x19, x20, o, H, cc, y, M, t, l, n, rfl, h.ha.2, h.fine, by omega, hHl⟩ (fun outs env' hr he => ?_)
  obtain ⟨z7, z8, z9, z10, z11, z12, z13, z14, z15, z16, z17, z18, z19, z20, o1, H1, c1, y1, M1, t1, l1, n1, dd, e1, e2⟩ := hr
  simp only [List.cons.injEq, EV.u.injEq, EV.l.injEq, EV.i.injEq, U.mem.injEq, and_true] at e1
  obtain ⟨p0, p1, p2, p3, p4, p5, p6, q7, q8, q9, q10, q11, q12, q13, q14, q15, q16, q17, q18, q19, q20, m0, m1, m2, m3⟩ := e1
  subst q7 q8 q9 q10 q11 q12 q13 q14 q15 q16 q17 q18 q19 q20 p6 m0 m1 m2 m3
  obtain rfl := cp_inj p0 p1 p2
  obtain ⟨rfl, rfl⟩ := row_inj p3 p4
  subst e2
  rw [hG] at he
  exact hk _ _ _ dd env' hN hV hE hN.ha.2 he
theorem st_K1 {x0 x1 x2 x3 x4 x5 x6 x14 x15 x16 x17 x18 x19 x20 : EV U} (hc : X.cts[ci]? = some cSt1) (ha : β.map (Bnd.den env) = [x0, x1, x2, x3, x4, x5, x6, .u (cpA o), .u (cpB o), .u (cpC o), .l (H ++ cc), .i H.length, .i ((H.length + cc.length : Nat) : Int), .i y, x14, x15, x16, x17, x18, x19, x20, .u (.mem M), .i t, .i l, .i n]) (g : Geo t l n) (h : SInv M t l n kk ⟨o, H, y⟩ b c) (hkk : kk < 1000000) (ho : o ≠ .none)
    (hk : ∀ (o' : CoreP) (H' : List Int) (M' : MemSt) (dd : List Int) (env' : List (EV U)), SInv M' t l n (kk + 1) ⟨o', H', y⟩ b c → ViewL M M' t o o' → (M'.word t = M.word t ∨ M'.k = 3 ∧ M'.h = true) → o'.ok → env ++ [.u (cpA o'), .u (cpB o'), .u (cpC o'), .l (H' ++ dd), .i H'.length, .i ((H'.length + dd.length : Nat) : Int), .u (.mem M'), .b true] = env' → k.sat X R env') : (Tree.callm ci β k).sat X R env := by
  obtain ⟨hG, hN, hE⟩ := step_law g h hkk ho
  have hV := step_view g h ho
  have hn2 := g.n2
  have hHl : H.length ≤ 900000 := by
    have h1 := h.pm.length_eq
    rw [len_iot, List.length_append, List.length_append] at h1
    have h2 : H.length ≤ (CoreT.own ⟨o, H, y⟩).length := by cases o <;> simp [CoreT.own, CoreP.lays]
    omega
  refine st_callm hc ha ⟨x0, x1, x2, x3, x4, x5, x6, x14, x15, x16, x17, x18, x19, x20, o, H, cc, y, M, t, l, n, rfl, h.ha.2, h.fine, by omega, hHl⟩ (fun outs env' hr he => ?_)
  obtain ⟨z0, z1, z2, z3, z4, z5, z6, z14, z15, z16, z17, z18, z19, z20, o1, H1, c1, y1, M1, t1, l1, n1, dd, e1, e2⟩ := hr
  simp only [List.cons.injEq, EV.u.injEq, EV.l.injEq, EV.i.injEq, U.mem.injEq, and_true] at e1
  obtain ⟨q0, q1, q2, q3, q4, q5, q6, p0, p1, p2, p3, p4, p5, p6, q14, q15, q16, q17, q18, q19, q20, m0, m1, m2, m3⟩ := e1
  subst q0 q1 q2 q3 q4 q5 q6 q14 q15 q16 q17 q18 q19 q20 p6 m0 m1 m2 m3
  obtain rfl := cp_inj p0 p1 p2
  obtain ⟨rfl, rfl⟩ := row_inj p3 p4
  subst e2
  rw [hG] at he
  exact hk _ _ _ dd env' hN hV hE hN.ha.2 he
theorem st_K2 {x0 x1 x2 x3 x4 x5 x6 x7 x8 x9 x10 x11 x12 x13 : EV U} (hc : X.cts[ci]? = some cSt2) (ha : β.map (Bnd.den env) = [x0, x1, x2, x3, x4, x5, x6, x7, x8, x9, x10, x11, x12, x13, .u (cpA o), .u (cpB o), .u (cpC o), .l (H ++ cc), .i H.length, .i ((H.length + cc.length : Nat) : Int), .i y, .u (.mem M), .i t, .i l, .i n]) (g : Geo t l n) (h : SInv M t l n kk ⟨o, H, y⟩ b c) (hkk : kk < 1000000) (ho : o ≠ .none)
    (hk : ∀ (o' : CoreP) (H' : List Int) (M' : MemSt) (dd : List Int) (env' : List (EV U)), SInv M' t l n (kk + 1) ⟨o', H', y⟩ b c → ViewL M M' t o o' → (M'.word t = M.word t ∨ M'.k = 3 ∧ M'.h = true) → o'.ok → env ++ [.u (cpA o'), .u (cpB o'), .u (cpC o'), .l (H' ++ dd), .i H'.length, .i ((H'.length + dd.length : Nat) : Int), .u (.mem M'), .b true] = env' → k.sat X R env') : (Tree.callm ci β k).sat X R env := by
  obtain ⟨hG, hN, hE⟩ := step_law g h hkk ho
  have hV := step_view g h ho
  have hn2 := g.n2
  have hHl : H.length ≤ 900000 := by
    have h1 := h.pm.length_eq
    rw [len_iot, List.length_append, List.length_append] at h1
    have h2 : H.length ≤ (CoreT.own ⟨o, H, y⟩).length := by cases o <;> simp [CoreT.own, CoreP.lays]
    omega
  refine st_callm hc ha ⟨x0, x1, x2, x3, x4, x5, x6, x7, x8, x9, x10, x11, x12, x13, o, H, cc, y, M, t, l, n, rfl, h.ha.2, h.fine, by omega, hHl⟩ (fun outs env' hr he => ?_)
  obtain ⟨z0, z1, z2, z3, z4, z5, z6, z7, z8, z9, z10, z11, z12, z13, o1, H1, c1, y1, M1, t1, l1, n1, dd, e1, e2⟩ := hr
  simp only [List.cons.injEq, EV.u.injEq, EV.l.injEq, EV.i.injEq, U.mem.injEq, and_true] at e1
  obtain ⟨q0, q1, q2, q3, q4, q5, q6, q7, q8, q9, q10, q11, q12, q13, p0, p1, p2, p3, p4, p5, p6, m0, m1, m2, m3⟩ := e1
  subst q0 q1 q2 q3 q4 q5 q6 q7 q8 q9 q10 q11 q12 q13 p6 m0 m1 m2 m3
  obtain rfl := cp_inj p0 p1 p2
  obtain ⟨rfl, rfl⟩ := row_inj p3 p4
  subst e2
  rw [hG] at he
  exact hk _ _ _ dd env' hN hV hE hN.ha.2 he
theorem st_AllS {o0 o1 o2 : CoreP} {H0 c0 H1 c1 H2 c2 : List Int} {y0 y1 y2 : Int} (hc : X.cts[ci]? = some cAllS) (ha : β.map (Bnd.den env) = allIns o0 o1 o2 H0 c0 H1 c1 H2 c2 y0 y1 y2 M t l n) (g : Geo t l n) (h : SInv M t l n kk ⟨o0, H0, y0⟩ ⟨o1, H1, y1⟩ ⟨o2, H2, y2⟩)
    (hk : ∀ env' : List (EV U), env ++ [.u (.mem M), .b true] = env' → k.sat X R env') : (Tree.callm ci β k).sat X R env := by
  have hA := all_ok g h
  have hn1 := g.n1
  have hn2 := g.n2
  have hl : ∀ (o : CoreP) (H : List Int) (y : Int), H.length ≤ (CoreT.own ⟨o, H, y⟩).length := fun o H y => by cases o <;> simp [CoreT.own, CoreP.lays]
  have hle := h.pm.length_eq
  simp only [len_iot, List.length_append] at hle
  have g0 := hl o0 H0 y0
  have g1 := hl o1 H1 y1
  have g2 := hl o2 H2 y2
  refine st_callm hc ha ⟨o0, o1, o2, H0, c0, H1, c1, H2, c2, y0, y1, y2, M, t, l, n, rfl, h.fine, by omega, by omega, by omega, by omega, by omega⟩ (fun outs env' hr he => ?_)
  obtain ⟨o0', o1', o2', H0', c0', H1', c1', H2', c2', y0', y1', y2', M', t', l', n', e1, e2⟩ := hr
  simp only [allIns, List.cons.injEq, EV.u.injEq, EV.l.injEq, EV.i.injEq, U.mem.injEq, and_true] at e1
  obtain ⟨p0, p1, p2, p3, p4, p5, rfl, q0, q1, q2, q3, q4, q5, rfl, r0, r1, r2, r3, r4, r5, rfl, rfl, rfl, rfl, rfl⟩ := e1
  obtain rfl := cp_inj p0 p1 p2
  obtain ⟨rfl, rfl⟩ := row_inj p3 p4
  obtain rfl := cp_inj q0 q1 q2
  obtain ⟨rfl, rfl⟩ := row_inj q3 q4
  obtain rfl := cp_inj r0 r1 r2
  obtain ⟨rfl, rfl⟩ := row_inj r3 r4
  subst e2
  have hA' : allB (chainS M t l n ++ ownL o0' o1' o2' H0' H1' H2' y0 y1 y2) n = true := hA
  rw [hA'] at he
  exact hk env' he
end
theorem cpA_n : cpA .none = .popNil := rfl
theorem cpB_n : cpB .none = .pushNil := rfl
theorem cpC_n : cpC .none = .allNil := rfl
theorem cpA_po {P : PopSt} : cpA (.pop P) = .pop P := rfl
theorem cpB_po {P : PopSt} : cpB (.pop P) = .pushNil := rfl
theorem cpC_po {P : PopSt} : cpC (.pop P) = .allNil := rfl
theorem cpA_pu {P : PushSt} : cpA (.push P) = .popNil := rfl
theorem cpB_pu {P : PushSt} : cpB (.push P) = .push P := rfl
theorem cpC_pu {P : PushSt} : cpC (.push P) = .allNil := rfl
theorem cpA_al {P : AllSt} : cpA (.all P) = .popNil := rfl
theorem cpB_al {P : AllSt} : cpB (.all P) = .pushNil := rfl
theorem cpC_al {P : AllSt} : cpC (.all P) = .all P := rfl
theorem out_known : cSKnown.out [] = [.b true] := rfl
theorem out_fill (M : MemSt) (a b n : Int) : cSFill.out [.u (.mem M), .i a, .i b, .i n] = [.u (.mem (fillSt M a b n))] := rfl
theorem out_newpo (a b n : Int) : cNewPo.out [.i a, .i b, .i n] = [.u (.pop (newPo a b n))] := rfl
theorem out_newpu (a b n c : Int) : cNewPu.out [.i a, .i b, .i n, .i c] = [.u (.push (newPu a b n c))] := rfl
theorem out_newal (a b n : Int) : cNewAl.out [.i a, .i b, .i n] = [.u (.all (newAl a b n))] := rfl
theorem nil_or_last (H : List Int) : H = [] ∨ ∃ G x, H = G ++ [x] := by
  rcases List.eq_nil_or_concat H with h | ⟨G, x, h⟩
  · exact .inl h
  · exact .inr ⟨G, x, by rw [h, List.concat_eq_append]⟩
theorem row_last {H : List Int} {x : Int} {cc : List Int} : (H ++ (x :: cc))[((H.length : Int)).toNat]?.getD 0 = x := by
  rw [Int.toNat_natCast, List.getElem?_append_right (Nat.le_refl _), Nat.sub_self]; rfl
theorem pick3 {x : Int} (h : 0 ≤ x) : x.tmod 3 = 0 ∨ x.tmod 3 = 1 ∨ x.tmod 3 = 2 := by
  rw [Int.tmod_eq_emod_of_nonneg h]; omega
end Go.Proofs.Ytdabdbbgaekmdaa
