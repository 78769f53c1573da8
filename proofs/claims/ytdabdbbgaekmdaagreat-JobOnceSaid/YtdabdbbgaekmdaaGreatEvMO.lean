/- Jobs, once: rounds of the core 0 (printed by gen_db.py). -/
import Derived.Test.YtdabdbbgaekmdaaGreatEyMO
import Derived.Test.YtdabdbbgaekmdaaGreatEyTO
namespace Go.Proofs.YtdabdbbgaekmdaaGreat
set_option linter.unusedVariables false
set_option linter.unusedSimpArgs false
set_option linter.unusedSectionVars false
open Go Go.RowKit
set_option maxRecDepth 10000 in
set_option maxHeartbeats 8000000 in
theorem bR0 (P : Program) (hs : List (Nat × Nat × List Nat)) {sz : Int} {gl : Nat → Nat → Int} {kl : Nat} {cl p : Int} {x6 x7 x8 : EV U} {M : MemSt} {o0 o1 o2 : CoSt} {c0 c1 c2 : Int} {T : List (Int × Int)} {d : List Int} {cp : Int} {C : List Int} {i N : Int} (h1 : 0 ≤ i) (h2 : i < kl) (h3 : kl ≤ 300) (p0 : 0 ≤ p) (p5 : p < 5) (J : JInv M (1 + p) i C T ⟨o0, c0, 0⟩ ⟨o1, c1, 1⟩ ⟨o2, c2, 2⟩) (hcp : 2 * cp = ((flatP T ++ d).length : Int)) (hN : (gl i.toNat 0).emod 600 = N) (hN0 : 0 ≤ N) (hN6 : N < 600) (hq : N.tmod 3 = 0) :
    tOnceL4.sat { cxEy P with hints := hs } (ctrR cOnce) ([.i sz, .f gl kl, .i kl, .i cl, .b true, .i p, x6, x7, x8] ++ (crIns M (1 + p) o0 o1 o2 c0 c1 c2 T d cp ++ [.i i])) := by
  have hw : IntKind.i64.wrap (1 + p) = 1 + p := wrap_small (by omega) (by omega)
  have hwi : IntKind.i64.wrap (i + 1) = i + 1 := wrap_small (by omega) (by omega)
  have hd3 : N.tdiv 3 = N / 3 := Int.tdiv_eq_ediv_of_nonneg hN0
  have hq3 : IntKind.i64.wrap (N.tdiv 3) = N.tdiv 3 := by rw [hd3]; exact wrap_small (by omega) (by omega)
  rcases o0 with _ | O | O | O | O | O
  · have Jb : JInv M (1 + p) i C T ⟨begO (1 + p) 0 (N.tdiv 3), 0, 0⟩ ⟨o1, c1, 1⟩ ⟨o2, c2, 2⟩ := beg_ok (by omega) (by omega) (by omega) (by omega) J
    unfold tOnceL4
    simp only [crIns, oe, List.cons_append, List.nil_append]
    repeat' (first
    | (first
      | (with_reducible refine st_need ?_ ?_
         focus (simp only [dn, reduceCtorEq, oe, hw, hN, hq] <;> first | omega | assumption))
      | (with_reducible refine st_and ?_ ?_)
      | (with_reducible exact st_ok)
      | (with_reducible refine st_br (fun hc => ?_) (fun hc => ?_) <;> (simp only [dn, reduceCtorEq, oe, hw, hN, hq] at hc) <;> (try (exfalso; first | contradiction | omega)))
      | (refine st_call (by rfl) (by simp only [dn, reduceCtorEq, oe, hw, hN, hq] <;> rfl) ?_ (by simp only [out_pick, hN] <;> rfl) (by simp only [dn] <;> rfl) ?_
         focus (first | exact pre_pick (by decide) (by decide))))
    | (refine st_beg0 (M := M) (n := 1 + p) (m := N.tdiv 3) (o1 := o1) (o2 := o2) (T := T) (d := d) (by rfl) (by simp only [dn, reduceCtorEq, oe, hN, hq3] <;> rfl) (by omega) (by omega) (by omega) (by omega) (by simp only [List.cons_append, List.nil_append] <;> rfl) ?_)
    | (refine st_steps0 (M := M) (n := 1 + p) (o0 := begO (1 + p) 0 (N.tdiv 3)) (o1 := o1) (o2 := o2) (c0 := 0) (c1 := c1) (c2 := c2) (T := T) (d := d) (by rfl) (by simp only [dn, reduceCtorEq, va_map] <;> rfl) Jb beg_kind (by omega) (by omega) h1 (by omega) hcp (fun M' o' c' T' d' cp' C' env' J' hr hcp' he => ?_)
       simp only [outs9, List.cons_append, List.nil_append] at he
       subst he)
    | (refine st_back (by rfl) (by simp only [dn, reduceCtorEq, hwi, oe] <;> rfl) (by simp only [dn] <;> rfl) (by rfl) ?_ ?_
       focus exact ⟨sz, gl, kl, cl, p, x6, x7, x8, M', o', o1, o2, c', c1, c2, T', d', cp', C', i + 1, rfl, by omega, by omega, h3, p0, p5, J', hcp'⟩
       focus (show ((kl : Int) - (i + 1)).toNat < ((kl : Int) - i).toNat; omega))
    | fail "no step")
  rotate_right
  · exact J.ha.1.elim
  rotate_right
  · exact J.ha.1.elim
  all_goals
    unfold tOnceL4
    simp only [crIns, oe, List.cons_append, List.nil_append]
    repeat' (first
    | (first
      | (with_reducible refine st_need ?_ ?_
         focus (simp only [dn, reduceCtorEq, oe, hw, hN, hq] <;> first | omega | assumption))
      | (with_reducible refine st_and ?_ ?_)
      | (with_reducible exact st_ok)
      | (with_reducible refine st_br (fun hc => ?_) (fun hc => ?_) <;> (simp only [dn, reduceCtorEq, oe, hw, hN, hq] at hc) <;> (try (exfalso; first | contradiction | omega)))
      | (refine st_call (by rfl) (by simp only [dn, reduceCtorEq, oe, hw, hN, hq] <;> rfl) ?_ (by simp only [out_pick, hN] <;> rfl) (by simp only [dn] <;> rfl) ?_
         focus (first | exact pre_pick (by decide) (by decide))))
    | (refine st_steps0 (M := M) (n := 1 + p) (o0 := .take O) (o1 := o1) (o2 := o2) (T := T) (d := d) (by rfl) (by simp only [dn, reduceCtorEq, oe] <;> rfl) J (by intro e; cases e) (by omega) (by omega) h1 (by omega) hcp (fun M' o' c' T' d' cp' C' env' J' hr hcp' he => ?_)
       simp only [outs9, List.cons_append, List.nil_append] at he
       subst he)
    | (refine st_steps0 (M := M) (n := 1 + p) (o0 := .give O) (o1 := o1) (o2 := o2) (T := T) (d := d) (by rfl) (by simp only [dn, reduceCtorEq, oe] <;> rfl) J (by intro e; cases e) (by omega) (by omega) h1 (by omega) hcp (fun M' o' c' T' d' cp' C' env' J' hr hcp' he => ?_)
       simp only [outs9, List.cons_append, List.nil_append] at he
       subst he)
    | (refine st_steps0 (M := M) (n := 1 + p) (o0 := .turn O) (o1 := o1) (o2 := o2) (T := T) (d := d) (by rfl) (by simp only [dn, reduceCtorEq, oe] <;> rfl) J (by intro e; cases e) (by omega) (by omega) h1 (by omega) hcp (fun M' o' c' T' d' cp' C' env' J' hr hcp' he => ?_)
       simp only [outs9, List.cons_append, List.nil_append] at he
       subst he)
    | (refine st_back (by rfl) (by simp only [dn, reduceCtorEq, hwi, oe] <;> rfl) (by simp only [dn] <;> rfl) (by rfl) ?_ ?_
       focus exact ⟨sz, gl, kl, cl, p, x6, x7, x8, M', o', o1, o2, c', c1, c2, T', d', cp', C', i + 1, rfl, by omega, by omega, h3, p0, p5, J', hcp'⟩
       focus (show ((kl : Int) - (i + 1)).toNat < ((kl : Int) - i).toNat; omega))
    | fail "no step")
end Go.Proofs.YtdabdbbgaekmdaaGreat
namespace Go.Proofs.YtdabdbbgaekmdaaGreat
set_option linter.unusedVariables false
set_option linter.unusedSimpArgs false
set_option linter.unusedSectionVars false
open Go Go.RowKit
set_option maxRecDepth 10000 in
set_option maxHeartbeats 8000000 in
theorem bR1 (P : Program) (hs : List (Nat × Nat × List Nat)) {sz : Int} {gl : Nat → Nat → Int} {kl : Nat} {cl p : Int} {x6 x7 x8 : EV U} {M : MemSt} {o0 o1 o2 : CoSt} {c0 c1 c2 : Int} {T : List (Int × Int)} {d : List Int} {cp : Int} {C : List Int} {i N : Int} (h1 : 0 ≤ i) (h2 : i < kl) (h3 : kl ≤ 300) (p0 : 0 ≤ p) (p5 : p < 5) (J : JInv M (1 + p) i C T ⟨o0, c0, 0⟩ ⟨o1, c1, 1⟩ ⟨o2, c2, 2⟩) (hcp : 2 * cp = ((flatP T ++ d).length : Int)) (hN : (gl i.toNat 0).emod 600 = N) (hN0 : 0 ≤ N) (hN6 : N < 600) (hq : N.tmod 3 = 1) :
    tOnceL4.sat { cxEy P with hints := hs } (ctrR cOnce) ([.i sz, .f gl kl, .i kl, .i cl, .b true, .i p, x6, x7, x8] ++ (crIns M (1 + p) o0 o1 o2 c0 c1 c2 T d cp ++ [.i i])) := by
  have hw : IntKind.i64.wrap (1 + p) = 1 + p := wrap_small (by omega) (by omega)
  have hwi : IntKind.i64.wrap (i + 1) = i + 1 := wrap_small (by omega) (by omega)
  have hd3 : N.tdiv 3 = N / 3 := Int.tdiv_eq_ediv_of_nonneg hN0
  have hq3 : IntKind.i64.wrap (N.tdiv 3) = N.tdiv 3 := by rw [hd3]; exact wrap_small (by omega) (by omega)
  rcases o1 with _ | O | O | O | O | O
  · have Jb : JInv M (1 + p) i C T ⟨o0, c0, 0⟩ ⟨begO (1 + p) 1 (N.tdiv 3), 0, 1⟩ ⟨o2, c2, 2⟩ := (beg_ok (by omega) (by omega) (by omega) (by omega) J.swap1).swap1
    unfold tOnceL4
    simp only [crIns, oe, List.cons_append, List.nil_append]
    repeat' (first
    | (first
      | (with_reducible refine st_need ?_ ?_
         focus (simp only [dn, reduceCtorEq, oe, hw, hN, hq] <;> first | omega | assumption))
      | (with_reducible refine st_and ?_ ?_)
      | (with_reducible exact st_ok)
      | (with_reducible refine st_br (fun hc => ?_) (fun hc => ?_) <;> (simp only [dn, reduceCtorEq, oe, hw, hN, hq] at hc) <;> (try (exfalso; first | contradiction | omega)))
      | (refine st_call (by rfl) (by simp only [dn, reduceCtorEq, oe, hw, hN, hq] <;> rfl) ?_ (by simp only [out_pick, hN] <;> rfl) (by simp only [dn] <;> rfl) ?_
         focus (first | exact pre_pick (by decide) (by decide))))
    | (refine st_beg1 (M := M) (n := 1 + p) (m := N.tdiv 3) (o0 := o0) (o2 := o2) (T := T) (d := d) (by rfl) (by simp only [dn, reduceCtorEq, oe, hN, hq3] <;> rfl) (by omega) (by omega) (by omega) (by omega) (by simp only [List.cons_append, List.nil_append] <;> rfl) ?_)
    | (refine st_steps1 (M := M) (n := 1 + p) (o0 := o0) (o1 := begO (1 + p) 1 (N.tdiv 3)) (o2 := o2) (c0 := c0) (c1 := 0) (c2 := c2) (T := T) (d := d) (by rfl) (by simp only [dn, reduceCtorEq, va_map] <;> rfl) Jb beg_kind (by omega) (by omega) h1 (by omega) hcp (fun M' o' c' T' d' cp' C' env' J' hr hcp' he => ?_)
       simp only [outs9, List.cons_append, List.nil_append] at he
       subst he)
    | (refine st_back (by rfl) (by simp only [dn, reduceCtorEq, hwi, oe] <;> rfl) (by simp only [dn] <;> rfl) (by rfl) ?_ ?_
       focus exact ⟨sz, gl, kl, cl, p, x6, x7, x8, M', o0, o', o2, c0, c', c2, T', d', cp', C', i + 1, rfl, by omega, by omega, h3, p0, p5, J', hcp'⟩
       focus (show ((kl : Int) - (i + 1)).toNat < ((kl : Int) - i).toNat; omega))
    | fail "no step")
  rotate_right
  · exact J.hb.1.elim
  rotate_right
  · exact J.hb.1.elim
  all_goals
    unfold tOnceL4
    simp only [crIns, oe, List.cons_append, List.nil_append]
    repeat' (first
    | (first
      | (with_reducible refine st_need ?_ ?_
         focus (simp only [dn, reduceCtorEq, oe, hw, hN, hq] <;> first | omega | assumption))
      | (with_reducible refine st_and ?_ ?_)
      | (with_reducible exact st_ok)
      | (with_reducible refine st_br (fun hc => ?_) (fun hc => ?_) <;> (simp only [dn, reduceCtorEq, oe, hw, hN, hq] at hc) <;> (try (exfalso; first | contradiction | omega)))
      | (refine st_call (by rfl) (by simp only [dn, reduceCtorEq, oe, hw, hN, hq] <;> rfl) ?_ (by simp only [out_pick, hN] <;> rfl) (by simp only [dn] <;> rfl) ?_
         focus (first | exact pre_pick (by decide) (by decide))))
    | (refine st_steps1 (M := M) (n := 1 + p) (o0 := o0) (o1 := .take O) (o2 := o2) (T := T) (d := d) (by rfl) (by simp only [dn, reduceCtorEq, oe] <;> rfl) J (by intro e; cases e) (by omega) (by omega) h1 (by omega) hcp (fun M' o' c' T' d' cp' C' env' J' hr hcp' he => ?_)
       simp only [outs9, List.cons_append, List.nil_append] at he
       subst he)
    | (refine st_steps1 (M := M) (n := 1 + p) (o0 := o0) (o1 := .give O) (o2 := o2) (T := T) (d := d) (by rfl) (by simp only [dn, reduceCtorEq, oe] <;> rfl) J (by intro e; cases e) (by omega) (by omega) h1 (by omega) hcp (fun M' o' c' T' d' cp' C' env' J' hr hcp' he => ?_)
       simp only [outs9, List.cons_append, List.nil_append] at he
       subst he)
    | (refine st_steps1 (M := M) (n := 1 + p) (o0 := o0) (o1 := .turn O) (o2 := o2) (T := T) (d := d) (by rfl) (by simp only [dn, reduceCtorEq, oe] <;> rfl) J (by intro e; cases e) (by omega) (by omega) h1 (by omega) hcp (fun M' o' c' T' d' cp' C' env' J' hr hcp' he => ?_)
       simp only [outs9, List.cons_append, List.nil_append] at he
       subst he)
    | (refine st_back (by rfl) (by simp only [dn, reduceCtorEq, hwi, oe] <;> rfl) (by simp only [dn] <;> rfl) (by rfl) ?_ ?_
       focus exact ⟨sz, gl, kl, cl, p, x6, x7, x8, M', o0, o', o2, c0, c', c2, T', d', cp', C', i + 1, rfl, by omega, by omega, h3, p0, p5, J', hcp'⟩
       focus (show ((kl : Int) - (i + 1)).toNat < ((kl : Int) - i).toNat; omega))
    | fail "no step")
end Go.Proofs.YtdabdbbgaekmdaaGreat
namespace Go.Proofs.YtdabdbbgaekmdaaGreat
set_option linter.unusedVariables false
set_option linter.unusedSimpArgs false
set_option linter.unusedSectionVars false
open Go Go.RowKit
set_option maxRecDepth 10000 in
set_option maxHeartbeats 8000000 in
theorem bR2 (P : Program) (hs : List (Nat × Nat × List Nat)) {sz : Int} {gl : Nat → Nat → Int} {kl : Nat} {cl p : Int} {x6 x7 x8 : EV U} {M : MemSt} {o0 o1 o2 : CoSt} {c0 c1 c2 : Int} {T : List (Int × Int)} {d : List Int} {cp : Int} {C : List Int} {i N : Int} (h1 : 0 ≤ i) (h2 : i < kl) (h3 : kl ≤ 300) (p0 : 0 ≤ p) (p5 : p < 5) (J : JInv M (1 + p) i C T ⟨o0, c0, 0⟩ ⟨o1, c1, 1⟩ ⟨o2, c2, 2⟩) (hcp : 2 * cp = ((flatP T ++ d).length : Int)) (hN : (gl i.toNat 0).emod 600 = N) (hN0 : 0 ≤ N) (hN6 : N < 600) (hq : N.tmod 3 = 2) :
    tOnceL4.sat { cxEy P with hints := hs } (ctrR cOnce) ([.i sz, .f gl kl, .i kl, .i cl, .b true, .i p, x6, x7, x8] ++ (crIns M (1 + p) o0 o1 o2 c0 c1 c2 T d cp ++ [.i i])) := by
  have hw : IntKind.i64.wrap (1 + p) = 1 + p := wrap_small (by omega) (by omega)
  have hwi : IntKind.i64.wrap (i + 1) = i + 1 := wrap_small (by omega) (by omega)
  have hd3 : N.tdiv 3 = N / 3 := Int.tdiv_eq_ediv_of_nonneg hN0
  have hq3 : IntKind.i64.wrap (N.tdiv 3) = N.tdiv 3 := by rw [hd3]; exact wrap_small (by omega) (by omega)
  rcases o2 with _ | O | O | O | O | O
  · have Jb : JInv M (1 + p) i C T ⟨o0, c0, 0⟩ ⟨o1, c1, 1⟩ ⟨begO (1 + p) 2 (N.tdiv 3), 0, 2⟩ := (beg_ok (by omega) (by omega) (by omega) (by omega) J.swap2).swap2
    unfold tOnceL4
    simp only [crIns, oe, List.cons_append, List.nil_append]
    repeat' (first
    | (first
      | (with_reducible refine st_need ?_ ?_
         focus (simp only [dn, reduceCtorEq, oe, hw, hN, hq] <;> first | omega | assumption))
      | (with_reducible refine st_and ?_ ?_)
      | (with_reducible exact st_ok)
      | (with_reducible refine st_br (fun hc => ?_) (fun hc => ?_) <;> (simp only [dn, reduceCtorEq, oe, hw, hN, hq] at hc) <;> (try (exfalso; first | contradiction | omega)))
      | (refine st_call (by rfl) (by simp only [dn, reduceCtorEq, oe, hw, hN, hq] <;> rfl) ?_ (by simp only [out_pick, hN] <;> rfl) (by simp only [dn] <;> rfl) ?_
         focus (first | exact pre_pick (by decide) (by decide))))
    | (refine st_beg2 (M := M) (n := 1 + p) (m := N.tdiv 3) (o0 := o0) (o1 := o1) (T := T) (d := d) (by rfl) (by simp only [dn, reduceCtorEq, oe, hN, hq3] <;> rfl) (by omega) (by omega) (by omega) (by omega) (by simp only [List.cons_append, List.nil_append] <;> rfl) ?_)
    | (refine st_steps2 (M := M) (n := 1 + p) (o0 := o0) (o1 := o1) (o2 := begO (1 + p) 2 (N.tdiv 3)) (c0 := c0) (c1 := c1) (c2 := 0) (T := T) (d := d) (by rfl) (by simp only [dn, reduceCtorEq, va_map] <;> rfl) Jb beg_kind (by omega) (by omega) h1 (by omega) hcp (fun M' o' c' T' d' cp' C' env' J' hr hcp' he => ?_)
       simp only [outs9, List.cons_append, List.nil_append] at he
       subst he)
    | (refine st_back (by rfl) (by simp only [dn, reduceCtorEq, hwi, oe] <;> rfl) (by simp only [dn] <;> rfl) (by rfl) ?_ ?_
       focus exact ⟨sz, gl, kl, cl, p, x6, x7, x8, M', o0, o1, o', c0, c1, c', T', d', cp', C', i + 1, rfl, by omega, by omega, h3, p0, p5, J', hcp'⟩
       focus (show ((kl : Int) - (i + 1)).toNat < ((kl : Int) - i).toNat; omega))
    | fail "no step")
  rotate_right
  · exact J.hc.1.elim
  rotate_right
  · exact J.hc.1.elim
  all_goals
    unfold tOnceL4
    simp only [crIns, oe, List.cons_append, List.nil_append]
    repeat' (first
    | (first
      | (with_reducible refine st_need ?_ ?_
         focus (simp only [dn, reduceCtorEq, oe, hw, hN, hq] <;> first | omega | assumption))
      | (with_reducible refine st_and ?_ ?_)
      | (with_reducible exact st_ok)
      | (with_reducible refine st_br (fun hc => ?_) (fun hc => ?_) <;> (simp only [dn, reduceCtorEq, oe, hw, hN, hq] at hc) <;> (try (exfalso; first | contradiction | omega)))
      | (refine st_call (by rfl) (by simp only [dn, reduceCtorEq, oe, hw, hN, hq] <;> rfl) ?_ (by simp only [out_pick, hN] <;> rfl) (by simp only [dn] <;> rfl) ?_
         focus (first | exact pre_pick (by decide) (by decide))))
    | (refine st_steps2 (M := M) (n := 1 + p) (o0 := o0) (o1 := o1) (o2 := .take O) (T := T) (d := d) (by rfl) (by simp only [dn, reduceCtorEq, oe] <;> rfl) J (by intro e; cases e) (by omega) (by omega) h1 (by omega) hcp (fun M' o' c' T' d' cp' C' env' J' hr hcp' he => ?_)
       simp only [outs9, List.cons_append, List.nil_append] at he
       subst he)
    | (refine st_steps2 (M := M) (n := 1 + p) (o0 := o0) (o1 := o1) (o2 := .give O) (T := T) (d := d) (by rfl) (by simp only [dn, reduceCtorEq, oe] <;> rfl) J (by intro e; cases e) (by omega) (by omega) h1 (by omega) hcp (fun M' o' c' T' d' cp' C' env' J' hr hcp' he => ?_)
       simp only [outs9, List.cons_append, List.nil_append] at he
       subst he)
    | (refine st_steps2 (M := M) (n := 1 + p) (o0 := o0) (o1 := o1) (o2 := .turn O) (T := T) (d := d) (by rfl) (by simp only [dn, reduceCtorEq, oe] <;> rfl) J (by intro e; cases e) (by omega) (by omega) h1 (by omega) hcp (fun M' o' c' T' d' cp' C' env' J' hr hcp' he => ?_)
       simp only [outs9, List.cons_append, List.nil_append] at he
       subst he)
    | (refine st_back (by rfl) (by simp only [dn, reduceCtorEq, hwi, oe] <;> rfl) (by simp only [dn] <;> rfl) (by rfl) ?_ ?_
       focus exact ⟨sz, gl, kl, cl, p, x6, x7, x8, M', o0, o1, o', c0, c1, c', T', d', cp', C', i + 1, rfl, by omega, by omega, h3, p0, p5, J', hcp'⟩
       focus (show ((kl : Int) - (i + 1)).toNat < ((kl : Int) - i).toNat; omega))
    | fail "no step")
end Go.Proofs.YtdabdbbgaekmdaaGreat
