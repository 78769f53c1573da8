/- Texts of this proof. -/
import Derived.Test.YtbmbiiiacajolaaUiK
import Derived.Test.YtbmbiiiacajolaaUhK
namespace Go.Proofs.Ytbmbiiiacajolaa
set_option linter.unusedVariables false
set_option linter.unusedSimpArgs false
set_option linter.unusedSectionVars false
open Go Go.RowKit
theorem mrk_congr {X : KL} {low low' : Int → Int} (e : ∀ j, 0 ≤ j → low j = low' j) {i l : Int} : X.mrk low i l ↔ X.mrk low' i l := by
 constructor
 · rintro ⟨a, b, c⟩; exact ⟨a, by rw [← e i a]; exact b, c⟩
 · rintro ⟨a, b, c⟩; exact ⟨a, by rw [e i a]; exact b, c⟩
theorem inv_congr {X : KL} {nx : Int → Int → Int} {low low' : Int → Int} (e : ∀ j, 0 ≤ j → low j = low' j) (h : X.Inv nx low) : X.Inv nx low' :=
 ⟨fun i i0 i1 => by rw [← e i i0]; exact h.lo i i0 i1, h.ptr, fun i l k i0 i1 l0 l1 hi hk k0 k1 hg hin => by rw [← e k k0]; exact h.gap i l k i0 i1 l0 l1 hi hk k0 k1 hg hin⟩
theorem at_congr {X : KL} {key : Int} {nx : Int → Int → Int} {low low' : Int → Int} (e : ∀ j, 0 ≤ j → low j = low' j) : ∀ {s : FS}, X.At key nx low s → X.At key nx low' s
 | .one _ _, h => h
 | .two _ _ _, h => h
 | .four _ _ _ _, h => h
 | .over, _ => trivial
 | .three l p c d, ⟨h1, h2, h3, h4⟩ => ⟨h1, h2, h3, by rw [← e c h2.2.1]; exact h4⟩
theorem rep_congr {X : KL} {nx : Int → Int → Int} {low low' : Int → Int} {M : MemSt} (e : ∀ j, 0 ≤ j → low j = low' j) (h : X.Rep nx low M) : X.Rep nx low' M :=
 ⟨h.len, fun i l i0 i1 l0 l1 => by
   rw [h.wds i l i0 i1 l0 l1]
   unfold KL.wd
   by_cases m : X.mrk low i l
   · rw [if_pos m, if_pos ((mrk_congr e).1 m)]
   · rw [if_neg m, if_neg (fun q => m ((mrk_congr e).2 q))], h.kys⟩
theorem fok_none {X : KL} {nx : Int → Int → Int} {low : Int → Int} {key : Int} : fOk X nx low key none := fun F e => by cases e
theorem fok_some {X : KL} {nx : Int → Int → Int} {low : Int → Int} {key : Int} {F : FindSt} {s : FS} (h1 : X.At key nx low s) (h2 : s ≠ .over) (h3 : X.FRep key F s) : fOk X nx low key (some F) := fun G e => by cases e; exact ⟨s, h1, h2, h3⟩
theorem step_good {E : LsE} {nx : Int → Int → Int} {key : Int} {s : FS} {F : FindSt} (hG : E.good nx) (hAt : E.X.At key nx (nthL E.ls) s) (hne : s ≠ .over) (hF : E.X.FRep key F s) :
 (LsE.mk E.s E.H E.n E.ck E.ch E.ci E.cl (F.step E.M).2 E.ks E.hs E.is E.ls).good (E.X.step key nx (nthL E.ls) s).2 ∧ E.X.At key (E.X.step key nx (nthL E.ls) s).2 (nthL E.ls) (E.X.step key nx (nthL E.ls) s).1 ∧ E.X.FRep key (F.step E.M).1 (E.X.step key nx (nthL E.ls) s).1 ∧ ∀ key' o, fOk E.X nx (nthL E.ls) key' o → fOk E.X (E.X.step key nx (nthL E.ls) s).2 (nthL E.ls) key' o := by
 have hf := hG.f
 have h1 := KL.step_rep hf.X hG.I hG.R hAt hne hF
 have h2 := KL.step_at hf.X hG.I hAt
 refine ⟨⟨⟨hf.X, hf.s, hf.k, hf.h, hf.i, hf.l, step_fine hf.M, hf.kw⟩, h2.1, h1.2.1⟩, h2.2, h1.1, fun key' o ho G e => ?_⟩
 obtain ⟨s', a, b, c⟩ := ho G e
 exact ⟨s', KL.step_oth hf.X hG.I hAt a, b, c⟩
theorem marks_good {E : LsE} {nx : Int → Int → Int} {k : Int} (hG : E.good nx) (k0 : 0 ≤ k) :
 (LsE.mk E.s E.H E.n E.ck E.ch E.ci E.cl (marksM E k) E.ks E.hs E.is (marksL E k)).good nx ∧ ∀ key' o, fOk E.X nx (nthL E.ls) key' o → fOk E.X nx (nthL (marksL E k)) key' o := by
 have hf := hG.f
 by_cases h : E.n < 1 ∨ nthL E.ls (marksI E k) ≤ 0
 · obtain ⟨e1, e2⟩ := marks_no h
   rw [e1, e2]
   exact ⟨hG, fun _ _ h => h⟩
 · obtain ⟨e1, e2⟩ := marks_yes h
   have hn : 1 ≤ E.n := by omega
   have hp : 0 < nthL E.ls (marksI E k) := by omega
   have i0 : 0 ≤ marksI E k := Int.tmod_nonneg _ k0
   have i1 : marksI E k < E.n := Int.tmod_lt_of_pos _ (by omega)
   have n9 : E.n ≤ 9 := hf.X.n9
   have H1 : 1 ≤ E.H := hf.X.H1
   have H4 : E.H ≤ 4 := hf.X.H4
   have hs1 : E.s = if E.n < 1 then 1 else E.n := hf.s
   have hs2 : 1 ≤ E.s ∧ E.s ≤ 9 ∧ E.n ≤ E.s := by split at hs1 <;> omega
   have hz : E.X.sz = E.s := hs1.symm
   have hlo := hG.I.lo (marksI E k) i0 i1
   have hnd := hf.X.nd (marksI E k) i0 i1
   have hh : E.X.high (marksI E k) ≤ E.H := hnd.2.2
   have he : ∀ j, 0 ≤ j → KL.lower (nthL E.ls) (marksI E k) j = nthL (E.ls.set (marksI E k).toNat (nthL E.ls (marksI E k) - 1)) j := by
    intro j j0
    have hl := hf.l
    unfold KL.lower nthL
    rw [List.getElem?_set]
    by_cases e : j = marksI E k
    · rw [if_pos e, if_pos (by rw [e]), if_pos (by omega), e]; rfl
    · rw [if_neg e, if_neg (by omega)]
   have hr := KL.cell_rng (s := E.s) (H := E.H) (i := marksI E k) (l := nthL E.ls (marksI E k) - 1) hs2.1 hs2.2.1 H1 H4 (by omega) (by omega) (by omega) (by omega)
   have hlen : (E.M.W.length : Int) = 9 + 2 * E.s + E.H + E.s * (4 + E.H) := by have := hG.R.len; rw [hz] at this; exact this
   have ha0 : 0 ≤ marksAt E k := hr.1
   have ha1 : marksAt E k < E.M.W.length := by rw [hlen]; exact hr.2
   have hwd : E.M.word (marksAt E k) = rfN (nx (marksI E k) (nthL E.ls (marksI E k) - 1)) := by
    have h1 := hG.R.wds (marksI E k) (nthL E.ls (marksI E k) - 1) (by omega) i1 (by omega) (by show _ < E.H; omega)
    rw [hz] at h1
    have h2 : ¬ E.X.mrk (nthL E.ls) (marksI E k) (nthL E.ls (marksI E k) - 1) := fun q => by have := q.2.1; omega
    have h3 : E.X.wd nx (nthL E.ls) (marksI E k) (nthL E.ls (marksI E k) - 1) = rfN (nx (marksI E k) (nthL E.ls (marksI E k) - 1)) := by unfold KL.wd; rw [if_neg h2, Int.add_zero]
    rw [h3] at h1; exact h1
   have hN := KL.nx_rng hG.I hf.X (i := marksI E k) (l := nthL E.ls (marksI E k) - 1) (by omega) i1 (by omega) (by show _ < E.H; omega)
   have hN1 : nx (marksI E k) (nthL E.ls (marksI E k) - 1) < E.n := hN.2
   have hrf := KL.rf_rng (d := nx (marksI E k) (nthL E.ls (marksI E k) - 1)) (by omega)
   have hln : (E.M.load (marksAt E k)).n = E.M.word (marksAt E k) := (acc_in ha0 ha1).2.2.2.1
   have hor : bits .or .u64 (E.M.load (marksAt E k)).n 9223372036854775808 = E.M.word (marksAt E k) + 9223372036854775808 := by
    rw [hln, hwd]; exact mark_or hrf.1 hrf.2
   rw [e1, e2, hor]
   have hl1 : (E.M.load (marksAt E k)).W.length = E.M.W.length := len_load _ _
   have hR' := KL.rep_lower (M' := (E.M.load (marksAt E k)).store (marksAt E k) (E.M.word (marksAt E k) + 9223372036854775808)) hf.X hG.I hG.R i0 i1 hp (by rw [len_store, hl1]) (fun y y0 => by
    rw [hz, KL.store_word ha0 (by rw [hl1]; exact ha1) y0, load_word ha0 ha1 y0]; rfl)
   refine ⟨⟨⟨hf.X, hf.s, hf.k, hf.h, hf.i, by show E.n ≤ _; rw [List.length_set]; exact hf.l, fine_store (fine_load hf.M _) (by rw [hwd]; exact ⟨by omega, by omega⟩), hf.kw⟩, inv_congr he (KL.inv_lower hG.I hp), rep_congr he hR'⟩, fun key' o ho G e => ?_⟩
   obtain ⟨s', a, b, c⟩ := ho G e
   exact ⟨s', at_congr he (KL.at_lower a), b, c⟩
theorem new_good {E : LsE} {nx : Int → Int → Int} (key : Int) (hG : E.good nx) : E.X.At key nx (nthL E.ls) E.X.anew ∧ E.X.anew ≠ .over ∧ E.X.FRep key (FindSt.new (twL E.s E.H) key E.H) E.X.anew := by
 have hz : E.X.sz = E.s := hG.f.s.symm
 have := KL.rep_new (X := E.X) (key := key) hG.f.X
 rw [hz] at this
 exact ⟨KL.at_anew hG.f.X, (fun h => by cases h), this⟩
theorem err_busy {X : KL} {key : Int} {F : FindSt} {s : FS} (h : X.FRep key F s) (hs : s ≠ .over) : errF F = 14 := by
 have : ¬ F.line = 9 := by
  match s, h.2 with
  | .one _ _, h => have := h.1; omega
  | .two _ _ _, h => have := h.1; omega
  | .three _ _ _ _, h => have := h.1; omega
  | .four _ _ _ _, h => have := h.1; omega
  | .over, _ => exact absurd rfl hs
 exact if_neg this
theorem err_over {X : KL} {key : Int} {F : FindSt} (h : X.FRep key F .over) : errF F = 0 := if_pos h.2
theorem lseF_inj {E E' : LsE} {F F' : FindSt} (h : E.env ++ [.u (.find F)] = E'.env ++ [.u (.find F')]) : E = E' ∧ F = F' := by
 obtain ⟨s, H, n, ck, ch, ci, cl, M, ks, hs, is, ls⟩ := E
 obtain ⟨s', H', n', ck', ch', ci', cl', M', ks', hs', is', ls'⟩ := E'
 simp only [LsE.env, List.cons_append, List.nil_append, List.cons.injEq, EV.i.injEq, EV.l.injEq, EV.u.injEq, U.mem.injEq, U.find.injEq, and_true, true_and] at h
 obtain ⟨h1, h2, h3, h4, h5, h6, h7, h8, h9, h10, h11, h12, h13, h14, h15, h16, h17, h18, h19, h20⟩ := h
 simp_all
theorem lseE_inj {E E' : LsE} {F F' : FindSt} {k k' : Int} (h : E.env ++ [.u (.find F), .i k] = E'.env ++ [.u (.find F'), .i k']) : F = F' := by
 have : E.env ++ [.u (.find F)] = E'.env ++ [.u (.find F')] := by
  have := congrArg List.dropLast h
  rw [show E.env ++ [.u (.find F), .i k] = (E.env ++ [.u (.find F)]) ++ [.i k] by simp, show E'.env ++ [.u (.find F'), .i k'] = (E'.env ++ [.u (.find F')]) ++ [.i k'] by simp, List.dropLast_concat, List.dropLast_concat] at this
  exact this
 exact (lseF_inj this).2
theorem out_awk (f : FuncId) : (boolC f).out [] = [.b true] := rfl
theorem out_fnew (a0 a1 a2 a3 a4 a5 a6 a7 a8 a9 a10 a11 a12 k : Int) : cFNew.out [.i a0, .i a1, .i a2, .i a3, .i a4, .i a5, .i a6, .i a7, .i a8, .i a9, .i a10, .i a11, .i a12, .i k] = [.u (.find (.new [a0, a1, a2, a3, a4, a5, a6, a7, a8, a9, a10, a11, a12] k a2))] := rfl
section
variable {k : Tree} {env env' : List (EV U)} {X : Cx U} {R : List (EV U) → List (EV U) → Prop}
theorem mk_findNil (hX : X.objs = objs) (he : env ++ [.u .findNil] = env') (hk : k.sat X R env') : (Tree.ext (.mk 15 []) k).sat X R env := st_mk (T := findNilT) (by rw [hX]; rfl) rfl rfl he hk
end
end Go.Proofs.Ytbmbiiiacajolaa
