/- The contracts of memories hold. -/
import Derived.Test.YtdabdbbgaekmdaaGreatCcT
namespace Go.Proofs.YtdabdbbgaekmdaaGreat
set_option linter.unusedVariables false
set_option linter.unusedSimpArgs false
set_option linter.unusedSectionVars false
open Go

section
variable {l : List Int} {s k a o n N at_ w : Int} {h held : Bool} {kind : Int}
theorem mem_is (h1 : l.length = 4096) (h2 : 0 ≤ s) (h3 : s ≤ 4096) : (MemSt.mk (l.take s.toNat) k a o n h N).is at_ = decide (0 ≤ at_ ∧ at_ < s) := by
  unfold MemSt.is
  have : (l.take s.toNat).length = s.toNat := by rw [List.length_take]; omega
  rw [this]
  congr 1
  apply propext
  omega
theorem mem_word (h1 : 0 ≤ at_) (h2 : at_ < s) : (MemSt.mk (l.take s.toNat) k a o n h N).word at_ = l[at_.toNat]?.getD 0 := by
  unfold MemSt.word
  rw [List.getD, List.getElem?_take, if_pos (by omega)]
theorem mem_in (h1 : l.length = 4096) (h3 : s ≤ 4096) (g1 : 0 ≤ at_) (g2 : at_ < s) :
    (MemSt.mk (l.take s.toNat) k a o n h N).acc kind at_ w held = ⟨(l.set at_.toNat w).take s.toNat, kind, at_, l[at_.toNat]?.getD 0, w, held, IntKind.i64.wrap (N + 1)⟩ := by
  unfold MemSt.acc
  rw [mem_is h1 (by omega) h3, if_pos (by simp; omega), mem_word g1 g2, List.take_set]
theorem mem_out (h1 : l.length = 4096) (h2 : 0 ≤ s) (h3 : s ≤ 4096) (g : at_ < 0 ∨ s ≤ at_) :
    (MemSt.mk (l.take s.toNat) k a o n h N).acc kind at_ w held = ⟨l.take s.toNat, kind, at_, 0, 0, false, IntKind.i64.wrap (N + 1)⟩ := by
  unfold MemSt.acc
  rw [mem_is h1 h2 h3, if_neg (by simp; omega)]
theorem memOk_mk (h1 : l.length = 4096) (h2 : 0 ≤ s) (h3 : s ≤ 4096) : memOk [.l l, .i s, .i k, .i a, .i o, .i n, .b h, .i N] := ⟨_, _, _, _, _, _, _, _, rfl, h1, h2, h3⟩
end
theorem nomore_mem {M : MemSt} : ∀ (t : Nat) (T : ObjT U) (ps : List (EV U)), objs[t]? = some T → t ∉ [0] → ps.length = T.nv → T.ok ps → some (EV.u (U.mem M)) ≠ some (EV.u (T.obj ps)) := by
  exact nomore_kind (by show ∀ t, t < 44 → t ∉ [0] → kinds.getD t 0 ≠ 1; decide)

set_option maxHeartbeats 1000000 in
theorem vLoad (P : Program) : ∀ ins, ins.length = cLoad.nin → cLoad.pre ins → tLoad.sat (cx P []) (ctrR cLoad) ins := by
  rintro ins _ ⟨M, at_, rfl⟩
  simp only [Tree.sat, Bx.den, Ex.den, Bnd.den, gI, gB, gL, gF, gN, gNil, List.map_cons, List.map_nil, List.cons_append, List.nil_append, List.getElem?_cons_zero, List.getElem?_cons_succ, List.getD, Option.getD_some, cmp_eql_t, cmp_eql_f, cmp_neq_t, cmp_neq_f, cmp_lss_t, cmp_lss_f, cmp_leq_t, cmp_leq_f, cmp_gtr_t, cmp_gtr_f, cmp_geq_t, cmp_geq_f, Bool.not_eq_true', Bool.not_eq_false', Bool.and_eq_true, Bool.and_eq_false_iff, binDen, ctrR, Ctr.may, List.take_succ_cons, List.take_zero, Option.some.injEq, EV.u.injEq, tLoad, cx, objs]
  refine ⟨?_, nomore_mem⟩
  rintro ps hl ⟨l, s, k, a, o, n, h, N, rfl, h1, h2, h3⟩ he
  injection he with he; subst he
  simp only [Tree.sat, Bx.den, Ex.den, Bnd.den, gI, gB, gL, gF, gN, gNil, List.map_cons, List.map_nil, List.cons_append, List.nil_append, List.getElem?_cons_zero, List.getElem?_cons_succ, List.getD, Option.getD_some, cmp_eql_t, cmp_eql_f, cmp_neq_t, cmp_neq_f, cmp_lss_t, cmp_lss_f, cmp_leq_t, cmp_leq_f, cmp_gtr_t, cmp_gtr_f, cmp_geq_t, cmp_geq_f, Bool.not_eq_true', Bool.not_eq_false', Bool.and_eq_true, Bool.and_eq_false_iff, binDen, ctrR, Ctr.may, List.take_succ_cons, List.take_zero, Option.some.injEq, EV.u.injEq, memT, memObj, cLoad, List.length_set]
  refine ⟨fun g => ⟨memOk_mk h1 h2 h3, ?_⟩, fun g => ⟨fun g2 => ⟨memOk_mk h1 h2 h3, ?_⟩, fun g2 => ⟨by omega, by omega, by omega, by omega, by omega, by omega, by omega, by omega, memOk_mk (by simpa using h1) h2 h3, ?_⟩⟩⟩
  · rw [MemSt.load, mem_out h1 h2 h3 (.inl g)]
  · rw [MemSt.load, mem_out h1 h2 h3 (.inr g2)]
  · rw [MemSt.load, mem_word (by omega) (by omega), mem_in h1 h3 (by omega) (by omega)]
set_option maxHeartbeats 1000000 in
theorem vStore (P : Program) : ∀ ins, ins.length = cStore.nin → cStore.pre ins → tStore.sat (cx P []) (ctrR cStore) ins := by
  rintro ins _ ⟨M, at_, x, rfl⟩
  simp only [Tree.sat, Bx.den, Ex.den, Bnd.den, gI, gB, gL, gF, gN, gNil, List.map_cons, List.map_nil, List.cons_append, List.nil_append, List.getElem?_cons_zero, List.getElem?_cons_succ, List.getD, Option.getD_some, cmp_eql_t, cmp_eql_f, cmp_neq_t, cmp_neq_f, cmp_lss_t, cmp_lss_f, cmp_leq_t, cmp_leq_f, cmp_gtr_t, cmp_gtr_f, cmp_geq_t, cmp_geq_f, Bool.not_eq_true', Bool.not_eq_false', Bool.and_eq_true, Bool.and_eq_false_iff, binDen, ctrR, Ctr.may, List.take_succ_cons, List.take_zero, Option.some.injEq, EV.u.injEq, tStore, cx, objs]
  refine ⟨?_, nomore_mem⟩
  rintro ps hl ⟨l, s, k, a, o, n, h, N, rfl, h1, h2, h3⟩ he
  injection he with he; subst he
  simp only [Tree.sat, Bx.den, Ex.den, Bnd.den, gI, gB, gL, gF, gN, gNil, List.map_cons, List.map_nil, List.cons_append, List.nil_append, List.getElem?_cons_zero, List.getElem?_cons_succ, List.getD, Option.getD_some, cmp_eql_t, cmp_eql_f, cmp_neq_t, cmp_neq_f, cmp_lss_t, cmp_lss_f, cmp_leq_t, cmp_leq_f, cmp_gtr_t, cmp_gtr_f, cmp_geq_t, cmp_geq_f, Bool.not_eq_true', Bool.not_eq_false', Bool.and_eq_true, Bool.and_eq_false_iff, binDen, ctrR, Ctr.may, List.take_succ_cons, List.take_zero, Option.some.injEq, EV.u.injEq, memT, memObj, cStore, List.length_set]
  refine ⟨fun g => ⟨memOk_mk h1 h2 h3, ?_⟩, fun g => ⟨fun g2 => ⟨memOk_mk h1 h2 h3, ?_⟩, fun g2 => ⟨by omega, by omega, by omega, by omega, by omega, by omega, memOk_mk (by simpa using h1) h2 h3, ?_⟩⟩⟩
  · rw [MemSt.store, mem_out h1 h2 h3 (.inl g)]
  · rw [MemSt.store, mem_out h1 h2 h3 (.inr g2)]
  · rw [MemSt.store, mem_in h1 h3 (by omega) (by omega)]
set_option maxHeartbeats 1000000 in
theorem vCAS (P : Program) : ∀ ins, ins.length = cCAS.nin → cCAS.pre ins → tCAS.sat (cx P []) (ctrR cCAS) ins := by
  rintro ins _ ⟨M, at_, x, y, rfl⟩
  simp only [Tree.sat, Bx.den, Ex.den, Bnd.den, gI, gB, gL, gF, gN, gNil, List.map_cons, List.map_nil, List.cons_append, List.nil_append, List.getElem?_cons_zero, List.getElem?_cons_succ, List.getD, Option.getD_some, cmp_eql_t, cmp_eql_f, cmp_neq_t, cmp_neq_f, cmp_lss_t, cmp_lss_f, cmp_leq_t, cmp_leq_f, cmp_gtr_t, cmp_gtr_f, cmp_geq_t, cmp_geq_f, Bool.not_eq_true', Bool.not_eq_false', Bool.and_eq_true, Bool.and_eq_false_iff, binDen, ctrR, Ctr.may, List.take_succ_cons, List.take_zero, Option.some.injEq, EV.u.injEq, tCAS, cx, objs]
  refine ⟨?_, nomore_mem⟩
  rintro ps hl ⟨l, s, k, a, o, n, h, N, rfl, h1, h2, h3⟩ he
  injection he with he; subst he
  simp only [Tree.sat, Bx.den, Ex.den, Bnd.den, gI, gB, gL, gF, gN, gNil, List.map_cons, List.map_nil, List.cons_append, List.nil_append, List.getElem?_cons_zero, List.getElem?_cons_succ, List.getD, Option.getD_some, cmp_eql_t, cmp_eql_f, cmp_neq_t, cmp_neq_f, cmp_lss_t, cmp_lss_f, cmp_leq_t, cmp_leq_f, cmp_gtr_t, cmp_gtr_f, cmp_geq_t, cmp_geq_f, Bool.not_eq_true', Bool.not_eq_false', Bool.and_eq_true, Bool.and_eq_false_iff, binDen, ctrR, Ctr.may, List.take_succ_cons, List.take_zero, Option.some.injEq, EV.u.injEq, memT, memObj, cCAS, List.length_set]
  have hout : at_ < 0 ∨ s ≤ at_ → (MemSt.mk (l.take s.toNat) k a o n h N).cas at_ x y = ⟨l.take s.toNat, 3, at_, 0, 0, false, IntKind.i64.wrap (N + 1)⟩ := fun g => by
    unfold MemSt.cas
    split <;> exact mem_out h1 h2 h3 g
  refine ⟨fun g => ⟨memOk_mk h1 h2 h3, ?_⟩, fun g => ⟨fun g2 => ⟨memOk_mk h1 h2 h3, ?_⟩, fun g2 => ⟨by omega, by omega, by omega, by omega, fun g3 => ⟨by omega, by omega, by omega, by omega, memOk_mk (by simpa using h1) h2 h3, ?_⟩, fun g3 => ⟨by omega, by omega, by omega, by omega, by omega, by omega, memOk_mk (by simpa using h1) h2 h3, ?_⟩⟩⟩⟩
  · rw [hout (.inl g)]
  · rw [hout (.inr g2)]
  · rw [MemSt.cas, mem_word (by omega) (by omega), if_pos g3, mem_in h1 h3 (by omega) (by omega)]
  · rw [MemSt.cas, mem_word (by omega) (by omega), if_neg g3, mem_in h1 h3 (by omega) (by omega)]
set_option maxHeartbeats 1000000 in
theorem vNew (P : Program) : ∀ ins, ins.length = cNew.nin → cNew.pre ins → tNew.sat (cx P []) (ctrR cNew) ins := by
  rintro ins _ ⟨n, rfl⟩
  unfold tNew
  simp only [Tree.sat, Bx.den, Ex.den, Bnd.den, gI, gB, gL, gF, gN, gNil, List.map_cons, List.map_nil, List.cons_append, List.nil_append, List.getElem?_cons_zero, List.getElem?_cons_succ, List.getD, Option.getD_some, cmp_eql_t, cmp_eql_f, cmp_neq_t, cmp_neq_f, cmp_lss_t, cmp_lss_f, cmp_leq_t, cmp_leq_f, cmp_gtr_t, cmp_gtr_f, cmp_geq_t, cmp_geq_f, Bool.not_eq_true', Bool.not_eq_false', Bool.and_eq_true, Bool.and_eq_false_iff, binDen, ctrR, Ctr.may, List.take_succ_cons, List.take_zero, Option.some.injEq, EV.u.injEq, memT, memNilT, memObj, cNew, cx, objs, List.length_set]
  refine ⟨fun g => ⟨trivial, ?_⟩, fun g => ⟨fun g2 => ⟨trivial, ?_⟩, fun g2 => ⟨memOk_mk (by rw [List.length_replicate]; rfl) (by omega) (by omega), ?_⟩⟩⟩
  · rw [if_neg (by omega)]
  · rw [if_neg (by omega)]
  · rw [if_pos (by omega), MemSt.new]
    have : (List.replicate (Int.toNat 4096) (0 : Int)).take n.toNat = List.replicate n.toNat 0 := by
      rw [List.take_replicate]
      congr 1
      omega
    rw [this]
set_option maxHeartbeats 1000000 in
theorem vLast (P : Program) : ∀ ins, ins.length = cLast.nin → cLast.pre ins → tLast.sat (cx P []) (ctrR cLast) ins := by
  rintro ins _ ⟨M, rfl⟩
  simp only [Tree.sat, Bx.den, Ex.den, Bnd.den, gI, gB, gL, gF, gN, gNil, List.map_cons, List.map_nil, List.cons_append, List.nil_append, List.getElem?_cons_zero, List.getElem?_cons_succ, List.getD, Option.getD_some, cmp_eql_t, cmp_eql_f, cmp_neq_t, cmp_neq_f, cmp_lss_t, cmp_lss_f, cmp_leq_t, cmp_leq_f, cmp_gtr_t, cmp_gtr_f, cmp_geq_t, cmp_geq_f, Bool.not_eq_true', Bool.not_eq_false', Bool.and_eq_true, Bool.and_eq_false_iff, binDen, ctrR, Ctr.may, List.take_succ_cons, List.take_zero, Option.some.injEq, EV.u.injEq, tLast, cx, objs]
  refine ⟨?_, nomore_mem⟩
  rintro ps hl ⟨l, s, k, a, o, n, h, N, rfl, h1, h2, h3⟩ he
  injection he with he; subst he
  simp only [Tree.sat, Bx.den, Ex.den, Bnd.den, gI, gB, gL, gF, gN, gNil, List.map_cons, List.map_nil, List.cons_append, List.nil_append, List.getElem?_cons_zero, List.getElem?_cons_succ, List.getD, Option.getD_some, cmp_eql_t, cmp_eql_f, cmp_neq_t, cmp_neq_f, cmp_lss_t, cmp_lss_f, cmp_leq_t, cmp_leq_f, cmp_gtr_t, cmp_gtr_f, cmp_geq_t, cmp_geq_f, Bool.not_eq_true', Bool.not_eq_false', Bool.and_eq_true, Bool.and_eq_false_iff, binDen, ctrR, Ctr.may, List.take_succ_cons, List.take_zero, Option.some.injEq, EV.u.injEq, memT, memObj, cLast]
  exact ⟨memOk_mk h1 h2 h3, trivial⟩
set_option maxHeartbeats 1000000 in
theorem vCount (P : Program) : ∀ ins, ins.length = cCount.nin → cCount.pre ins → tCount.sat (cx P []) (ctrR cCount) ins := by
  rintro ins _ ⟨M, rfl⟩
  simp only [Tree.sat, Bx.den, Ex.den, Bnd.den, gI, gB, gL, gF, gN, gNil, List.map_cons, List.map_nil, List.cons_append, List.nil_append, List.getElem?_cons_zero, List.getElem?_cons_succ, List.getD, Option.getD_some, cmp_eql_t, cmp_eql_f, cmp_neq_t, cmp_neq_f, cmp_lss_t, cmp_lss_f, cmp_leq_t, cmp_leq_f, cmp_gtr_t, cmp_gtr_f, cmp_geq_t, cmp_geq_f, Bool.not_eq_true', Bool.not_eq_false', Bool.and_eq_true, Bool.and_eq_false_iff, binDen, ctrR, Ctr.may, List.take_succ_cons, List.take_zero, Option.some.injEq, EV.u.injEq, tCount, cx, objs]
  refine ⟨?_, nomore_mem⟩
  rintro ps hl ⟨l, s, k, a, o, n, h, N, rfl, h1, h2, h3⟩ he
  injection he with he; subst he
  simp only [Tree.sat, Bx.den, Ex.den, Bnd.den, gI, gB, gL, gF, gN, gNil, List.map_cons, List.map_nil, List.cons_append, List.nil_append, List.getElem?_cons_zero, List.getElem?_cons_succ, List.getD, Option.getD_some, cmp_eql_t, cmp_eql_f, cmp_neq_t, cmp_neq_f, cmp_lss_t, cmp_lss_f, cmp_leq_t, cmp_leq_f, cmp_gtr_t, cmp_gtr_f, cmp_geq_t, cmp_geq_f, Bool.not_eq_true', Bool.not_eq_false', Bool.and_eq_true, Bool.and_eq_false_iff, binDen, ctrR, Ctr.may, List.take_succ_cons, List.take_zero, Option.some.injEq, EV.u.injEq, memT, memObj, cCount]
  exact ⟨memOk_mk h1 h2 h3, trivial⟩

theorem noCts {p : Ctr U → Prop} : ∀ (ci : Nat) (c : Ctr U), ([] : List (Ctr U))[ci]? = some c → p c := by
  intro ci c h; simp at h
theorem callable (P : Program) {g : FuncId} {fn : Func} (h : P.funcs[g]? = some fn) (hb : fn.body.isSome = true) (hn : (fn.name == "runtime.NumGoroutine") = false) : Callable P g := by
  cases hb' : fn.body with
  | none => simp [hb'] at hb
  | some c => exact ⟨fn, c, h, hb', hn⟩
theorem hLoad : cLoad.Holds objs Tryz.prog := runCtr_holds (X := cx Tryz.prog []) objsOk mixed noCts (callable _ Tryz.func124 (by kernel_rfl) (by kernel_rfl)) (by rintro ins _ ⟨M, at_, rfl⟩; rfl) (by rw [rLoad]; exact vLoad _)
theorem hStore : cStore.Holds objs Tryz.prog := runCtr_holds (X := cx Tryz.prog []) objsOk mixed noCts (callable _ Tryz.func62 (by kernel_rfl) (by kernel_rfl)) (by rintro ins _ ⟨M, at_, x, rfl⟩; rfl) (by rw [rStore]; exact vStore _)
theorem hCAS : cCAS.Holds objs Tryz.prog := runCtr_holds (X := cx Tryz.prog []) objsOk mixed noCts (callable _ Tryz.func150 (by kernel_rfl) (by kernel_rfl)) (by rintro ins _ ⟨M, at_, x, y, rfl⟩; rfl) (by rw [rCAS]; exact vCAS _)
theorem hNew : cNew.Holds objs Tryz.prog := runCtr_holds (X := cx Tryz.prog []) objsOk mixed noCts (callable _ Tryz.func47 (by kernel_rfl) (by kernel_rfl)) (by rintro ins _ ⟨n, rfl⟩; dsimp only [cNew]; split <;> rfl) (by rw [rNew]; exact vNew _)
theorem hLast : cLast.Holds objs Tryz.prog := runCtr_holds (X := cx Tryz.prog []) objsOk mixed noCts (callable _ Tryz.func22 (by kernel_rfl) (by kernel_rfl)) (by rintro ins _ ⟨M, rfl⟩; rfl) (by rw [rLast]; exact vLast _)
theorem hCount : cCount.Holds objs Tryz.prog := runCtr_holds (X := cx Tryz.prog []) objsOk mixed noCts (callable _ Tryz.func24 (by kernel_rfl) (by kernel_rfl)) (by rintro ins _ ⟨M, rfl⟩; rfl) (by rw [rCount]; exact vCount _)
end Go.Proofs.YtdabdbbgaekmdaaGreat
