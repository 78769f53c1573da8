import Derived.Test.YtdabdbbgaekmdaaGreatDaM
import Derived.KernelRfl
/- The ways of the runs, as a program of ours printed them. -/
namespace Go.Proofs.YtdabdbbgaekmdaaGreat
set_option linter.unusedVariables false
set_option linter.unusedSimpArgs false
set_option linter.unusedSectionVars false
open Go
set_option maxRecDepth 100000

def hsNTk : List (Nat × Nat × List Nat) := []
def tNTk : Tree := (.and (.and (.ext (.mk 5 (va [0, 1, 2, 3, 4] [])) (.ret [.var 5])) .ok) .ok)
theorem rNTk : runCtr { (cxDn Tryz.prog) with hints := hsNTk } 20 cNTk [] [(0, [5])] = tNTk := by
  dsimp only [tNTk, va, List.map_cons, List.map_nil, List.cons_append, List.nil_append]
  kernel_rfl

def hsQNTk : List (Nat × Nat × List Nat) := []
def tQNTk : Tree := (.and (.and (.ext (.mk 35 (va [0, 1, 2, 3, 4] ([.ex (.lit 0), .ex (.lit 0), .ex (.lit 0), .ex (.lit 0), .ex (.lit 1), .ex (.lit 0), .ex (.lit 0), .ex (.lit 0)]))) (.ret [.var 5])) .ok) .ok)
theorem rQNTk : runCtr { (cxDn Tryz.prog) with hints := hsQNTk } 20 cQNTk [] [(0, [35])] = tQNTk := by
  dsimp only [tQNTk, va, List.map_cons, List.map_nil, List.cons_append, List.nil_append]
  kernel_rfl

def hsNGv : List (Nat × Nat × List Nat) := []
def tNGv : Tree := (.br (.cmp .lss (.var 5) (.lit 0))
 (.ext (.mk 22 (va [0, 1, 2, 3, 4, 5] ([.ex (.lit 3)]))) (.ret [.var 6]))
 (.br (.cmp .geq (.var 5) (.var 4))
 (.ext (.mk 22 (va [0, 1, 2, 3, 4, 5] ([.ex (.lit 3)]))) (.ret [.var 6]))
 (.ext (.mk 14 (va [0, 1, 2, 3, 4, 5] [])) (.ret [.var 6]))))
theorem rNGv : runCtr { (cxDn Tryz.prog) with hints := hsNGv } 20 cNGv [] [(0, [14,22])] = tNGv := by
  dsimp only [tNGv, va, List.map_cons, List.map_nil, List.cons_append, List.nil_append]
  kernel_rfl

def hsQNGv : List (Nat × Nat × List Nat) := []
def tQNGv : Tree := (.br (.cmp .lss (.var 5) (.lit 0))
 (.ext (.mk 39 [.ex (.lit 3)]) (.ret [.var 6]))
 (.br (.cmp .geq (.var 5) (.var 4))
 (.ext (.mk 39 [.ex (.lit 3)]) (.ret [.var 6]))
 (.ext (.mk 36 (va [0, 1, 2, 3, 4] ([.ex (.lit 1), .ex (.var 5), .ex (.lit 0), .ex (.lit 0)]))) (.ret [.var 6]))))
theorem rQNGv : runCtr { (cxDn Tryz.prog) with hints := hsQNGv } 20 cQNGv [] [(0, [36,39])] = tQNGv := by
  dsimp only [tQNGv, va, List.map_cons, List.map_nil, List.cons_append, List.nil_append]
  kernel_rfl

def hsNTu : List (Nat × Nat × List Nat) := []
def tNTu : Tree := (.br (.cmp .lss (.var 5) (.lit 0))
 (.ext (.mk 27 (va [0, 1, 2, 3, 4, 5] (.ex (.lit 0) :: .ex (.lit 3) :: va [6, 7, 8] []))) (.ret [.var 9]))
 (.br (.cmp .geq (.var 5) (.var 4))
 (.ext (.mk 27 (va [0, 1, 2, 3, 4, 5] (.ex (.lit 0) :: .ex (.lit 3) :: va [6, 7, 8] []))) (.ret [.var 9]))
 (.call 0 [.ex (.var 6), .ex (.var 7)] (.br (.var 9)
 (.br (.cmp .lss (.var 8) (.lit 0))
 (.ext (.mk 27 (va [0, 1, 2, 3, 4, 5] (.ex (.lit 0) :: .ex (.lit 3) :: va [6, 7, 8] []))) (.ret [.var 10]))
 (.br (.cmp .geq (.var 8) (.lit 64))
 (.ext (.mk 27 (va [0, 1, 2, 3, 4, 5] (.ex (.lit 0) :: .ex (.lit 3) :: va [6, 7, 8] []))) (.ret [.var 10]))
 (.ext (.mk 24 (va [0, 1, 2, 3, 4, 5, 6, 7, 8] [])) (.ret [.var 10]))))
 (.ext (.mk 27 (va [0, 1, 2, 3, 4, 5] (.ex (.lit 0) :: .ex (.lit 2) :: va [6, 7, 8] []))) (.ret [.var 10]))))))
theorem rNTu : runCtr { (cxDn Tryz.prog) with hints := hsNTu } 20 cNTu [] [(0, [24,27])] = tNTu := by
  dsimp only [tNTu, va, List.map_cons, List.map_nil, List.cons_append, List.nil_append]
  kernel_rfl

def hsQNTu : List (Nat × Nat × List Nat) := []
def tQNTu : Tree := (.br (.cmp .lss (.var 5) (.lit 0))
 (.ext (.mk 39 [.ex (.lit 3)]) (.ret [.var 9]))
 (.br (.cmp .geq (.var 5) (.var 4))
 (.ext (.mk 39 [.ex (.lit 3)]) (.ret [.var 9]))
 (.call 1 [.ex (.var 6), .ex (.var 7)] (.br (.var 9)
 (.br (.cmp .lss (.var 8) (.lit 0))
 (.ext (.mk 39 [.ex (.lit 3)]) (.ret [.var 10]))
 (.br (.cmp .geq (.var 8) (.lit 64))
 (.ext (.mk 39 [.ex (.lit 3)]) (.ret [.var 10]))
 (.ext (.mk 38 (va [0, 1, 2, 3, 4] (.ex (.lit 1) :: .ex (.var 5) :: .ex (.lit 0) :: va [6, 7, 8] ([.ex (.lit 0)])))) (.ret [.var 10]))))
 (.ext (.mk 39 [.ex (.lit 2)]) (.ret [.var 10]))))))
theorem rQNTu : runCtr { (cxDn Tryz.prog) with hints := hsQNTu } 20 cQNTu [] [(0, [38,39])] = tQNTu := by
  dsimp only [tQNTu, va, List.map_cons, List.map_nil, List.cons_append, List.nil_append]
  kernel_rfl

def hsNKy : List (Nat × Nat × List Nat) := []
def tNKy : Tree := (.br (.cmp .lss (.var 5) (.lit 0))
 (.ext (.mk 30 (va [0, 1, 2, 3, 4, 5, 6] ([.ex (.lit 3)]))) (.ret [.var 7]))
 (.br (.cmp .geq (.var 5) (.var 4))
 (.ext (.mk 30 (va [0, 1, 2, 3, 4, 5, 6] ([.ex (.lit 3)]))) (.ret [.var 7]))
 (.ext (.mk 29 (va [0, 1, 2, 3, 4, 5, 6] [])) (.ret [.var 7]))))
theorem rNKy : runCtr { (cxDn Tryz.prog) with hints := hsNKy } 20 cNKy [] [(0, [29,30])] = tNKy := by
  dsimp only [tNKy, va, List.map_cons, List.map_nil, List.cons_append, List.nil_append]
  kernel_rfl

def hsQNKy : List (Nat × Nat × List Nat) := []
def tQNKy : Tree := (.br (.cmp .lss (.var 5) (.lit 0))
 (.ext (.mk 41 [.ex (.lit 0), .ex (.lit 0), .ex (.lit 9), .ex (.lit 3)]) (.ret [.var 7]))
 (.br (.cmp .geq (.var 5) (.var 4))
 (.ext (.mk 41 [.ex (.lit 0), .ex (.lit 0), .ex (.lit 9), .ex (.lit 3)]) (.ret [.var 7]))
 (.ext (.mk 41 [.ex (.bin .add .i64 (.var 1) (.var 5)), .ex (.var 6), .ex (.lit 1), .ex (.lit 0)]) (.ret [.var 7]))))
theorem rQNKy : runCtr { (cxDn Tryz.prog) with hints := hsQNKy } 20 cQNKy [] [(0, [41])] = tQNKy := by kernel_rfl

def hsNKo : List (Nat × Nat × List Nat) := []
def tNKo : Tree := (.br (.cmp .lss (.var 5) (.lit 0))
 (.ext (.mk 33 (va [0, 1, 2, 3, 4, 5] ([.ex (.lit 0), .ex (.lit 3)]))) (.ret [.var 6]))
 (.br (.cmp .geq (.var 5) (.var 4))
 (.ext (.mk 33 (va [0, 1, 2, 3, 4, 5] ([.ex (.lit 0), .ex (.lit 3)]))) (.ret [.var 6]))
 (.ext (.mk 32 (va [0, 1, 2, 3, 4, 5] [])) (.ret [.var 6]))))
theorem rNKo : runCtr { (cxDn Tryz.prog) with hints := hsNKo } 20 cNKo [] [(0, [32,33])] = tNKo := by
  dsimp only [tNKo, va, List.map_cons, List.map_nil, List.cons_append, List.nil_append]
  kernel_rfl

def hsQNKo : List (Nat × Nat × List Nat) := []
def tQNKo : Tree := (.br (.cmp .lss (.var 5) (.lit 0))
 (.ext (.mk 42 [.ex (.lit 0), .ex (.lit 0), .ex (.lit 9), .ex (.lit 3)]) (.ret [.var 6]))
 (.br (.cmp .geq (.var 5) (.var 4))
 (.ext (.mk 42 [.ex (.lit 0), .ex (.lit 0), .ex (.lit 9), .ex (.lit 3)]) (.ret [.var 6]))
 (.ext (.mk 42 [.ex (.bin .add .i64 (.var 1) (.var 5)), .ex (.lit 0), .ex (.lit 1), .ex (.lit 0)]) (.ret [.var 6]))))
theorem rQNKo : runCtr { (cxDn Tryz.prog) with hints := hsQNKo } 20 cQNKo [] [(0, [42])] = tQNKo := by kernel_rfl

def hsTkIdx : List (Nat × Nat × List Nat) := []
def tTkIdx : Tree := (.and (.opn 0 5 (.ext (.mk 5 (va [1, 2, 3, 4, 5] [])) (.ret [.var 6, .ex (.lit 0), .ex (.lit 14)])))
 (.and (.opn 0 6 (.ext (.mk 6 (va [1, 2, 3, 4, 5, 6, 7, 8] [])) (.ret [.var 9, .ex (.lit 0), .ex (.lit 14)])))
 (.and (.opn 0 7 (.ext (.mk 7 (va [1, 2, 3, 4, 5, 6, 7, 8] [])) (.ret [.var 9, .ex (.lit 0), .ex (.lit 14)])))
 (.and (.opn 0 8 (.ext (.mk 8 (va [1, 2, 3, 4, 5, 6, 7, 8] [])) (.ret [.var 9, .ex (.lit 0), .ex (.lit 14)])))
 (.and (.opn 0 9 (.ext (.mk 9 (va [1, 2, 3, 4, 5, 6, 7, 8, 9, 10] [])) (.ret [.var 11, .ex (.lit 0), .ex (.lit 14)])))
 (.and (.opn 0 10 (.ext (.mk 10 (va [1, 2, 3, 4, 5, 6, 7, 8, 9, 10] [])) (.ret [.var 11, .ex (.lit 0), .ex (.lit 14)])))
 (.and (.opn 0 11 (.br (.cmp .eql (.var 8) (.lit 0))
 (.ext (.mk 11 (va [1, 2, 3, 4, 5, 6, 7, 8, 9, 10, 11] [])) (.ret [.var 12, .ex (.var 6), .ex (.lit 0)]))
 (.ext (.mk 11 (va [1, 2, 3, 4, 5, 6, 7, 8, 9, 10, 11] [])) (.ret [.var 12, .ex (.lit 0), .ex (.var 8)]))))
 (.and (.opn 0 12 (.ext (.mk 12 (va [1, 2, 3, 4, 5, 6, 7, 8, 9, 10] [])) (.ret [.var 11, .ex (.var 6), .ex (.lit 0)])))
 (.nomore 0 [5, 6, 7, 8, 9, 10, 11, 12])))))))))
theorem rTkIdx : runCtr { (cxDi Tryz.prog) with hints := hsTkIdx } 20 cTkIdx [(0, [5,6,7,8,9,10,11,12])] [(0, [5,6,7,8,9,10,11,12])] = tTkIdx := by
  dsimp only [tTkIdx, va, List.map_cons, List.map_nil, List.cons_append, List.nil_append]
  kernel_rfl

def hsGvErr : List (Nat × Nat × List Nat) := []
def tGvErr : Tree := (.and (.opn 0 14 (.ext (.mk 14 (va [1, 2, 3, 4, 5, 6] [])) (.ret [.var 7, .ex (.lit 14)])))
 (.and (.opn 0 15 (.ext (.mk 15 (va [1, 2, 3, 4, 5, 6, 7] [])) (.ret [.var 8, .ex (.lit 14)])))
 (.and (.opn 0 16 (.ext (.mk 16 (va [1, 2, 3, 4, 5, 6, 7] [])) (.ret [.var 8, .ex (.lit 14)])))
 (.and (.opn 0 17 (.ext (.mk 17 (va [1, 2, 3, 4, 5, 6, 7, 8, 9] [])) (.ret [.var 10, .ex (.lit 14)])))
 (.and (.opn 0 18 (.ext (.mk 18 (va [1, 2, 3, 4, 5, 6, 7, 8, 9] [])) (.ret [.var 10, .ex (.lit 14)])))
 (.and (.opn 0 19 (.ext (.mk 19 (va [1, 2, 3, 4, 5, 6, 7, 8, 9] [])) (.ret [.var 10, .ex (.lit 14)])))
 (.and (.opn 0 20 (.ext (.mk 20 (va [1, 2, 3, 4, 5, 6, 7, 8] [])) (.ret [.var 9, .ex (.var 8)])))
 (.and (.opn 0 21 (.ext (.mk 21 (va [1, 2, 3, 4, 5, 6, 7, 8, 9] [])) (.ret [.var 10, .ex (.lit 0)])))
 (.and (.opn 0 22 (.ext (.mk 22 (va [1, 2, 3, 4, 5, 6, 7] [])) (.ret [.var 8, .ex (.var 7)])))
 (.nomore 0 [14, 15, 16, 17, 18, 19, 20, 21, 22]))))))))))
theorem rGvErr : runCtr { (cxDi Tryz.prog) with hints := hsGvErr } 20 cGvErr [(0, [14,15,16,17,18,19,20,21,22])] [(0, [14,15,16,17,18,19,20,21,22])] = tGvErr := by
  dsimp only [tGvErr, va, List.map_cons, List.map_nil, List.cons_append, List.nil_append]
  kernel_rfl

def hsTuErr : List (Nat × Nat × List Nat) := []
def tTuErr : Tree := (.and (.opn 0 24 (.ext (.mk 24 (va [1, 2, 3, 4, 5, 6, 7, 8, 9] [])) (.ret [.var 10, .ex (.lit 14)])))
 (.and (.opn 0 25 (.ext (.mk 25 (va [1, 2, 3, 4, 5, 6, 7, 8, 9, 10] [])) (.ret [.var 11, .ex (.lit 14)])))
 (.and (.opn 0 26 (.ext (.mk 26 (va [1, 2, 3, 4, 5, 6, 7, 8, 9, 10] [])) (.ret [.var 11, .ex (.lit 14)])))
 (.and (.opn 0 27 (.ext (.mk 27 (va [1, 2, 3, 4, 5, 6, 7, 8, 9, 10, 11] [])) (.ret [.var 12, .ex (.var 8)])))
 (.nomore 0 [24, 25, 26, 27])))))
theorem rTuErr : runCtr { (cxDi Tryz.prog) with hints := hsTuErr } 20 cTuErr [(0, [24,25,26,27])] [(0, [24,25,26,27])] = tTuErr := by
  dsimp only [tTuErr, va, List.map_cons, List.map_nil, List.cons_append, List.nil_append]
  kernel_rfl

def hsKyErr : List (Nat × Nat × List Nat) := []
def tKyErr : Tree := (.and (.opn 0 29 (.ext (.mk 29 (va [1, 2, 3, 4, 5, 6, 7] [])) (.ret [.var 8, .ex (.lit 14)])))
 (.and (.opn 0 30 (.ext (.mk 30 (va [1, 2, 3, 4, 5, 6, 7, 8] [])) (.ret [.var 9, .ex (.var 8)])))
 (.nomore 0 [29, 30])))
theorem rKyErr : runCtr { (cxDi Tryz.prog) with hints := hsKyErr } 20 cKyErr [(0, [29,30])] [(0, [29,30])] = tKyErr := by
  dsimp only [tKyErr, va, List.map_cons, List.map_nil, List.cons_append, List.nil_append]
  kernel_rfl

def hsKoWd : List (Nat × Nat × List Nat) := []
def tKoWd : Tree := (.and (.opn 0 32 (.ext (.mk 32 (va [1, 2, 3, 4, 5, 6] [])) (.ret [.var 7, .ex (.lit 0), .ex (.lit 14)])))
 (.and (.opn 0 33 (.br (.cmp .eql (.var 8) (.lit 0))
 (.ext (.mk 33 (va [1, 2, 3, 4, 5, 6, 7, 8] [])) (.ret [.var 9, .ex (.var 7), .ex (.lit 0)]))
 (.ext (.mk 33 (va [1, 2, 3, 4, 5, 6, 7, 8] [])) (.ret [.var 9, .ex (.lit 0), .ex (.var 8)]))))
 (.nomore 0 [32, 33])))
theorem rKoWd : runCtr { (cxDi Tryz.prog) with hints := hsKoWd } 20 cKoWd [(0, [32,33])] [(0, [32,33])] = tKoWd := by
  dsimp only [tKoWd, va, List.map_cons, List.map_nil, List.cons_append, List.nil_append]
  kernel_rfl

def hsQOIdx : List (Nat × Nat × List Nat) := []
def tQOIdx : Tree := (.and (.opn 0 35 (.br (.cmp .eql (.var 6) (.lit 9))
 (.br (.cmp .eql (.var 9) (.lit 0))
 (.ext (.mk 35 (va [1, 2, 3, 4, 5, 6, 7, 8, 9, 10, 11, 12, 13] [])) (.ret [.var 14, .ex (.var 7), .ex (.lit 0)]))
 (.ext (.mk 35 (va [1, 2, 3, 4, 5, 6, 7, 8, 9, 10, 11, 12, 13] [])) (.ret [.var 14, .ex (.lit 0), .ex (.var 9)])))
 (.ext (.mk 35 (va [1, 2, 3, 4, 5, 6, 7, 8, 9, 10, 11, 12, 13] [])) (.ret [.var 14, .ex (.lit 0), .ex (.lit 14)]))))
 (.and (.opn 0 36 (.br (.cmp .eql (.var 6) (.lit 9))
 (.br (.cmp .eql (.var 9) (.lit 0))
 (.ext (.mk 36 (va [1, 2, 3, 4, 5, 6, 7, 8, 9] [])) (.ret [.var 10, .ex (.var 7), .ex (.lit 0)]))
 (.ext (.mk 36 (va [1, 2, 3, 4, 5, 6, 7, 8, 9] [])) (.ret [.var 10, .ex (.lit 0), .ex (.var 9)])))
 (.ext (.mk 36 (va [1, 2, 3, 4, 5, 6, 7, 8, 9] [])) (.ret [.var 10, .ex (.lit 0), .ex (.lit 14)]))))
 (.and (.opn 0 37 (.br (.cmp .eql (.var 6) (.lit 9))
 (.br (.cmp .eql (.var 9) (.lit 0))
 (.ext (.mk 37 (va [1, 2, 3, 4, 5, 6, 7, 8, 9, 10, 11] [])) (.ret [.var 12, .ex (.var 7), .ex (.lit 0)]))
 (.ext (.mk 37 (va [1, 2, 3, 4, 5, 6, 7, 8, 9, 10, 11] [])) (.ret [.var 12, .ex (.lit 0), .ex (.var 9)])))
 (.ext (.mk 37 (va [1, 2, 3, 4, 5, 6, 7, 8, 9, 10, 11] [])) (.ret [.var 12, .ex (.lit 0), .ex (.lit 14)]))))
 (.and (.opn 0 38 (.br (.cmp .eql (.var 6) (.lit 9))
 (.br (.cmp .eql (.var 12) (.lit 0))
 (.ext (.mk 38 (va [1, 2, 3, 4, 5, 6, 7, 8, 9, 10, 11, 12] [])) (.ret [.var 13, .ex (.var 7), .ex (.lit 0)]))
 (.ext (.mk 38 (va [1, 2, 3, 4, 5, 6, 7, 8, 9, 10, 11, 12] [])) (.ret [.var 13, .ex (.lit 0), .ex (.var 12)])))
 (.ext (.mk 38 (va [1, 2, 3, 4, 5, 6, 7, 8, 9, 10, 11, 12] [])) (.ret [.var 13, .ex (.lit 0), .ex (.lit 14)]))))
 (.and (.opn 0 39 (.br (.cmp .eql (.var 1) (.lit 0))
 (.ext (.mk 39 [.ex (.var 1)]) (.ret [.var 2, .ex (.lit 0), .ex (.lit 0)]))
 (.ext (.mk 39 [.ex (.var 1)]) (.ret [.var 2, .ex (.lit 0), .ex (.var 1)]))))
 (.nomore 0 [35, 36, 37, 38, 39]))))))
theorem rQOIdx : runCtr { (cxDi Tryz.prog) with hints := hsQOIdx } 20 cQOIdx [(0, [35,36,37,38,39])] [(0, [35,36,37,38,39])] = tQOIdx := by
  dsimp only [tQOIdx, va, List.map_cons, List.map_nil, List.cons_append, List.nil_append]
  kernel_rfl

def hsQOErr : List (Nat × Nat × List Nat) := []
def tQOErr : Tree := (.and (.opn 0 35 (.br (.cmp .eql (.var 6) (.lit 9))
 (.ext (.mk 35 (va [1, 2, 3, 4, 5, 6, 7, 8, 9, 10, 11, 12, 13] [])) (.ret [.var 14, .ex (.var 9)]))
 (.ext (.mk 35 (va [1, 2, 3, 4, 5, 6, 7, 8, 9, 10, 11, 12, 13] [])) (.ret [.var 14, .ex (.lit 14)]))))
 (.and (.opn 0 36 (.br (.cmp .eql (.var 6) (.lit 9))
 (.ext (.mk 36 (va [1, 2, 3, 4, 5, 6, 7, 8, 9] [])) (.ret [.var 10, .ex (.var 9)]))
 (.ext (.mk 36 (va [1, 2, 3, 4, 5, 6, 7, 8, 9] [])) (.ret [.var 10, .ex (.lit 14)]))))
 (.and (.opn 0 37 (.br (.cmp .eql (.var 6) (.lit 9))
 (.ext (.mk 37 (va [1, 2, 3, 4, 5, 6, 7, 8, 9, 10, 11] [])) (.ret [.var 12, .ex (.var 9)]))
 (.ext (.mk 37 (va [1, 2, 3, 4, 5, 6, 7, 8, 9, 10, 11] [])) (.ret [.var 12, .ex (.lit 14)]))))
 (.and (.opn 0 38 (.br (.cmp .eql (.var 6) (.lit 9))
 (.ext (.mk 38 (va [1, 2, 3, 4, 5, 6, 7, 8, 9, 10, 11, 12] [])) (.ret [.var 13, .ex (.var 12)]))
 (.ext (.mk 38 (va [1, 2, 3, 4, 5, 6, 7, 8, 9, 10, 11, 12] [])) (.ret [.var 13, .ex (.lit 14)]))))
 (.and (.opn 0 39 (.ext (.mk 39 [.ex (.var 1)]) (.ret [.var 2, .ex (.var 1)])))
 (.nomore 0 [35, 36, 37, 38, 39]))))))
theorem rQOErr : runCtr { (cxDi Tryz.prog) with hints := hsQOErr } 20 cQOErr [(0, [35,36,37,38,39])] [(0, [35,36,37,38,39])] = tQOErr := by
  dsimp only [tQOErr, va, List.map_cons, List.map_nil, List.cons_append, List.nil_append]
  kernel_rfl

def hsQKErr : List (Nat × Nat × List Nat) := []
def tQKErr : Tree := (.and (.opn 0 41 (.br (.cmp .eql (.var 3) (.lit 9))
 (.ext (.mk 41 [.ex (.var 1), .ex (.var 2), .ex (.var 3), .ex (.var 4)]) (.ret [.var 5, .ex (.var 4)]))
 (.ext (.mk 41 [.ex (.var 1), .ex (.var 2), .ex (.var 3), .ex (.var 4)]) (.ret [.var 5, .ex (.lit 14)]))))
 (.and (.opn 0 42 (.br (.cmp .eql (.var 3) (.lit 9))
 (.ext (.mk 42 [.ex (.var 1), .ex (.var 2), .ex (.var 3), .ex (.var 4)]) (.ret [.var 5, .ex (.var 4)]))
 (.ext (.mk 42 [.ex (.var 1), .ex (.var 2), .ex (.var 3), .ex (.var 4)]) (.ret [.var 5, .ex (.lit 14)]))))
 (.nomore 0 [41, 42])))
theorem rQKErr : runCtr { (cxDi Tryz.prog) with hints := hsQKErr } 20 cQKErr [(0, [41,42])] [(0, [41,42])] = tQKErr := by kernel_rfl

def hsQKWd : List (Nat × Nat × List Nat) := []
def tQKWd : Tree := (.and (.opn 0 41 (.br (.cmp .eql (.var 3) (.lit 9))
 (.br (.cmp .eql (.var 4) (.lit 0))
 (.ext (.mk 41 [.ex (.var 1), .ex (.var 2), .ex (.var 3), .ex (.var 4)]) (.ret [.var 5, .ex (.var 2), .ex (.lit 0)]))
 (.ext (.mk 41 [.ex (.var 1), .ex (.var 2), .ex (.var 3), .ex (.var 4)]) (.ret [.var 5, .ex (.lit 0), .ex (.var 4)])))
 (.ext (.mk 41 [.ex (.var 1), .ex (.var 2), .ex (.var 3), .ex (.var 4)]) (.ret [.var 5, .ex (.lit 0), .ex (.lit 14)]))))
 (.and (.opn 0 42 (.br (.cmp .eql (.var 3) (.lit 9))
 (.br (.cmp .eql (.var 4) (.lit 0))
 (.ext (.mk 42 [.ex (.var 1), .ex (.var 2), .ex (.var 3), .ex (.var 4)]) (.ret [.var 5, .ex (.var 2), .ex (.lit 0)]))
 (.ext (.mk 42 [.ex (.var 1), .ex (.var 2), .ex (.var 3), .ex (.var 4)]) (.ret [.var 5, .ex (.lit 0), .ex (.var 4)])))
 (.ext (.mk 42 [.ex (.var 1), .ex (.var 2), .ex (.var 3), .ex (.var 4)]) (.ret [.var 5, .ex (.lit 0), .ex (.lit 14)]))))
 (.nomore 0 [41, 42])))
theorem rQKWd : runCtr { (cxDi Tryz.prog) with hints := hsQKWd } 20 cQKWd [(0, [41,42])] [(0, [41,42])] = tQKWd := by kernel_rfl

end Go.Proofs.YtdabdbbgaekmdaaGreat
/- Operations of jobs: made, told (printed by gen_db.py). -/
namespace Go.Proofs.YtdabdbbgaekmdaaGreat
set_option linter.unusedVariables false
set_option linter.unusedSimpArgs false
set_option linter.unusedSectionVars false
open Go Go.RowKit

theorem nomore_take {O : OpSt} : ∀ (t : Nat) (T : ObjT U) (ps : List (EV U)), objs[t]? = some T → t ∉ [5, 6, 7, 8, 9, 10, 11, 12] → ps.length = T.nv → T.ok ps → some (EV.u (U.take O)) ≠ some (EV.u (T.obj ps)) :=
  nomore_kind (by show ∀ t, t < 44 → t ∉ [5, 6, 7, 8, 9, 10, 11, 12] → kinds.getD t 0 ≠ 6; decide)
theorem nomore_give {O : OpSt} : ∀ (t : Nat) (T : ObjT U) (ps : List (EV U)), objs[t]? = some T → t ∉ [14, 15, 16, 17, 18, 19, 20, 21, 22] → ps.length = T.nv → T.ok ps → some (EV.u (U.give O)) ≠ some (EV.u (T.obj ps)) :=
  nomore_kind (by show ∀ t, t < 44 → t ∉ [14, 15, 16, 17, 18, 19, 20, 21, 22] → kinds.getD t 0 ≠ 8; decide)
theorem nomore_turn {O : OpSt} : ∀ (t : Nat) (T : ObjT U) (ps : List (EV U)), objs[t]? = some T → t ∉ [24, 25, 26, 27] → ps.length = T.nv → T.ok ps → some (EV.u (U.turn O)) ≠ some (EV.u (T.obj ps)) :=
  nomore_kind (by show ∀ t, t < 44 → t ∉ [24, 25, 26, 27] → kinds.getD t 0 ≠ 10; decide)
theorem nomore_key {O : KeySt} : ∀ (t : Nat) (T : ObjT U) (ps : List (EV U)), objs[t]? = some T → t ∉ [29, 30] → ps.length = T.nv → T.ok ps → some (EV.u (U.key O)) ≠ some (EV.u (T.obj ps)) :=
  nomore_kind (by show ∀ t, t < 44 → t ∉ [29, 30] → kinds.getD t 0 ≠ 12; decide)
theorem nomore_keyOf {O : KeySt} : ∀ (t : Nat) (T : ObjT U) (ps : List (EV U)), objs[t]? = some T → t ∉ [32, 33] → ps.length = T.nv → T.ok ps → some (EV.u (U.keyOf O)) ≠ some (EV.u (T.obj ps)) :=
  nomore_kind (by show ∀ t, t < 44 → t ∉ [32, 33] → kinds.getD t 0 ≠ 14; decide)
theorem nomore_rop {O : OpSt} : ∀ (t : Nat) (T : ObjT U) (ps : List (EV U)), objs[t]? = some T → t ∉ [35, 36, 37, 38, 39] → ps.length = T.nv → T.ok ps → some (EV.u (U.rop O)) ≠ some (EV.u (T.obj ps)) :=
  nomore_kind (by show ∀ t, t < 44 → t ∉ [35, 36, 37, 38, 39] → kinds.getD t 0 ≠ 16; decide)
theorem nomore_rkey {ld : Bool} {O : KeySt} : ∀ (t : Nat) (T : ObjT U) (ps : List (EV U)), objs[t]? = some T → t ∉ [41, 42] → ps.length = T.nv → T.ok ps → some (EV.u (U.rkey ld O)) ≠ some (EV.u (T.obj ps)) :=
  nomore_kind (by show ∀ t, t < 44 → t ∉ [41, 42] → kinds.getD t 0 ≠ 18; decide)
section
variable {k : Tree} {env : List (EV U)} {X : Cx U} {R : List (EV U) → List (EV U) → Prop}
theorem st_opn {i t : Nat} {T : ObjT U} (hT : X.objs[t]? = some T) (hk : ∀ ps, ps.length = T.nv → T.ok ps → env[i]? = some (.u (T.obj ps)) → k.sat X R (env ++ ps)) : (Tree.opn i t k).sat X R env := by
  simp only [Tree.sat, hT]
  exact hk
end
theorem isWd0 : isWd 0 := ⟨by decide, by decide⟩
theorem idxW_lo' (s w : Int) : -1 ≤ idxW s w ∧ idxW s w ≤ 65534 := by
  unfold idxW; split <;> omega
theorem idxW_hi {s : Int} (h : 1 ≤ s) (w : Int) : idxW s w < s := by
  unfold idxW; split <;> omega
theorem out_jmay (a b : Int) : cJMay.out [.i a, .i b] = [.b (mayB a b)] := rfl
theorem out_qmay (a b : Int) : cQMay.out [.i a, .i b] = [.b (mayB a b)] := rfl
theorem ng_no {l : List Int} {s i : Int} (h : i < 0 ∨ s ≤ i) : OpSt.newGive l s i = OpSt.ended 0 3 := if_pos h
theorem ng_ok {l : List Int} {s i : Int} (h : ¬ (i < 0 ∨ s ≤ i)) : OpSt.newGive l s i = ⟨2, l, 1, i, 0, 0, 0, 0, 0, 0, 0, 0⟩ := if_neg h
theorem nk_no {ks s i w : Int} (h : i < 0 ∨ s ≤ i) : KeySt.new ks s i w = ⟨0, 0, 9, 3⟩ := if_pos h
theorem nk_ok {ks s i w : Int} (h : ¬ (i < 0 ∨ s ≤ i)) : KeySt.new ks s i w = ⟨IntKind.i64.wrap (ks + i), w, 1, 0⟩ := if_neg h
theorem nt_no {l : List Int} {s i fr to co : Int} (h : i < 0 ∨ s ≤ i) : OpSt.newTurn l s i fr to co = OpSt.ended 0 3 := if_pos h
theorem nt_arg {l : List Int} {s i fr to co : Int} (h : ¬ (i < 0 ∨ s ≤ i)) (h1 : mayB fr to = false) : OpSt.newTurn l s i fr to co = OpSt.ended 0 2 := by unfold OpSt.newTurn; rw [if_neg h, if_pos h1]
theorem nt_core {l : List Int} {s i fr to co : Int} (h : ¬ (i < 0 ∨ s ≤ i)) (h1 : mayB fr to = true) (h2 : co < 0 ∨ 64 ≤ co) : OpSt.newTurn l s i fr to co = OpSt.ended 0 3 := by unfold OpSt.newTurn; rw [if_neg h, if_neg (by rw [h1]; decide), if_pos h2]
theorem nt_ok {l : List Int} {s i fr to co : Int} (h : ¬ (i < 0 ∨ s ≤ i)) (h1 : mayB fr to = true) (h2 : ¬ (co < 0 ∨ 64 ≤ co)) : OpSt.newTurn l s i fr to co = ⟨3, l, 1, i, 0, 0, 0, 0, fr, to, co, 0⟩ := by unfold OpSt.newTurn; rw [if_neg h, if_neg (by rw [h1]; decide), if_neg h2]
set_option maxRecDepth 10000
theorem hctsDn : ∀ (ci : Nat) (c : Ctr U), ctsDn[ci]? = some c → c.Holds objs Tryz.prog := by
  intro ci c h
  match ci, h with
  | 0, h => cases h; exact hJMay
  | 1, h => cases h; exact hQMay
  | n + 2, h => cases h
set_option maxHeartbeats 4000000 in
theorem vNTk (P : Program) (hs : List (Nat × Nat × List Nat)) : ∀ ins, ins.length = cNTk.nin → cNTk.pre ins → tNTk.sat { cxDn P with hints := hs } (ctrR cNTk) ins := by
  rintro ins _ ⟨st, ks, t, ls, s, rfl, ⟨g1, g2⟩⟩
  unfold tNTk
  repeat' (first
    | (first
      | (with_reducible refine st_need ?_ ?_
         focus (simp only [dn, reduceCtorEq, va_map] <;> first | omega | assumption))
      | (with_reducible refine st_and ?_ ?_)
      | (with_reducible exact st_ok)
      | (with_reducible refine st_br (fun hc => ?_) (fun hc => ?_) <;> (simp only [dn, reduceCtorEq, va_map] at hc) <;> (try (exfalso; first | contradiction | omega)))
      | (refine st_call (by rfl) (by simp only [dn, reduceCtorEq, va_map] <;> rfl) ?_ (by simp only [out_jmay, out_qmay] <;> rfl) (by simp only [dn] <;> rfl) ?_
         focus (first | exact ⟨_, _, rfl⟩)))
    | (refine st_mk (by rfl) (by simp only [dn, reduceCtorEq, va_map] <;> rfl) ?_ (by simp only [dn] <;> rfl) ?_
       focus
         (first | refine ⟨_, _, _, _, _, rfl, ?_⟩); (repeat' with_reducible apply And.intro) <;> first | rfl | assumption | exact isWd0 | omega | exact (idxW_lo' _ _).1 | exact (idxW_lo' _ _).2 | exact idxW_hi (by omega) _ | trivial | ((with_reducible refine .inl ?_); ((repeat' with_reducible apply And.intro) <;> first | rfl | assumption | exact isWd0 | omega | exact (idxW_lo' _ _).1 | exact (idxW_lo' _ _).2 | exact idxW_hi (by omega) _ | trivial | exact .inl rfl | exact .inr (.inl ⟨rfl, rfl, by omega⟩) | exact .inr (.inr ⟨rfl, rfl, by omega, (idxW_lo' _ _).1, (idxW_lo' _ _).2⟩) | exact .inr (.inr ⟨rfl, rfl, by omega, by omega, by omega⟩) | exact .inr (.inl rfl) | exact .inr (.inr rfl)); done) | ((with_reducible refine .inr (.inl ?_)); ((repeat' with_reducible apply And.intro) <;> first | rfl | assumption | exact isWd0 | omega | exact (idxW_lo' _ _).1 | exact (idxW_lo' _ _).2 | exact idxW_hi (by omega) _ | trivial | exact .inl rfl | exact .inr (.inl ⟨rfl, rfl, by omega⟩) | exact .inr (.inr ⟨rfl, rfl, by omega, (idxW_lo' _ _).1, (idxW_lo' _ _).2⟩) | exact .inr (.inr ⟨rfl, rfl, by omega, by omega, by omega⟩) | exact .inr (.inl rfl) | exact .inr (.inr rfl)); done) | ((with_reducible refine .inr (.inr (.inl ?_))); ((repeat' with_reducible apply And.intro) <;> first | rfl | assumption | exact isWd0 | omega | exact (idxW_lo' _ _).1 | exact (idxW_lo' _ _).2 | exact idxW_hi (by omega) _ | trivial | exact .inl rfl | exact .inr (.inl ⟨rfl, rfl, by omega⟩) | exact .inr (.inr ⟨rfl, rfl, by omega, (idxW_lo' _ _).1, (idxW_lo' _ _).2⟩) | exact .inr (.inr ⟨rfl, rfl, by omega, by omega, by omega⟩) | exact .inr (.inl rfl) | exact .inr (.inr rfl)); done) | ((with_reducible refine .inr (.inr (.inr ?_))); ((repeat' with_reducible apply And.intro) <;> first | rfl | assumption | exact isWd0 | omega | exact (idxW_lo' _ _).1 | exact (idxW_lo' _ _).2 | exact idxW_hi (by omega) _ | trivial | exact .inl rfl | exact .inr (.inl ⟨rfl, rfl, by omega⟩) | exact .inr (.inr ⟨rfl, rfl, by omega, (idxW_lo' _ _).1, (idxW_lo' _ _).2⟩) | exact .inr (.inr ⟨rfl, rfl, by omega, by omega, by omega⟩) | exact .inr (.inl rfl) | exact .inr (.inr rfl)); done) | ((with_reducible refine .inr (.inr ?_)); ((repeat' with_reducible apply And.intro) <;> first | rfl | assumption | exact isWd0 | omega | exact (idxW_lo' _ _).1 | exact (idxW_lo' _ _).2 | exact idxW_hi (by omega) _ | trivial | exact .inl rfl | exact .inr (.inl ⟨rfl, rfl, by omega⟩) | exact .inr (.inr ⟨rfl, rfl, by omega, (idxW_lo' _ _).1, (idxW_lo' _ _).2⟩) | exact .inr (.inr ⟨rfl, rfl, by omega, by omega, by omega⟩) | exact .inr (.inl rfl) | exact .inr (.inr rfl)); done) | ((with_reducible refine .inr ?_); ((repeat' with_reducible apply And.intro) <;> first | rfl | assumption | exact isWd0 | omega | exact (idxW_lo' _ _).1 | exact (idxW_lo' _ _).2 | exact idxW_hi (by omega) _ | trivial | exact .inl rfl | exact .inr (.inl ⟨rfl, rfl, by omega⟩) | exact .inr (.inr ⟨rfl, rfl, by omega, (idxW_lo' _ _).1, (idxW_lo' _ _).2⟩) | exact .inr (.inr ⟨rfl, rfl, by omega, by omega, by omega⟩) | exact .inr (.inl rfl) | exact .inr (.inr rfl)); done))
    | (refine st_ret (by simp only [dn, reduceCtorEq, va_map] <;> rfl) ?_
       show [EV.u _] = [EV.u (U.take (OpSt.newTake _))]
       first
         | rfl
         | (rw [ng_no (by omega)]; done)
         | (rw [ng_ok (by omega)]; done)
         | (rw [nk_no (by omega)]; done)
         | (rw [nk_ok (by omega)]; done)
         | (rw [nt_no (by omega)]; done)
         | (rw [nt_arg (by omega) (by assumption)]; done)
         | (rw [nt_core (by omega) (by assumption) (by omega)]; done)
         | (rw [nt_ok (by omega) (by assumption) (by omega)]; done)
         | (rw [ng_no (by omega)]; rfl)
         | (rw [nt_no (by omega)]; rfl)
         | (rw [nt_arg (by omega) (by assumption)]; rfl)
         | (rw [nt_core (by omega) (by assumption) (by omega)]; rfl)
         | (rw [ng_ok (by omega)]; rfl)
         | (rw [nk_no (by omega)]; rfl)
         | (rw [nk_ok (by omega)]; rfl)
         | (rw [nt_ok (by omega) (by assumption) (by omega)]; rfl))
    | fail "no step")
theorem hNTk : cNTk.Holds objs Tryz.prog := runCtr_holds (X := { cxDn Tryz.prog with hints := hsNTk }) objsOk mixed hctsDn (callable _ Tryz.func49 (by kernel_rfl) (by kernel_rfl)) (by rintro ins _ ⟨_, _, _, _, _, rfl, _⟩; rfl) (by rw [rNTk]; exact vNTk _ _)
set_option maxHeartbeats 4000000 in
theorem vQNTk (P : Program) (hs : List (Nat × Nat × List Nat)) : ∀ ins, ins.length = cQNTk.nin → cQNTk.pre ins → tQNTk.sat { cxDn P with hints := hs } (ctrR cQNTk) ins := by
  rintro ins _ ⟨st, ks, t, ls, s, rfl, ⟨g1, g2⟩⟩
  unfold tQNTk
  repeat' (first
    | (first
      | (with_reducible refine st_need ?_ ?_
         focus (simp only [dn, reduceCtorEq, va_map] <;> first | omega | assumption))
      | (with_reducible refine st_and ?_ ?_)
      | (with_reducible exact st_ok)
      | (with_reducible refine st_br (fun hc => ?_) (fun hc => ?_) <;> (simp only [dn, reduceCtorEq, va_map] at hc) <;> (try (exfalso; first | contradiction | omega)))
      | (refine st_call (by rfl) (by simp only [dn, reduceCtorEq, va_map] <;> rfl) ?_ (by simp only [out_jmay, out_qmay] <;> rfl) (by simp only [dn] <;> rfl) ?_
         focus (first | exact ⟨_, _, rfl⟩)))
    | (refine st_mk (by rfl) (by simp only [dn, reduceCtorEq, va_map] <;> rfl) ?_ (by simp only [dn] <;> rfl) ?_
       focus
         (first | refine ⟨_, _, _, _, _, _, _, _, _, _, _, _, _, rfl, ?_⟩); (repeat' with_reducible apply And.intro) <;> first | rfl | assumption | exact isWd0 | omega | exact (idxW_lo' _ _).1 | exact (idxW_lo' _ _).2 | exact idxW_hi (by omega) _ | trivial | ((with_reducible refine .inl ?_); ((repeat' with_reducible apply And.intro) <;> first | rfl | assumption | exact isWd0 | omega | exact (idxW_lo' _ _).1 | exact (idxW_lo' _ _).2 | exact idxW_hi (by omega) _ | trivial | exact .inl rfl | exact .inr (.inl ⟨rfl, rfl, by omega⟩) | exact .inr (.inr ⟨rfl, rfl, by omega, (idxW_lo' _ _).1, (idxW_lo' _ _).2⟩) | exact .inr (.inr ⟨rfl, rfl, by omega, by omega, by omega⟩) | exact .inr (.inl rfl) | exact .inr (.inr rfl)); done) | ((with_reducible refine .inr (.inl ?_)); ((repeat' with_reducible apply And.intro) <;> first | rfl | assumption | exact isWd0 | omega | exact (idxW_lo' _ _).1 | exact (idxW_lo' _ _).2 | exact idxW_hi (by omega) _ | trivial | exact .inl rfl | exact .inr (.inl ⟨rfl, rfl, by omega⟩) | exact .inr (.inr ⟨rfl, rfl, by omega, (idxW_lo' _ _).1, (idxW_lo' _ _).2⟩) | exact .inr (.inr ⟨rfl, rfl, by omega, by omega, by omega⟩) | exact .inr (.inl rfl) | exact .inr (.inr rfl)); done) | ((with_reducible refine .inr (.inr (.inl ?_))); ((repeat' with_reducible apply And.intro) <;> first | rfl | assumption | exact isWd0 | omega | exact (idxW_lo' _ _).1 | exact (idxW_lo' _ _).2 | exact idxW_hi (by omega) _ | trivial | exact .inl rfl | exact .inr (.inl ⟨rfl, rfl, by omega⟩) | exact .inr (.inr ⟨rfl, rfl, by omega, (idxW_lo' _ _).1, (idxW_lo' _ _).2⟩) | exact .inr (.inr ⟨rfl, rfl, by omega, by omega, by omega⟩) | exact .inr (.inl rfl) | exact .inr (.inr rfl)); done) | ((with_reducible refine .inr (.inr (.inr ?_))); ((repeat' with_reducible apply And.intro) <;> first | rfl | assumption | exact isWd0 | omega | exact (idxW_lo' _ _).1 | exact (idxW_lo' _ _).2 | exact idxW_hi (by omega) _ | trivial | exact .inl rfl | exact .inr (.inl ⟨rfl, rfl, by omega⟩) | exact .inr (.inr ⟨rfl, rfl, by omega, (idxW_lo' _ _).1, (idxW_lo' _ _).2⟩) | exact .inr (.inr ⟨rfl, rfl, by omega, by omega, by omega⟩) | exact .inr (.inl rfl) | exact .inr (.inr rfl)); done) | ((with_reducible refine .inr (.inr ?_)); ((repeat' with_reducible apply And.intro) <;> first | rfl | assumption | exact isWd0 | omega | exact (idxW_lo' _ _).1 | exact (idxW_lo' _ _).2 | exact idxW_hi (by omega) _ | trivial | exact .inl rfl | exact .inr (.inl ⟨rfl, rfl, by omega⟩) | exact .inr (.inr ⟨rfl, rfl, by omega, (idxW_lo' _ _).1, (idxW_lo' _ _).2⟩) | exact .inr (.inr ⟨rfl, rfl, by omega, by omega, by omega⟩) | exact .inr (.inl rfl) | exact .inr (.inr rfl)); done) | ((with_reducible refine .inr ?_); ((repeat' with_reducible apply And.intro) <;> first | rfl | assumption | exact isWd0 | omega | exact (idxW_lo' _ _).1 | exact (idxW_lo' _ _).2 | exact idxW_hi (by omega) _ | trivial | exact .inl rfl | exact .inr (.inl ⟨rfl, rfl, by omega⟩) | exact .inr (.inr ⟨rfl, rfl, by omega, (idxW_lo' _ _).1, (idxW_lo' _ _).2⟩) | exact .inr (.inr ⟨rfl, rfl, by omega, by omega, by omega⟩) | exact .inr (.inl rfl) | exact .inr (.inr rfl)); done))
    | (refine st_ret (by simp only [dn, reduceCtorEq, va_map] <;> rfl) ?_
       show [EV.u _] = [EV.u (U.rop (OpSt.newTake _))]
       first
         | rfl
         | (rw [ng_no (by omega)]; done)
         | (rw [ng_ok (by omega)]; done)
         | (rw [nk_no (by omega)]; done)
         | (rw [nk_ok (by omega)]; done)
         | (rw [nt_no (by omega)]; done)
         | (rw [nt_arg (by omega) (by assumption)]; done)
         | (rw [nt_core (by omega) (by assumption) (by omega)]; done)
         | (rw [nt_ok (by omega) (by assumption) (by omega)]; done)
         | (rw [ng_no (by omega)]; rfl)
         | (rw [nt_no (by omega)]; rfl)
         | (rw [nt_arg (by omega) (by assumption)]; rfl)
         | (rw [nt_core (by omega) (by assumption) (by omega)]; rfl)
         | (rw [ng_ok (by omega)]; rfl)
         | (rw [nk_no (by omega)]; rfl)
         | (rw [nk_ok (by omega)]; rfl)
         | (rw [nt_ok (by omega) (by assumption) (by omega)]; rfl))
    | fail "no step")
theorem hQNTk : cQNTk.Holds objs Tryz.prog := runCtr_holds (X := { cxDn Tryz.prog with hints := hsQNTk }) objsOk mixed hctsDn (callable _ Tryz.func64 (by kernel_rfl) (by kernel_rfl)) (by rintro ins _ ⟨_, _, _, _, _, rfl, _⟩; rfl) (by rw [rQNTk]; exact vQNTk _ _)
set_option maxHeartbeats 4000000 in
theorem vNGv (P : Program) (hs : List (Nat × Nat × List Nat)) : ∀ ins, ins.length = cNGv.nin → cNGv.pre ins → tNGv.sat { cxDn P with hints := hs } (ctrR cNGv) ins := by
  rintro ins _ ⟨st, ks, t, ls, s, i, rfl, ⟨g1, g2⟩⟩
  unfold tNGv
  repeat' (first
    | (first
      | (with_reducible refine st_need ?_ ?_
         focus (simp only [dn, reduceCtorEq, va_map] <;> first | omega | assumption))
      | (with_reducible refine st_and ?_ ?_)
      | (with_reducible exact st_ok)
      | (with_reducible refine st_br (fun hc => ?_) (fun hc => ?_) <;> (simp only [dn, reduceCtorEq, va_map] at hc) <;> (try (exfalso; first | contradiction | omega)))
      | (refine st_call (by rfl) (by simp only [dn, reduceCtorEq, va_map] <;> rfl) ?_ (by simp only [out_jmay, out_qmay] <;> rfl) (by simp only [dn] <;> rfl) ?_
         focus (first | exact ⟨_, _, rfl⟩)))
    | (refine st_mk (by rfl) (by simp only [dn, reduceCtorEq, va_map] <;> rfl) ?_ (by simp only [dn] <;> rfl) ?_
       focus
         (first | refine ⟨_, _, _, _, _, _, rfl, ?_⟩ | refine ⟨_, _, _, _, _, _, _, rfl, ?_⟩); (repeat' with_reducible apply And.intro) <;> first | rfl | assumption | exact isWd0 | omega | exact (idxW_lo' _ _).1 | exact (idxW_lo' _ _).2 | exact idxW_hi (by omega) _ | trivial | ((with_reducible refine .inl ?_); ((repeat' with_reducible apply And.intro) <;> first | rfl | assumption | exact isWd0 | omega | exact (idxW_lo' _ _).1 | exact (idxW_lo' _ _).2 | exact idxW_hi (by omega) _ | trivial | exact .inl rfl | exact .inr (.inl ⟨rfl, rfl, by omega⟩) | exact .inr (.inr ⟨rfl, rfl, by omega, (idxW_lo' _ _).1, (idxW_lo' _ _).2⟩) | exact .inr (.inr ⟨rfl, rfl, by omega, by omega, by omega⟩) | exact .inr (.inl rfl) | exact .inr (.inr rfl)); done) | ((with_reducible refine .inr (.inl ?_)); ((repeat' with_reducible apply And.intro) <;> first | rfl | assumption | exact isWd0 | omega | exact (idxW_lo' _ _).1 | exact (idxW_lo' _ _).2 | exact idxW_hi (by omega) _ | trivial | exact .inl rfl | exact .inr (.inl ⟨rfl, rfl, by omega⟩) | exact .inr (.inr ⟨rfl, rfl, by omega, (idxW_lo' _ _).1, (idxW_lo' _ _).2⟩) | exact .inr (.inr ⟨rfl, rfl, by omega, by omega, by omega⟩) | exact .inr (.inl rfl) | exact .inr (.inr rfl)); done) | ((with_reducible refine .inr (.inr (.inl ?_))); ((repeat' with_reducible apply And.intro) <;> first | rfl | assumption | exact isWd0 | omega | exact (idxW_lo' _ _).1 | exact (idxW_lo' _ _).2 | exact idxW_hi (by omega) _ | trivial | exact .inl rfl | exact .inr (.inl ⟨rfl, rfl, by omega⟩) | exact .inr (.inr ⟨rfl, rfl, by omega, (idxW_lo' _ _).1, (idxW_lo' _ _).2⟩) | exact .inr (.inr ⟨rfl, rfl, by omega, by omega, by omega⟩) | exact .inr (.inl rfl) | exact .inr (.inr rfl)); done) | ((with_reducible refine .inr (.inr (.inr ?_))); ((repeat' with_reducible apply And.intro) <;> first | rfl | assumption | exact isWd0 | omega | exact (idxW_lo' _ _).1 | exact (idxW_lo' _ _).2 | exact idxW_hi (by omega) _ | trivial | exact .inl rfl | exact .inr (.inl ⟨rfl, rfl, by omega⟩) | exact .inr (.inr ⟨rfl, rfl, by omega, (idxW_lo' _ _).1, (idxW_lo' _ _).2⟩) | exact .inr (.inr ⟨rfl, rfl, by omega, by omega, by omega⟩) | exact .inr (.inl rfl) | exact .inr (.inr rfl)); done) | ((with_reducible refine .inr (.inr ?_)); ((repeat' with_reducible apply And.intro) <;> first | rfl | assumption | exact isWd0 | omega | exact (idxW_lo' _ _).1 | exact (idxW_lo' _ _).2 | exact idxW_hi (by omega) _ | trivial | exact .inl rfl | exact .inr (.inl ⟨rfl, rfl, by omega⟩) | exact .inr (.inr ⟨rfl, rfl, by omega, (idxW_lo' _ _).1, (idxW_lo' _ _).2⟩) | exact .inr (.inr ⟨rfl, rfl, by omega, by omega, by omega⟩) | exact .inr (.inl rfl) | exact .inr (.inr rfl)); done) | ((with_reducible refine .inr ?_); ((repeat' with_reducible apply And.intro) <;> first | rfl | assumption | exact isWd0 | omega | exact (idxW_lo' _ _).1 | exact (idxW_lo' _ _).2 | exact idxW_hi (by omega) _ | trivial | exact .inl rfl | exact .inr (.inl ⟨rfl, rfl, by omega⟩) | exact .inr (.inr ⟨rfl, rfl, by omega, (idxW_lo' _ _).1, (idxW_lo' _ _).2⟩) | exact .inr (.inr ⟨rfl, rfl, by omega, by omega, by omega⟩) | exact .inr (.inl rfl) | exact .inr (.inr rfl)); done))
    | (refine st_ret (by simp only [dn, reduceCtorEq, va_map] <;> rfl) ?_
       show [EV.u _] = [EV.u (U.give (OpSt.newGive _ _ _))]
       first
         | rfl
         | (rw [ng_no (by omega)]; done)
         | (rw [ng_ok (by omega)]; done)
         | (rw [nk_no (by omega)]; done)
         | (rw [nk_ok (by omega)]; done)
         | (rw [nt_no (by omega)]; done)
         | (rw [nt_arg (by omega) (by assumption)]; done)
         | (rw [nt_core (by omega) (by assumption) (by omega)]; done)
         | (rw [nt_ok (by omega) (by assumption) (by omega)]; done)
         | (rw [ng_no (by omega)]; rfl)
         | (rw [nt_no (by omega)]; rfl)
         | (rw [nt_arg (by omega) (by assumption)]; rfl)
         | (rw [nt_core (by omega) (by assumption) (by omega)]; rfl)
         | (rw [ng_ok (by omega)]; rfl)
         | (rw [nk_no (by omega)]; rfl)
         | (rw [nk_ok (by omega)]; rfl)
         | (rw [nt_ok (by omega) (by assumption) (by omega)]; rfl))
    | fail "no step")
theorem hNGv : cNGv.Holds objs Tryz.prog := runCtr_holds (X := { cxDn Tryz.prog with hints := hsNGv }) objsOk mixed hctsDn (callable _ Tryz.func33 (by kernel_rfl) (by kernel_rfl)) (by rintro ins _ ⟨_, _, _, _, _, _, rfl, _⟩; rfl) (by rw [rNGv]; exact vNGv _ _)
set_option maxHeartbeats 4000000 in
theorem vQNGv (P : Program) (hs : List (Nat × Nat × List Nat)) : ∀ ins, ins.length = cQNGv.nin → cQNGv.pre ins → tQNGv.sat { cxDn P with hints := hs } (ctrR cQNGv) ins := by
  rintro ins _ ⟨st, ks, t, ls, s, i, rfl, ⟨g1, g2⟩⟩
  unfold tQNGv
  repeat' (first
    | (first
      | (with_reducible refine st_need ?_ ?_
         focus (simp only [dn, reduceCtorEq, va_map] <;> first | omega | assumption))
      | (with_reducible refine st_and ?_ ?_)
      | (with_reducible exact st_ok)
      | (with_reducible refine st_br (fun hc => ?_) (fun hc => ?_) <;> (simp only [dn, reduceCtorEq, va_map] at hc) <;> (try (exfalso; first | contradiction | omega)))
      | (refine st_call (by rfl) (by simp only [dn, reduceCtorEq, va_map] <;> rfl) ?_ (by simp only [out_jmay, out_qmay] <;> rfl) (by simp only [dn] <;> rfl) ?_
         focus (first | exact ⟨_, _, rfl⟩)))
    | (refine st_mk (by rfl) (by simp only [dn, reduceCtorEq, va_map] <;> rfl) ?_ (by simp only [dn] <;> rfl) ?_
       focus
         (first | refine ⟨_, rfl, ?_⟩ | refine ⟨_, _, _, _, _, _, _, _, _, rfl, ?_⟩); (repeat' with_reducible apply And.intro) <;> first | rfl | assumption | exact isWd0 | omega | exact (idxW_lo' _ _).1 | exact (idxW_lo' _ _).2 | exact idxW_hi (by omega) _ | trivial | ((with_reducible refine .inl ?_); ((repeat' with_reducible apply And.intro) <;> first | rfl | assumption | exact isWd0 | omega | exact (idxW_lo' _ _).1 | exact (idxW_lo' _ _).2 | exact idxW_hi (by omega) _ | trivial | exact .inl rfl | exact .inr (.inl ⟨rfl, rfl, by omega⟩) | exact .inr (.inr ⟨rfl, rfl, by omega, (idxW_lo' _ _).1, (idxW_lo' _ _).2⟩) | exact .inr (.inr ⟨rfl, rfl, by omega, by omega, by omega⟩) | exact .inr (.inl rfl) | exact .inr (.inr rfl)); done) | ((with_reducible refine .inr (.inl ?_)); ((repeat' with_reducible apply And.intro) <;> first | rfl | assumption | exact isWd0 | omega | exact (idxW_lo' _ _).1 | exact (idxW_lo' _ _).2 | exact idxW_hi (by omega) _ | trivial | exact .inl rfl | exact .inr (.inl ⟨rfl, rfl, by omega⟩) | exact .inr (.inr ⟨rfl, rfl, by omega, (idxW_lo' _ _).1, (idxW_lo' _ _).2⟩) | exact .inr (.inr ⟨rfl, rfl, by omega, by omega, by omega⟩) | exact .inr (.inl rfl) | exact .inr (.inr rfl)); done) | ((with_reducible refine .inr (.inr (.inl ?_))); ((repeat' with_reducible apply And.intro) <;> first | rfl | assumption | exact isWd0 | omega | exact (idxW_lo' _ _).1 | exact (idxW_lo' _ _).2 | exact idxW_hi (by omega) _ | trivial | exact .inl rfl | exact .inr (.inl ⟨rfl, rfl, by omega⟩) | exact .inr (.inr ⟨rfl, rfl, by omega, (idxW_lo' _ _).1, (idxW_lo' _ _).2⟩) | exact .inr (.inr ⟨rfl, rfl, by omega, by omega, by omega⟩) | exact .inr (.inl rfl) | exact .inr (.inr rfl)); done) | ((with_reducible refine .inr (.inr (.inr ?_))); ((repeat' with_reducible apply And.intro) <;> first | rfl | assumption | exact isWd0 | omega | exact (idxW_lo' _ _).1 | exact (idxW_lo' _ _).2 | exact idxW_hi (by omega) _ | trivial | exact .inl rfl | exact .inr (.inl ⟨rfl, rfl, by omega⟩) | exact .inr (.inr ⟨rfl, rfl, by omega, (idxW_lo' _ _).1, (idxW_lo' _ _).2⟩) | exact .inr (.inr ⟨rfl, rfl, by omega, by omega, by omega⟩) | exact .inr (.inl rfl) | exact .inr (.inr rfl)); done) | ((with_reducible refine .inr (.inr ?_)); ((repeat' with_reducible apply And.intro) <;> first | rfl | assumption | exact isWd0 | omega | exact (idxW_lo' _ _).1 | exact (idxW_lo' _ _).2 | exact idxW_hi (by omega) _ | trivial | exact .inl rfl | exact .inr (.inl ⟨rfl, rfl, by omega⟩) | exact .inr (.inr ⟨rfl, rfl, by omega, (idxW_lo' _ _).1, (idxW_lo' _ _).2⟩) | exact .inr (.inr ⟨rfl, rfl, by omega, by omega, by omega⟩) | exact .inr (.inl rfl) | exact .inr (.inr rfl)); done) | ((with_reducible refine .inr ?_); ((repeat' with_reducible apply And.intro) <;> first | rfl | assumption | exact isWd0 | omega | exact (idxW_lo' _ _).1 | exact (idxW_lo' _ _).2 | exact idxW_hi (by omega) _ | trivial | exact .inl rfl | exact .inr (.inl ⟨rfl, rfl, by omega⟩) | exact .inr (.inr ⟨rfl, rfl, by omega, (idxW_lo' _ _).1, (idxW_lo' _ _).2⟩) | exact .inr (.inr ⟨rfl, rfl, by omega, by omega, by omega⟩) | exact .inr (.inl rfl) | exact .inr (.inr rfl)); done))
    | (refine st_ret (by simp only [dn, reduceCtorEq, va_map] <;> rfl) ?_
       show [EV.u _] = [EV.u (U.rop (OpSt.newGive _ _ _))]
       first
         | rfl
         | (rw [ng_no (by omega)]; done)
         | (rw [ng_ok (by omega)]; done)
         | (rw [nk_no (by omega)]; done)
         | (rw [nk_ok (by omega)]; done)
         | (rw [nt_no (by omega)]; done)
         | (rw [nt_arg (by omega) (by assumption)]; done)
         | (rw [nt_core (by omega) (by assumption) (by omega)]; done)
         | (rw [nt_ok (by omega) (by assumption) (by omega)]; done)
         | (rw [ng_no (by omega)]; rfl)
         | (rw [nt_no (by omega)]; rfl)
         | (rw [nt_arg (by omega) (by assumption)]; rfl)
         | (rw [nt_core (by omega) (by assumption) (by omega)]; rfl)
         | (rw [ng_ok (by omega)]; rfl)
         | (rw [nk_no (by omega)]; rfl)
         | (rw [nk_ok (by omega)]; rfl)
         | (rw [nt_ok (by omega) (by assumption) (by omega)]; rfl))
    | fail "no step")
theorem hQNGv : cQNGv.Holds objs Tryz.prog := runCtr_holds (X := { cxDn Tryz.prog with hints := hsQNGv }) objsOk mixed hctsDn (callable _ Tryz.func65 (by kernel_rfl) (by kernel_rfl)) (by rintro ins _ ⟨_, _, _, _, _, _, rfl, _⟩; rfl) (by rw [rQNGv]; exact vQNGv _ _)
set_option maxHeartbeats 4000000 in
theorem vNTu (P : Program) (hs : List (Nat × Nat × List Nat)) : ∀ ins, ins.length = cNTu.nin → cNTu.pre ins → tNTu.sat { cxDn P with hints := hs } (ctrR cNTu) ins := by
  rintro ins _ ⟨st, ks, t, ls, s, i, fr, to, co, rfl, ⟨g1, g2⟩⟩
  unfold tNTu
  repeat' (first
    | (first
      | (with_reducible refine st_need ?_ ?_
         focus (simp only [dn, reduceCtorEq, va_map] <;> first | omega | assumption))
      | (with_reducible refine st_and ?_ ?_)
      | (with_reducible exact st_ok)
      | (with_reducible refine st_br (fun hc => ?_) (fun hc => ?_) <;> (simp only [dn, reduceCtorEq, va_map] at hc) <;> (try (exfalso; first | contradiction | omega)))
      | (refine st_call (by rfl) (by simp only [dn, reduceCtorEq, va_map] <;> rfl) ?_ (by simp only [out_jmay, out_qmay] <;> rfl) (by simp only [dn] <;> rfl) ?_
         focus (first | exact ⟨_, _, rfl⟩)))
    | (refine st_mk (by rfl) (by simp only [dn, reduceCtorEq, va_map] <;> rfl) ?_ (by simp only [dn] <;> rfl) ?_
       focus
         (first | refine ⟨_, _, _, _, _, _, _, _, _, rfl, ?_⟩ | refine ⟨_, _, _, _, _, _, _, _, _, _, _, rfl, ?_⟩); (repeat' with_reducible apply And.intro) <;> first | rfl | assumption | exact isWd0 | omega | exact (idxW_lo' _ _).1 | exact (idxW_lo' _ _).2 | exact idxW_hi (by omega) _ | trivial | ((with_reducible refine .inl ?_); ((repeat' with_reducible apply And.intro) <;> first | rfl | assumption | exact isWd0 | omega | exact (idxW_lo' _ _).1 | exact (idxW_lo' _ _).2 | exact idxW_hi (by omega) _ | trivial | exact .inl rfl | exact .inr (.inl ⟨rfl, rfl, by omega⟩) | exact .inr (.inr ⟨rfl, rfl, by omega, (idxW_lo' _ _).1, (idxW_lo' _ _).2⟩) | exact .inr (.inr ⟨rfl, rfl, by omega, by omega, by omega⟩) | exact .inr (.inl rfl) | exact .inr (.inr rfl)); done) | ((with_reducible refine .inr (.inl ?_)); ((repeat' with_reducible apply And.intro) <;> first | rfl | assumption | exact isWd0 | omega | exact (idxW_lo' _ _).1 | exact (idxW_lo' _ _).2 | exact idxW_hi (by omega) _ | trivial | exact .inl rfl | exact .inr (.inl ⟨rfl, rfl, by omega⟩) | exact .inr (.inr ⟨rfl, rfl, by omega, (idxW_lo' _ _).1, (idxW_lo' _ _).2⟩) | exact .inr (.inr ⟨rfl, rfl, by omega, by omega, by omega⟩) | exact .inr (.inl rfl) | exact .inr (.inr rfl)); done) | ((with_reducible refine .inr (.inr (.inl ?_))); ((repeat' with_reducible apply And.intro) <;> first | rfl | assumption | exact isWd0 | omega | exact (idxW_lo' _ _).1 | exact (idxW_lo' _ _).2 | exact idxW_hi (by omega) _ | trivial | exact .inl rfl | exact .inr (.inl ⟨rfl, rfl, by omega⟩) | exact .inr (.inr ⟨rfl, rfl, by omega, (idxW_lo' _ _).1, (idxW_lo' _ _).2⟩) | exact .inr (.inr ⟨rfl, rfl, by omega, by omega, by omega⟩) | exact .inr (.inl rfl) | exact .inr (.inr rfl)); done) | ((with_reducible refine .inr (.inr (.inr ?_))); ((repeat' with_reducible apply And.intro) <;> first | rfl | assumption | exact isWd0 | omega | exact (idxW_lo' _ _).1 | exact (idxW_lo' _ _).2 | exact idxW_hi (by omega) _ | trivial | exact .inl rfl | exact .inr (.inl ⟨rfl, rfl, by omega⟩) | exact .inr (.inr ⟨rfl, rfl, by omega, (idxW_lo' _ _).1, (idxW_lo' _ _).2⟩) | exact .inr (.inr ⟨rfl, rfl, by omega, by omega, by omega⟩) | exact .inr (.inl rfl) | exact .inr (.inr rfl)); done) | ((with_reducible refine .inr (.inr ?_)); ((repeat' with_reducible apply And.intro) <;> first | rfl | assumption | exact isWd0 | omega | exact (idxW_lo' _ _).1 | exact (idxW_lo' _ _).2 | exact idxW_hi (by omega) _ | trivial | exact .inl rfl | exact .inr (.inl ⟨rfl, rfl, by omega⟩) | exact .inr (.inr ⟨rfl, rfl, by omega, (idxW_lo' _ _).1, (idxW_lo' _ _).2⟩) | exact .inr (.inr ⟨rfl, rfl, by omega, by omega, by omega⟩) | exact .inr (.inl rfl) | exact .inr (.inr rfl)); done) | ((with_reducible refine .inr ?_); ((repeat' with_reducible apply And.intro) <;> first | rfl | assumption | exact isWd0 | omega | exact (idxW_lo' _ _).1 | exact (idxW_lo' _ _).2 | exact idxW_hi (by omega) _ | trivial | exact .inl rfl | exact .inr (.inl ⟨rfl, rfl, by omega⟩) | exact .inr (.inr ⟨rfl, rfl, by omega, (idxW_lo' _ _).1, (idxW_lo' _ _).2⟩) | exact .inr (.inr ⟨rfl, rfl, by omega, by omega, by omega⟩) | exact .inr (.inl rfl) | exact .inr (.inr rfl)); done))
    | (refine st_ret (by simp only [dn, reduceCtorEq, va_map] <;> rfl) ?_
       show [EV.u _] = [EV.u (U.turn (OpSt.newTurn _ _ _ _ _ _))]
       first
         | rfl
         | (rw [ng_no (by omega)]; done)
         | (rw [ng_ok (by omega)]; done)
         | (rw [nk_no (by omega)]; done)
         | (rw [nk_ok (by omega)]; done)
         | (rw [nt_no (by omega)]; done)
         | (rw [nt_arg (by omega) (by assumption)]; done)
         | (rw [nt_core (by omega) (by assumption) (by omega)]; done)
         | (rw [nt_ok (by omega) (by assumption) (by omega)]; done)
         | (rw [ng_no (by omega)]; rfl)
         | (rw [nt_no (by omega)]; rfl)
         | (rw [nt_arg (by omega) (by assumption)]; rfl)
         | (rw [nt_core (by omega) (by assumption) (by omega)]; rfl)
         | (rw [ng_ok (by omega)]; rfl)
         | (rw [nk_no (by omega)]; rfl)
         | (rw [nk_ok (by omega)]; rfl)
         | (rw [nt_ok (by omega) (by assumption) (by omega)]; rfl))
    | fail "no step")
theorem hNTu : cNTu.Holds objs Tryz.prog := runCtr_holds (X := { cxDn Tryz.prog with hints := hsNTu }) objsOk mixed hctsDn (callable _ Tryz.func45 (by kernel_rfl) (by kernel_rfl)) (by rintro ins _ ⟨_, _, _, _, _, _, _, _, _, rfl, _⟩; rfl) (by rw [rNTu]; exact vNTu _ _)
set_option maxHeartbeats 4000000 in
theorem vQNTu (P : Program) (hs : List (Nat × Nat × List Nat)) : ∀ ins, ins.length = cQNTu.nin → cQNTu.pre ins → tQNTu.sat { cxDn P with hints := hs } (ctrR cQNTu) ins := by
  rintro ins _ ⟨st, ks, t, ls, s, i, fr, to, co, rfl, ⟨g1, g2⟩⟩
  unfold tQNTu
  repeat' (first
    | (first
      | (with_reducible refine st_need ?_ ?_
         focus (simp only [dn, reduceCtorEq, va_map] <;> first | omega | assumption))
      | (with_reducible refine st_and ?_ ?_)
      | (with_reducible exact st_ok)
      | (with_reducible refine st_br (fun hc => ?_) (fun hc => ?_) <;> (simp only [dn, reduceCtorEq, va_map] at hc) <;> (try (exfalso; first | contradiction | omega)))
      | (refine st_call (by rfl) (by simp only [dn, reduceCtorEq, va_map] <;> rfl) ?_ (by simp only [out_jmay, out_qmay] <;> rfl) (by simp only [dn] <;> rfl) ?_
         focus (first | exact ⟨_, _, rfl⟩)))
    | (refine st_mk (by rfl) (by simp only [dn, reduceCtorEq, va_map] <;> rfl) ?_ (by simp only [dn] <;> rfl) ?_
       focus
         (first | refine ⟨_, rfl, ?_⟩ | refine ⟨_, _, _, _, _, _, _, _, _, _, _, _, rfl, ?_⟩); (repeat' with_reducible apply And.intro) <;> first | rfl | assumption | exact isWd0 | omega | exact (idxW_lo' _ _).1 | exact (idxW_lo' _ _).2 | exact idxW_hi (by omega) _ | trivial | ((with_reducible refine .inl ?_); ((repeat' with_reducible apply And.intro) <;> first | rfl | assumption | exact isWd0 | omega | exact (idxW_lo' _ _).1 | exact (idxW_lo' _ _).2 | exact idxW_hi (by omega) _ | trivial | exact .inl rfl | exact .inr (.inl ⟨rfl, rfl, by omega⟩) | exact .inr (.inr ⟨rfl, rfl, by omega, (idxW_lo' _ _).1, (idxW_lo' _ _).2⟩) | exact .inr (.inr ⟨rfl, rfl, by omega, by omega, by omega⟩) | exact .inr (.inl rfl) | exact .inr (.inr rfl)); done) | ((with_reducible refine .inr (.inl ?_)); ((repeat' with_reducible apply And.intro) <;> first | rfl | assumption | exact isWd0 | omega | exact (idxW_lo' _ _).1 | exact (idxW_lo' _ _).2 | exact idxW_hi (by omega) _ | trivial | exact .inl rfl | exact .inr (.inl ⟨rfl, rfl, by omega⟩) | exact .inr (.inr ⟨rfl, rfl, by omega, (idxW_lo' _ _).1, (idxW_lo' _ _).2⟩) | exact .inr (.inr ⟨rfl, rfl, by omega, by omega, by omega⟩) | exact .inr (.inl rfl) | exact .inr (.inr rfl)); done) | ((with_reducible refine .inr (.inr (.inl ?_))); ((repeat' with_reducible apply And.intro) <;> first | rfl | assumption | exact isWd0 | omega | exact (idxW_lo' _ _).1 | exact (idxW_lo' _ _).2 | exact idxW_hi (by omega) _ | trivial | exact .inl rfl | exact .inr (.inl ⟨rfl, rfl, by omega⟩) | exact .inr (.inr ⟨rfl, rfl, by omega, (idxW_lo' _ _).1, (idxW_lo' _ _).2⟩) | exact .inr (.inr ⟨rfl, rfl, by omega, by omega, by omega⟩) | exact .inr (.inl rfl) | exact .inr (.inr rfl)); done) | ((with_reducible refine .inr (.inr (.inr ?_))); ((repeat' with_reducible apply And.intro) <;> first | rfl | assumption | exact isWd0 | omega | exact (idxW_lo' _ _).1 | exact (idxW_lo' _ _).2 | exact idxW_hi (by omega) _ | trivial | exact .inl rfl | exact .inr (.inl ⟨rfl, rfl, by omega⟩) | exact .inr (.inr ⟨rfl, rfl, by omega, (idxW_lo' _ _).1, (idxW_lo' _ _).2⟩) | exact .inr (.inr ⟨rfl, rfl, by omega, by omega, by omega⟩) | exact .inr (.inl rfl) | exact .inr (.inr rfl)); done) | ((with_reducible refine .inr (.inr ?_)); ((repeat' with_reducible apply And.intro) <;> first | rfl | assumption | exact isWd0 | omega | exact (idxW_lo' _ _).1 | exact (idxW_lo' _ _).2 | exact idxW_hi (by omega) _ | trivial | exact .inl rfl | exact .inr (.inl ⟨rfl, rfl, by omega⟩) | exact .inr (.inr ⟨rfl, rfl, by omega, (idxW_lo' _ _).1, (idxW_lo' _ _).2⟩) | exact .inr (.inr ⟨rfl, rfl, by omega, by omega, by omega⟩) | exact .inr (.inl rfl) | exact .inr (.inr rfl)); done) | ((with_reducible refine .inr ?_); ((repeat' with_reducible apply And.intro) <;> first | rfl | assumption | exact isWd0 | omega | exact (idxW_lo' _ _).1 | exact (idxW_lo' _ _).2 | exact idxW_hi (by omega) _ | trivial | exact .inl rfl | exact .inr (.inl ⟨rfl, rfl, by omega⟩) | exact .inr (.inr ⟨rfl, rfl, by omega, (idxW_lo' _ _).1, (idxW_lo' _ _).2⟩) | exact .inr (.inr ⟨rfl, rfl, by omega, by omega, by omega⟩) | exact .inr (.inl rfl) | exact .inr (.inr rfl)); done))
    | (refine st_ret (by simp only [dn, reduceCtorEq, va_map] <;> rfl) ?_
       show [EV.u _] = [EV.u (U.rop (OpSt.newTurn _ _ _ _ _ _))]
       first
         | rfl
         | (rw [ng_no (by omega)]; done)
         | (rw [ng_ok (by omega)]; done)
         | (rw [nk_no (by omega)]; done)
         | (rw [nk_ok (by omega)]; done)
         | (rw [nt_no (by omega)]; done)
         | (rw [nt_arg (by omega) (by assumption)]; done)
         | (rw [nt_core (by omega) (by assumption) (by omega)]; done)
         | (rw [nt_ok (by omega) (by assumption) (by omega)]; done)
         | (rw [ng_no (by omega)]; rfl)
         | (rw [nt_no (by omega)]; rfl)
         | (rw [nt_arg (by omega) (by assumption)]; rfl)
         | (rw [nt_core (by omega) (by assumption) (by omega)]; rfl)
         | (rw [ng_ok (by omega)]; rfl)
         | (rw [nk_no (by omega)]; rfl)
         | (rw [nk_ok (by omega)]; rfl)
         | (rw [nt_ok (by omega) (by assumption) (by omega)]; rfl))
    | fail "no step")
theorem hQNTu : cQNTu.Holds objs Tryz.prog := runCtr_holds (X := { cxDn Tryz.prog with hints := hsQNTu }) objsOk mixed hctsDn (callable _ Tryz.func66 (by kernel_rfl) (by kernel_rfl)) (by rintro ins _ ⟨_, _, _, _, _, _, _, _, _, rfl, _⟩; rfl) (by rw [rQNTu]; exact vQNTu _ _)
set_option maxHeartbeats 4000000 in
theorem vNKy (P : Program) (hs : List (Nat × Nat × List Nat)) : ∀ ins, ins.length = cNKy.nin → cNKy.pre ins → tNKy.sat { cxDn P with hints := hs } (ctrR cNKy) ins := by
  rintro ins _ ⟨st, ks, t, ls, s, i, w, rfl, ⟨g1, g2⟩, hw⟩
  unfold tNKy
  repeat' (first
    | (first
      | (with_reducible refine st_need ?_ ?_
         focus (simp only [dn, reduceCtorEq, va_map] <;> first | omega | assumption))
      | (with_reducible refine st_and ?_ ?_)
      | (with_reducible exact st_ok)
      | (with_reducible refine st_br (fun hc => ?_) (fun hc => ?_) <;> (simp only [dn, reduceCtorEq, va_map] at hc) <;> (try (exfalso; first | contradiction | omega)))
      | (refine st_call (by rfl) (by simp only [dn, reduceCtorEq, va_map] <;> rfl) ?_ (by simp only [out_jmay, out_qmay] <;> rfl) (by simp only [dn] <;> rfl) ?_
         focus (first | exact ⟨_, _, rfl⟩)))
    | (refine st_mk (by rfl) (by simp only [dn, reduceCtorEq, va_map] <;> rfl) ?_ (by simp only [dn] <;> rfl) ?_
       focus
         (first | refine ⟨_, _, _, _, _, _, _, rfl, ?_⟩ | refine ⟨_, _, _, _, _, _, _, _, rfl, ?_⟩); (repeat' with_reducible apply And.intro) <;> first | rfl | assumption | exact isWd0 | omega | exact (idxW_lo' _ _).1 | exact (idxW_lo' _ _).2 | exact idxW_hi (by omega) _ | trivial | ((with_reducible refine .inl ?_); ((repeat' with_reducible apply And.intro) <;> first | rfl | assumption | exact isWd0 | omega | exact (idxW_lo' _ _).1 | exact (idxW_lo' _ _).2 | exact idxW_hi (by omega) _ | trivial | exact .inl rfl | exact .inr (.inl ⟨rfl, rfl, by omega⟩) | exact .inr (.inr ⟨rfl, rfl, by omega, (idxW_lo' _ _).1, (idxW_lo' _ _).2⟩) | exact .inr (.inr ⟨rfl, rfl, by omega, by omega, by omega⟩) | exact .inr (.inl rfl) | exact .inr (.inr rfl)); done) | ((with_reducible refine .inr (.inl ?_)); ((repeat' with_reducible apply And.intro) <;> first | rfl | assumption | exact isWd0 | omega | exact (idxW_lo' _ _).1 | exact (idxW_lo' _ _).2 | exact idxW_hi (by omega) _ | trivial | exact .inl rfl | exact .inr (.inl ⟨rfl, rfl, by omega⟩) | exact .inr (.inr ⟨rfl, rfl, by omega, (idxW_lo' _ _).1, (idxW_lo' _ _).2⟩) | exact .inr (.inr ⟨rfl, rfl, by omega, by omega, by omega⟩) | exact .inr (.inl rfl) | exact .inr (.inr rfl)); done) | ((with_reducible refine .inr (.inr (.inl ?_))); ((repeat' with_reducible apply And.intro) <;> first | rfl | assumption | exact isWd0 | omega | exact (idxW_lo' _ _).1 | exact (idxW_lo' _ _).2 | exact idxW_hi (by omega) _ | trivial | exact .inl rfl | exact .inr (.inl ⟨rfl, rfl, by omega⟩) | exact .inr (.inr ⟨rfl, rfl, by omega, (idxW_lo' _ _).1, (idxW_lo' _ _).2⟩) | exact .inr (.inr ⟨rfl, rfl, by omega, by omega, by omega⟩) | exact .inr (.inl rfl) | exact .inr (.inr rfl)); done) | ((with_reducible refine .inr (.inr (.inr ?_))); ((repeat' with_reducible apply And.intro) <;> first | rfl | assumption | exact isWd0 | omega | exact (idxW_lo' _ _).1 | exact (idxW_lo' _ _).2 | exact idxW_hi (by omega) _ | trivial | exact .inl rfl | exact .inr (.inl ⟨rfl, rfl, by omega⟩) | exact .inr (.inr ⟨rfl, rfl, by omega, (idxW_lo' _ _).1, (idxW_lo' _ _).2⟩) | exact .inr (.inr ⟨rfl, rfl, by omega, by omega, by omega⟩) | exact .inr (.inl rfl) | exact .inr (.inr rfl)); done) | ((with_reducible refine .inr (.inr ?_)); ((repeat' with_reducible apply And.intro) <;> first | rfl | assumption | exact isWd0 | omega | exact (idxW_lo' _ _).1 | exact (idxW_lo' _ _).2 | exact idxW_hi (by omega) _ | trivial | exact .inl rfl | exact .inr (.inl ⟨rfl, rfl, by omega⟩) | exact .inr (.inr ⟨rfl, rfl, by omega, (idxW_lo' _ _).1, (idxW_lo' _ _).2⟩) | exact .inr (.inr ⟨rfl, rfl, by omega, by omega, by omega⟩) | exact .inr (.inl rfl) | exact .inr (.inr rfl)); done) | ((with_reducible refine .inr ?_); ((repeat' with_reducible apply And.intro) <;> first | rfl | assumption | exact isWd0 | omega | exact (idxW_lo' _ _).1 | exact (idxW_lo' _ _).2 | exact idxW_hi (by omega) _ | trivial | exact .inl rfl | exact .inr (.inl ⟨rfl, rfl, by omega⟩) | exact .inr (.inr ⟨rfl, rfl, by omega, (idxW_lo' _ _).1, (idxW_lo' _ _).2⟩) | exact .inr (.inr ⟨rfl, rfl, by omega, by omega, by omega⟩) | exact .inr (.inl rfl) | exact .inr (.inr rfl)); done))
    | (refine st_ret (by simp only [dn, reduceCtorEq, va_map] <;> rfl) ?_
       show [EV.u _] = [EV.u (U.key (KeySt.new _ _ _ _))]
       first
         | rfl
         | (rw [ng_no (by omega)]; done)
         | (rw [ng_ok (by omega)]; done)
         | (rw [nk_no (by omega)]; done)
         | (rw [nk_ok (by omega)]; done)
         | (rw [nt_no (by omega)]; done)
         | (rw [nt_arg (by omega) (by assumption)]; done)
         | (rw [nt_core (by omega) (by assumption) (by omega)]; done)
         | (rw [nt_ok (by omega) (by assumption) (by omega)]; done)
         | (rw [ng_no (by omega)]; rfl)
         | (rw [nt_no (by omega)]; rfl)
         | (rw [nt_arg (by omega) (by assumption)]; rfl)
         | (rw [nt_core (by omega) (by assumption) (by omega)]; rfl)
         | (rw [ng_ok (by omega)]; rfl)
         | (rw [nk_no (by omega)]; rfl)
         | (rw [nk_ok (by omega)]; rfl)
         | (rw [nt_ok (by omega) (by assumption) (by omega)]; rfl))
    | fail "no step")
theorem hNKy : cNKy.Holds objs Tryz.prog := runCtr_holds (X := { cxDn Tryz.prog with hints := hsNKy }) objsOk mixed hctsDn (callable _ Tryz.func37 (by kernel_rfl) (by kernel_rfl)) (by rintro ins _ ⟨_, _, _, _, _, _, _, rfl, _⟩; rfl) (by rw [rNKy]; exact vNKy _ _)
set_option maxHeartbeats 4000000 in
theorem vQNKy (P : Program) (hs : List (Nat × Nat × List Nat)) : ∀ ins, ins.length = cQNKy.nin → cQNKy.pre ins → tQNKy.sat { cxDn P with hints := hs } (ctrR cQNKy) ins := by
  rintro ins _ ⟨st, ks, t, ls, s, i, w, rfl, ⟨g1, g2⟩, hw⟩
  unfold tQNKy
  repeat' (first
    | (first
      | (with_reducible refine st_need ?_ ?_
         focus (simp only [dn, reduceCtorEq, va_map] <;> first | omega | assumption))
      | (with_reducible refine st_and ?_ ?_)
      | (with_reducible exact st_ok)
      | (with_reducible refine st_br (fun hc => ?_) (fun hc => ?_) <;> (simp only [dn, reduceCtorEq, va_map] at hc) <;> (try (exfalso; first | contradiction | omega)))
      | (refine st_call (by rfl) (by simp only [dn, reduceCtorEq, va_map] <;> rfl) ?_ (by simp only [out_jmay, out_qmay] <;> rfl) (by simp only [dn] <;> rfl) ?_
         focus (first | exact ⟨_, _, rfl⟩)))
    | (refine st_mk (by rfl) (by simp only [dn, reduceCtorEq, va_map] <;> rfl) ?_ (by simp only [dn] <;> rfl) ?_
       focus
         (first | refine ⟨_, _, _, _, rfl, ?_⟩); (repeat' with_reducible apply And.intro) <;> first | rfl | assumption | exact isWd0 | omega | exact (idxW_lo' _ _).1 | exact (idxW_lo' _ _).2 | exact idxW_hi (by omega) _ | trivial | ((with_reducible refine .inl ?_); ((repeat' with_reducible apply And.intro) <;> first | rfl | assumption | exact isWd0 | omega | exact (idxW_lo' _ _).1 | exact (idxW_lo' _ _).2 | exact idxW_hi (by omega) _ | trivial | exact .inl rfl | exact .inr (.inl ⟨rfl, rfl, by omega⟩) | exact .inr (.inr ⟨rfl, rfl, by omega, (idxW_lo' _ _).1, (idxW_lo' _ _).2⟩) | exact .inr (.inr ⟨rfl, rfl, by omega, by omega, by omega⟩) | exact .inr (.inl rfl) | exact .inr (.inr rfl)); done) | ((with_reducible refine .inr (.inl ?_)); ((repeat' with_reducible apply And.intro) <;> first | rfl | assumption | exact isWd0 | omega | exact (idxW_lo' _ _).1 | exact (idxW_lo' _ _).2 | exact idxW_hi (by omega) _ | trivial | exact .inl rfl | exact .inr (.inl ⟨rfl, rfl, by omega⟩) | exact .inr (.inr ⟨rfl, rfl, by omega, (idxW_lo' _ _).1, (idxW_lo' _ _).2⟩) | exact .inr (.inr ⟨rfl, rfl, by omega, by omega, by omega⟩) | exact .inr (.inl rfl) | exact .inr (.inr rfl)); done) | ((with_reducible refine .inr (.inr (.inl ?_))); ((repeat' with_reducible apply And.intro) <;> first | rfl | assumption | exact isWd0 | omega | exact (idxW_lo' _ _).1 | exact (idxW_lo' _ _).2 | exact idxW_hi (by omega) _ | trivial | exact .inl rfl | exact .inr (.inl ⟨rfl, rfl, by omega⟩) | exact .inr (.inr ⟨rfl, rfl, by omega, (idxW_lo' _ _).1, (idxW_lo' _ _).2⟩) | exact .inr (.inr ⟨rfl, rfl, by omega, by omega, by omega⟩) | exact .inr (.inl rfl) | exact .inr (.inr rfl)); done) | ((with_reducible refine .inr (.inr (.inr ?_))); ((repeat' with_reducible apply And.intro) <;> first | rfl | assumption | exact isWd0 | omega | exact (idxW_lo' _ _).1 | exact (idxW_lo' _ _).2 | exact idxW_hi (by omega) _ | trivial | exact .inl rfl | exact .inr (.inl ⟨rfl, rfl, by omega⟩) | exact .inr (.inr ⟨rfl, rfl, by omega, (idxW_lo' _ _).1, (idxW_lo' _ _).2⟩) | exact .inr (.inr ⟨rfl, rfl, by omega, by omega, by omega⟩) | exact .inr (.inl rfl) | exact .inr (.inr rfl)); done) | ((with_reducible refine .inr (.inr ?_)); ((repeat' with_reducible apply And.intro) <;> first | rfl | assumption | exact isWd0 | omega | exact (idxW_lo' _ _).1 | exact (idxW_lo' _ _).2 | exact idxW_hi (by omega) _ | trivial | exact .inl rfl | exact .inr (.inl ⟨rfl, rfl, by omega⟩) | exact .inr (.inr ⟨rfl, rfl, by omega, (idxW_lo' _ _).1, (idxW_lo' _ _).2⟩) | exact .inr (.inr ⟨rfl, rfl, by omega, by omega, by omega⟩) | exact .inr (.inl rfl) | exact .inr (.inr rfl)); done) | ((with_reducible refine .inr ?_); ((repeat' with_reducible apply And.intro) <;> first | rfl | assumption | exact isWd0 | omega | exact (idxW_lo' _ _).1 | exact (idxW_lo' _ _).2 | exact idxW_hi (by omega) _ | trivial | exact .inl rfl | exact .inr (.inl ⟨rfl, rfl, by omega⟩) | exact .inr (.inr ⟨rfl, rfl, by omega, (idxW_lo' _ _).1, (idxW_lo' _ _).2⟩) | exact .inr (.inr ⟨rfl, rfl, by omega, by omega, by omega⟩) | exact .inr (.inl rfl) | exact .inr (.inr rfl)); done))
    | (refine st_ret (by simp only [dn, reduceCtorEq, va_map] <;> rfl) ?_
       show [EV.u _] = [EV.u (U.rkey false (KeySt.new _ _ _ _))]
       first
         | rfl
         | (rw [ng_no (by omega)]; done)
         | (rw [ng_ok (by omega)]; done)
         | (rw [nk_no (by omega)]; done)
         | (rw [nk_ok (by omega)]; done)
         | (rw [nt_no (by omega)]; done)
         | (rw [nt_arg (by omega) (by assumption)]; done)
         | (rw [nt_core (by omega) (by assumption) (by omega)]; done)
         | (rw [nt_ok (by omega) (by assumption) (by omega)]; done)
         | (rw [ng_no (by omega)]; rfl)
         | (rw [nt_no (by omega)]; rfl)
         | (rw [nt_arg (by omega) (by assumption)]; rfl)
         | (rw [nt_core (by omega) (by assumption) (by omega)]; rfl)
         | (rw [ng_ok (by omega)]; rfl)
         | (rw [nk_no (by omega)]; rfl)
         | (rw [nk_ok (by omega)]; rfl)
         | (rw [nt_ok (by omega) (by assumption) (by omega)]; rfl))
    | fail "no step")
theorem hQNKy : cQNKy.Holds objs Tryz.prog := runCtr_holds (X := { cxDn Tryz.prog with hints := hsQNKy }) objsOk mixed hctsDn (callable _ Tryz.func67 (by kernel_rfl) (by kernel_rfl)) (by rintro ins _ ⟨_, _, _, _, _, _, _, rfl, _⟩; rfl) (by rw [rQNKy]; exact vQNKy _ _)
set_option maxHeartbeats 4000000 in
theorem vNKo (P : Program) (hs : List (Nat × Nat × List Nat)) : ∀ ins, ins.length = cNKo.nin → cNKo.pre ins → tNKo.sat { cxDn P with hints := hs } (ctrR cNKo) ins := by
  rintro ins _ ⟨st, ks, t, ls, s, i, rfl, ⟨g1, g2⟩⟩
  unfold tNKo
  repeat' (first
    | (first
      | (with_reducible refine st_need ?_ ?_
         focus (simp only [dn, reduceCtorEq, va_map] <;> first | omega | assumption))
      | (with_reducible refine st_and ?_ ?_)
      | (with_reducible exact st_ok)
      | (with_reducible refine st_br (fun hc => ?_) (fun hc => ?_) <;> (simp only [dn, reduceCtorEq, va_map] at hc) <;> (try (exfalso; first | contradiction | omega)))
      | (refine st_call (by rfl) (by simp only [dn, reduceCtorEq, va_map] <;> rfl) ?_ (by simp only [out_jmay, out_qmay] <;> rfl) (by simp only [dn] <;> rfl) ?_
         focus (first | exact ⟨_, _, rfl⟩)))
    | (refine st_mk (by rfl) (by simp only [dn, reduceCtorEq, va_map] <;> rfl) ?_ (by simp only [dn] <;> rfl) ?_
       focus
         (first | refine ⟨_, _, _, _, _, _, rfl, ?_⟩ | refine ⟨_, _, _, _, _, _, _, _, rfl, ?_⟩); (repeat' with_reducible apply And.intro) <;> first | rfl | assumption | exact isWd0 | omega | exact (idxW_lo' _ _).1 | exact (idxW_lo' _ _).2 | exact idxW_hi (by omega) _ | trivial | ((with_reducible refine .inl ?_); ((repeat' with_reducible apply And.intro) <;> first | rfl | assumption | exact isWd0 | omega | exact (idxW_lo' _ _).1 | exact (idxW_lo' _ _).2 | exact idxW_hi (by omega) _ | trivial | exact .inl rfl | exact .inr (.inl ⟨rfl, rfl, by omega⟩) | exact .inr (.inr ⟨rfl, rfl, by omega, (idxW_lo' _ _).1, (idxW_lo' _ _).2⟩) | exact .inr (.inr ⟨rfl, rfl, by omega, by omega, by omega⟩) | exact .inr (.inl rfl) | exact .inr (.inr rfl)); done) | ((with_reducible refine .inr (.inl ?_)); ((repeat' with_reducible apply And.intro) <;> first | rfl | assumption | exact isWd0 | omega | exact (idxW_lo' _ _).1 | exact (idxW_lo' _ _).2 | exact idxW_hi (by omega) _ | trivial | exact .inl rfl | exact .inr (.inl ⟨rfl, rfl, by omega⟩) | exact .inr (.inr ⟨rfl, rfl, by omega, (idxW_lo' _ _).1, (idxW_lo' _ _).2⟩) | exact .inr (.inr ⟨rfl, rfl, by omega, by omega, by omega⟩) | exact .inr (.inl rfl) | exact .inr (.inr rfl)); done) | ((with_reducible refine .inr (.inr (.inl ?_))); ((repeat' with_reducible apply And.intro) <;> first | rfl | assumption | exact isWd0 | omega | exact (idxW_lo' _ _).1 | exact (idxW_lo' _ _).2 | exact idxW_hi (by omega) _ | trivial | exact .inl rfl | exact .inr (.inl ⟨rfl, rfl, by omega⟩) | exact .inr (.inr ⟨rfl, rfl, by omega, (idxW_lo' _ _).1, (idxW_lo' _ _).2⟩) | exact .inr (.inr ⟨rfl, rfl, by omega, by omega, by omega⟩) | exact .inr (.inl rfl) | exact .inr (.inr rfl)); done) | ((with_reducible refine .inr (.inr (.inr ?_))); ((repeat' with_reducible apply And.intro) <;> first | rfl | assumption | exact isWd0 | omega | exact (idxW_lo' _ _).1 | exact (idxW_lo' _ _).2 | exact idxW_hi (by omega) _ | trivial | exact .inl rfl | exact .inr (.inl ⟨rfl, rfl, by omega⟩) | exact .inr (.inr ⟨rfl, rfl, by omega, (idxW_lo' _ _).1, (idxW_lo' _ _).2⟩) | exact .inr (.inr ⟨rfl, rfl, by omega, by omega, by omega⟩) | exact .inr (.inl rfl) | exact .inr (.inr rfl)); done) | ((with_reducible refine .inr (.inr ?_)); ((repeat' with_reducible apply And.intro) <;> first | rfl | assumption | exact isWd0 | omega | exact (idxW_lo' _ _).1 | exact (idxW_lo' _ _).2 | exact idxW_hi (by omega) _ | trivial | exact .inl rfl | exact .inr (.inl ⟨rfl, rfl, by omega⟩) | exact .inr (.inr ⟨rfl, rfl, by omega, (idxW_lo' _ _).1, (idxW_lo' _ _).2⟩) | exact .inr (.inr ⟨rfl, rfl, by omega, by omega, by omega⟩) | exact .inr (.inl rfl) | exact .inr (.inr rfl)); done) | ((with_reducible refine .inr ?_); ((repeat' with_reducible apply And.intro) <;> first | rfl | assumption | exact isWd0 | omega | exact (idxW_lo' _ _).1 | exact (idxW_lo' _ _).2 | exact idxW_hi (by omega) _ | trivial | exact .inl rfl | exact .inr (.inl ⟨rfl, rfl, by omega⟩) | exact .inr (.inr ⟨rfl, rfl, by omega, (idxW_lo' _ _).1, (idxW_lo' _ _).2⟩) | exact .inr (.inr ⟨rfl, rfl, by omega, by omega, by omega⟩) | exact .inr (.inl rfl) | exact .inr (.inr rfl)); done))
    | (refine st_ret (by simp only [dn, reduceCtorEq, va_map] <;> rfl) ?_
       show [EV.u _] = [EV.u (U.keyOf (KeySt.new _ _ _ _))]
       first
         | rfl
         | (rw [ng_no (by omega)]; done)
         | (rw [ng_ok (by omega)]; done)
         | (rw [nk_no (by omega)]; done)
         | (rw [nk_ok (by omega)]; done)
         | (rw [nt_no (by omega)]; done)
         | (rw [nt_arg (by omega) (by assumption)]; done)
         | (rw [nt_core (by omega) (by assumption) (by omega)]; done)
         | (rw [nt_ok (by omega) (by assumption) (by omega)]; done)
         | (rw [ng_no (by omega)]; rfl)
         | (rw [nt_no (by omega)]; rfl)
         | (rw [nt_arg (by omega) (by assumption)]; rfl)
         | (rw [nt_core (by omega) (by assumption) (by omega)]; rfl)
         | (rw [ng_ok (by omega)]; rfl)
         | (rw [nk_no (by omega)]; rfl)
         | (rw [nk_ok (by omega)]; rfl)
         | (rw [nt_ok (by omega) (by assumption) (by omega)]; rfl))
    | fail "no step")
theorem hNKo : cNKo.Holds objs Tryz.prog := runCtr_holds (X := { cxDn Tryz.prog with hints := hsNKo }) objsOk mixed hctsDn (callable _ Tryz.func38 (by kernel_rfl) (by kernel_rfl)) (by rintro ins _ ⟨_, _, _, _, _, _, rfl, _⟩; rfl) (by rw [rNKo]; exact vNKo _ _)
set_option maxHeartbeats 4000000 in
theorem vQNKo (P : Program) (hs : List (Nat × Nat × List Nat)) : ∀ ins, ins.length = cQNKo.nin → cQNKo.pre ins → tQNKo.sat { cxDn P with hints := hs } (ctrR cQNKo) ins := by
  rintro ins _ ⟨st, ks, t, ls, s, i, rfl, ⟨g1, g2⟩⟩
  unfold tQNKo
  repeat' (first
    | (first
      | (with_reducible refine st_need ?_ ?_
         focus (simp only [dn, reduceCtorEq, va_map] <;> first | omega | assumption))
      | (with_reducible refine st_and ?_ ?_)
      | (with_reducible exact st_ok)
      | (with_reducible refine st_br (fun hc => ?_) (fun hc => ?_) <;> (simp only [dn, reduceCtorEq, va_map] at hc) <;> (try (exfalso; first | contradiction | omega)))
      | (refine st_call (by rfl) (by simp only [dn, reduceCtorEq, va_map] <;> rfl) ?_ (by simp only [out_jmay, out_qmay] <;> rfl) (by simp only [dn] <;> rfl) ?_
         focus (first | exact ⟨_, _, rfl⟩)))
    | (refine st_mk (by rfl) (by simp only [dn, reduceCtorEq, va_map] <;> rfl) ?_ (by simp only [dn] <;> rfl) ?_
       focus
         (first | refine ⟨_, _, _, _, rfl, ?_⟩); (repeat' with_reducible apply And.intro) <;> first | rfl | assumption | exact isWd0 | omega | exact (idxW_lo' _ _).1 | exact (idxW_lo' _ _).2 | exact idxW_hi (by omega) _ | trivial | ((with_reducible refine .inl ?_); ((repeat' with_reducible apply And.intro) <;> first | rfl | assumption | exact isWd0 | omega | exact (idxW_lo' _ _).1 | exact (idxW_lo' _ _).2 | exact idxW_hi (by omega) _ | trivial | exact .inl rfl | exact .inr (.inl ⟨rfl, rfl, by omega⟩) | exact .inr (.inr ⟨rfl, rfl, by omega, (idxW_lo' _ _).1, (idxW_lo' _ _).2⟩) | exact .inr (.inr ⟨rfl, rfl, by omega, by omega, by omega⟩) | exact .inr (.inl rfl) | exact .inr (.inr rfl)); done) | ((with_reducible refine .inr (.inl ?_)); ((repeat' with_reducible apply And.intro) <;> first | rfl | assumption | exact isWd0 | omega | exact (idxW_lo' _ _).1 | exact (idxW_lo' _ _).2 | exact idxW_hi (by omega) _ | trivial | exact .inl rfl | exact .inr (.inl ⟨rfl, rfl, by omega⟩) | exact .inr (.inr ⟨rfl, rfl, by omega, (idxW_lo' _ _).1, (idxW_lo' _ _).2⟩) | exact .inr (.inr ⟨rfl, rfl, by omega, by omega, by omega⟩) | exact .inr (.inl rfl) | exact .inr (.inr rfl)); done) | ((with_reducible refine .inr (.inr (.inl ?_))); ((repeat' with_reducible apply And.intro) <;> first | rfl | assumption | exact isWd0 | omega | exact (idxW_lo' _ _).1 | exact (idxW_lo' _ _).2 | exact idxW_hi (by omega) _ | trivial | exact .inl rfl | exact .inr (.inl ⟨rfl, rfl, by omega⟩) | exact .inr (.inr ⟨rfl, rfl, by omega, (idxW_lo' _ _).1, (idxW_lo' _ _).2⟩) | exact .inr (.inr ⟨rfl, rfl, by omega, by omega, by omega⟩) | exact .inr (.inl rfl) | exact .inr (.inr rfl)); done) | ((with_reducible refine .inr (.inr (.inr ?_))); ((repeat' with_reducible apply And.intro) <;> first | rfl | assumption | exact isWd0 | omega | exact (idxW_lo' _ _).1 | exact (idxW_lo' _ _).2 | exact idxW_hi (by omega) _ | trivial | exact .inl rfl | exact .inr (.inl ⟨rfl, rfl, by omega⟩) | exact .inr (.inr ⟨rfl, rfl, by omega, (idxW_lo' _ _).1, (idxW_lo' _ _).2⟩) | exact .inr (.inr ⟨rfl, rfl, by omega, by omega, by omega⟩) | exact .inr (.inl rfl) | exact .inr (.inr rfl)); done) | ((with_reducible refine .inr (.inr ?_)); ((repeat' with_reducible apply And.intro) <;> first | rfl | assumption | exact isWd0 | omega | exact (idxW_lo' _ _).1 | exact (idxW_lo' _ _).2 | exact idxW_hi (by omega) _ | trivial | exact .inl rfl | exact .inr (.inl ⟨rfl, rfl, by omega⟩) | exact .inr (.inr ⟨rfl, rfl, by omega, (idxW_lo' _ _).1, (idxW_lo' _ _).2⟩) | exact .inr (.inr ⟨rfl, rfl, by omega, by omega, by omega⟩) | exact .inr (.inl rfl) | exact .inr (.inr rfl)); done) | ((with_reducible refine .inr ?_); ((repeat' with_reducible apply And.intro) <;> first | rfl | assumption | exact isWd0 | omega | exact (idxW_lo' _ _).1 | exact (idxW_lo' _ _).2 | exact idxW_hi (by omega) _ | trivial | exact .inl rfl | exact .inr (.inl ⟨rfl, rfl, by omega⟩) | exact .inr (.inr ⟨rfl, rfl, by omega, (idxW_lo' _ _).1, (idxW_lo' _ _).2⟩) | exact .inr (.inr ⟨rfl, rfl, by omega, by omega, by omega⟩) | exact .inr (.inl rfl) | exact .inr (.inr rfl)); done))
    | (refine st_ret (by simp only [dn, reduceCtorEq, va_map] <;> rfl) ?_
       show [EV.u _] = [EV.u (U.rkey true (KeySt.new _ _ _ _))]
       first
         | rfl
         | (rw [ng_no (by omega)]; done)
         | (rw [ng_ok (by omega)]; done)
         | (rw [nk_no (by omega)]; done)
         | (rw [nk_ok (by omega)]; done)
         | (rw [nt_no (by omega)]; done)
         | (rw [nt_arg (by omega) (by assumption)]; done)
         | (rw [nt_core (by omega) (by assumption) (by omega)]; done)
         | (rw [nt_ok (by omega) (by assumption) (by omega)]; done)
         | (rw [ng_no (by omega)]; rfl)
         | (rw [nt_no (by omega)]; rfl)
         | (rw [nt_arg (by omega) (by assumption)]; rfl)
         | (rw [nt_core (by omega) (by assumption) (by omega)]; rfl)
         | (rw [ng_ok (by omega)]; rfl)
         | (rw [nk_no (by omega)]; rfl)
         | (rw [nk_ok (by omega)]; rfl)
         | (rw [nt_ok (by omega) (by assumption) (by omega)]; rfl))
    | fail "no step")
theorem hQNKo : cQNKo.Holds objs Tryz.prog := runCtr_holds (X := { cxDn Tryz.prog with hints := hsQNKo }) objsOk mixed hctsDn (callable _ Tryz.func68 (by kernel_rfl) (by kernel_rfl)) (by rintro ins _ ⟨_, _, _, _, _, _, rfl, _⟩; rfl) (by rw [rQNKo]; exact vQNKo _ _)
end Go.Proofs.YtdabdbbgaekmdaaGreat
