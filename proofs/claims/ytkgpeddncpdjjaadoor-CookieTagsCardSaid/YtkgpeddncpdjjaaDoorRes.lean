/- What a function returns whose results lie in memory. No function of the program occurs here. -/
import Derived.Test.YtkgpeddncpdjjaaDoorBlk
namespace Go.Proofs.YtkgpeddncpdjjaaDoor
open Go.RowKit
set_option linter.unusedSimpArgs false
set_option linter.unusedVariables false
set_option maxRecDepth 100000
section
variable {P : Program} {w : World} {fn : Func} {tmps : Array Value}
theorem load_res {g : Nat} {T T' : TypeId} {cs : List Value} {d : TypeDesc} (hB : Blk w g T' cs) (hu : P.underlying T = some d) (hd : d.isRow = true) {n : Nat} (hi : (P.info? T).map (·.size) = some n) (hn : cs.length = n) : (loadVar T ⟨g, 0, none⟩).run P w = .ok (.agg cs.toArray) w := by
  subst hn
  exact run_loadVar_mid w g 0 T cs d hB.range hu hd hi
/-- one result, in memory -/
theorem res_c {c : Tmp} {T T' : TypeId} (h : fn.results = #[.cell c T]) {g : Nat} {cs : List Value} {d : TypeDesc} (hp : tmps.getD c undef = .pointer (some ⟨g, 0, none⟩)) (hB : Blk w g T' cs) (hu : P.underlying T = some d) (hd : d.isRow = true) {n : Nat} (hi : (P.info? T).map (·.size) = some n) (hn : cs.length = n) :
    (results fn tmps).run P w = .ok (.agg cs.toArray) w := by
  have hl := load_res hB hu hd hi hn
  rw [Array.getD_eq_getD_getElem?] at hp
  simp [results, h, hp, asAddr, Sem.run_bind, hl]
/-- a result in memory, and one more -/
theorem res_cx {c x : Tmp} {T T' : TypeId} (h : fn.results = #[.cell c T, .tmp x]) {g : Nat} {cs : List Value} {d : TypeDesc} (hp : tmps.getD c undef = .pointer (some ⟨g, 0, none⟩)) (hB : Blk w g T' cs) (hu : P.underlying T = some d) (hd : d.isRow = true) {n : Nat} (hi : (P.info? T).map (·.size) = some n) (hn : cs.length = n) {v : Value} (hv : tmps.getD x undef = v) :
    (results fn tmps).run P w = .ok (.tuple #[.agg cs.toArray, v]) w := by
  have hl := load_res hB hu hd hi hn
  subst hv
  rw [Array.getD_eq_getD_getElem?] at hp
  simp [results, h, hp, asAddr, Sem.run_bind, hl]
/-- a result in memory, and two more -/
theorem res_cxy {c x y : Tmp} {T T' : TypeId} (h : fn.results = #[.cell c T, .tmp x, .tmp y]) {g : Nat} {cs : List Value} {d : TypeDesc} (hp : tmps.getD c undef = .pointer (some ⟨g, 0, none⟩)) (hB : Blk w g T' cs) (hu : P.underlying T = some d) (hd : d.isRow = true) {n : Nat} (hi : (P.info? T).map (·.size) = some n) (hn : cs.length = n) {v u : Value} (hv : tmps.getD x undef = v) (hw : tmps.getD y undef = u) :
    (results fn tmps).run P w = .ok (.tuple #[.agg cs.toArray, v, u]) w := by
  have hl := load_res hB hu hd hi hn
  subst hv hw
  rw [Array.getD_eq_getD_getElem?] at hp
  simp [results, h, hp, asAddr, Sem.run_bind, hl]
/-- two results in memory, and one more -/
theorem res_ccx {c c' x : Tmp} {T T' : TypeId} (h : fn.results = #[.cell c T, .cell c' T, .tmp x]) {g g' : Nat} {cs cs' : List Value} {d : TypeDesc} (hp : tmps.getD c undef = .pointer (some ⟨g, 0, none⟩)) (hp' : tmps.getD c' undef = .pointer (some ⟨g', 0, none⟩)) (hB : Blk w g T' cs) (hB' : Blk w g' T' cs') (hu : P.underlying T = some d) (hd : d.isRow = true) {n : Nat} (hi : (P.info? T).map (·.size) = some n) (hn : cs.length = n) (hn' : cs'.length = n) {v : Value} (hv : tmps.getD x undef = v) :
    (results fn tmps).run P w = .ok (.tuple #[.agg cs.toArray, .agg cs'.toArray, v]) w := by
  have hl := load_res hB hu hd hi hn
  have hl' := load_res hB' hu hd hi hn'
  subst hv
  rw [Array.getD_eq_getD_getElem?] at hp hp'
  simp [results, h, hp, hp', asAddr, Sem.run_bind, hl, hl']
end
end Go.Proofs.YtkgpeddncpdjjaaDoor
