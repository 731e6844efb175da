/- More operations. Plain theorems; no condition. -/
import Derived.Test.YtfookachkcgdpaaDoorInstE
import Derived.Test.YtfookachkcgdpaaDoorDa
set_option linter.unusedVariables false
set_option linter.unusedSimpArgs false
namespace Go.Proofs.YtfookachkcgdpaaDoor
open Go.RowKit
section
variable {P : Program} {h : GH} {M : Blks} {l : Fr} {d : Option Nat} {ty xt yt : TypeId} {pos : String} {aft : Array Edge} {g : Option (Nat × Bool)} {x y : Operand} {k : IntKind} {m q : Int}
theorem NOp.eqlT (hx : lko l x = some (.int k m)) (hy : lko l y = some (.int k q)) (e : m = q) : NOp P h M l ⟨d, .binOp .eql xt x y yt, ty, pos, aft, g⟩ (.bool true) := by
  have := NOp.eql (P := P) (h := h) (M := M) (d := d) (ty := ty) (pos := pos) (aft := aft) (g := g) (xt := xt) (yt := yt) hx hy
  rwa [decide_eq_true e] at this
theorem NOp.eqlF (hx : lko l x = some (.int k m)) (hy : lko l y = some (.int k q)) (e : ¬ m = q) : NOp P h M l ⟨d, .binOp .eql xt x y yt, ty, pos, aft, g⟩ (.bool false) := by
  have := NOp.eql (P := P) (h := h) (M := M) (d := d) (ty := ty) (pos := pos) (aft := aft) (g := g) (xt := xt) (yt := yt) hx hy
  rwa [decide_eq_false e] at this
theorem NOp.lssT (hx : lko l x = some (.int k m)) (hy : lko l y = some (.int k q)) (e : (m < q)) : NOp P h M l ⟨d, .binOp .lss xt x y yt, ty, pos, aft, g⟩ (.bool true) := by
  have := NOp.lss (P := P) (h := h) (M := M) (d := d) (ty := ty) (pos := pos) (aft := aft) (g := g) (xt := xt) (yt := yt) hx hy
  rwa [decide_eq_true e] at this
theorem NOp.lssF (hx : lko l x = some (.int k m)) (hy : lko l y = some (.int k q)) (e : ¬ (m < q)) : NOp P h M l ⟨d, .binOp .lss xt x y yt, ty, pos, aft, g⟩ (.bool false) := by
  have := NOp.lss (P := P) (h := h) (M := M) (d := d) (ty := ty) (pos := pos) (aft := aft) (g := g) (xt := xt) (yt := yt) hx hy
  rwa [decide_eq_false e] at this
theorem NOp.leqT (hx : lko l x = some (.int k m)) (hy : lko l y = some (.int k q)) (e : (m ≤ q)) : NOp P h M l ⟨d, .binOp .leq xt x y yt, ty, pos, aft, g⟩ (.bool true) := by
  have := NOp.leq (P := P) (h := h) (M := M) (d := d) (ty := ty) (pos := pos) (aft := aft) (g := g) (xt := xt) (yt := yt) hx hy
  rwa [decide_eq_true e] at this
theorem NOp.leqF (hx : lko l x = some (.int k m)) (hy : lko l y = some (.int k q)) (e : ¬ (m ≤ q)) : NOp P h M l ⟨d, .binOp .leq xt x y yt, ty, pos, aft, g⟩ (.bool false) := by
  have := NOp.leq (P := P) (h := h) (M := M) (d := d) (ty := ty) (pos := pos) (aft := aft) (g := g) (xt := xt) (yt := yt) hx hy
  rwa [decide_eq_false e] at this
theorem NOp.gtrT (hx : lko l x = some (.int k m)) (hy : lko l y = some (.int k q)) (e : (q < m)) : NOp P h M l ⟨d, .binOp .gtr xt x y yt, ty, pos, aft, g⟩ (.bool true) := by
  have := NOp.gtr (P := P) (h := h) (M := M) (d := d) (ty := ty) (pos := pos) (aft := aft) (g := g) (xt := xt) (yt := yt) hx hy
  rwa [decide_eq_true e] at this
theorem NOp.gtrF (hx : lko l x = some (.int k m)) (hy : lko l y = some (.int k q)) (e : ¬ (q < m)) : NOp P h M l ⟨d, .binOp .gtr xt x y yt, ty, pos, aft, g⟩ (.bool false) := by
  have := NOp.gtr (P := P) (h := h) (M := M) (d := d) (ty := ty) (pos := pos) (aft := aft) (g := g) (xt := xt) (yt := yt) hx hy
  rwa [decide_eq_false e] at this
theorem NOp.geqT (hx : lko l x = some (.int k m)) (hy : lko l y = some (.int k q)) (e : (q ≤ m)) : NOp P h M l ⟨d, .binOp .geq xt x y yt, ty, pos, aft, g⟩ (.bool true) := by
  have := NOp.geq (P := P) (h := h) (M := M) (d := d) (ty := ty) (pos := pos) (aft := aft) (g := g) (xt := xt) (yt := yt) hx hy
  rwa [decide_eq_true e] at this
theorem NOp.geqF (hx : lko l x = some (.int k m)) (hy : lko l y = some (.int k q)) (e : ¬ (q ≤ m)) : NOp P h M l ⟨d, .binOp .geq xt x y yt, ty, pos, aft, g⟩ (.bool false) := by
  have := NOp.geq (P := P) (h := h) (M := M) (d := d) (ty := ty) (pos := pos) (aft := aft) (g := g) (xt := xt) (yt := yt) hx hy
  rwa [decide_eq_false e] at this
theorem run_equalInB {a b : Bool} {s1 : Nat} {z1 : Value} {a1 : Bool} [TI P xt .bool s1 z1 a1] (w : World) (d : Nat) : (Op.equalIn (d + 1) xt (.bool a) (.bool b)).run P w = .ok (a == b) w := by
  simp [Op.equalIn, run_underlying (TI.und (P := P) (t := xt))]
theorem run_equalB {a b : Bool} {s1 : Nat} {z1 : Value} {a1 : Bool} [TI P xt .bool s1 z1 a1] (w : World) : (Op.equal xt (.bool a) (.bool b)).run P w = .ok (a == b) w := run_equalInB w 9999
theorem NOp.eqlB {a b : Bool} {s1 : Nat} {z1 : Value} {a1 : Bool} [TI P xt .bool s1 z1 a1] (hx : lko l x = some (.bool a)) (hy : lko l y = some (.bool b)) : NOp P h M l ⟨d, .binOp .eql xt x y yt, ty, pos, aft, g⟩ (.bool (a == b)) :=
  NOp.bin hx hy fun w => by simp [eqGuard, binOp, run_equalB]
theorem NOp.neqB {a b : Bool} {s1 : Nat} {z1 : Value} {a1 : Bool} [TI P xt .bool s1 z1 a1] (hx : lko l x = some (.bool a)) (hy : lko l y = some (.bool b)) : NOp P h M l ⟨d, .binOp .neq xt x y yt, ty, pos, aft, g⟩ (.bool (!(a == b))) :=
  NOp.bin hx hy fun w => by simp [eqGuard, binOp, run_equalB]
end
section
variable {P : Program} {nn : Nat} {E : Env} {Q : Exit → Act → World → Prop} {l l' : Fr} {h : GH} {M : Blks} {ops : Array Oper} {T : Tb} {rest : List Oper} {S : List (Blks → GH → Prop)} {p : Nat} {cs : List Nat} {i0 k0 : Nat} {φ : Tb → Prop}
variable {d : Option Tmp} {ty : TypeId} {pos : String} {aft : Array Edge} {g : Option (Nat × Bool)}
theorem SL.isIdx {t : TypeId} {x i : Operand} (k : SL P nn E ops Q (⟨d, .indexAddr t x i, ty, pos, aft, g⟩ :: rest) l h M) : SL P nn E ops Q (⟨d, .indexAddr t x i, ty, pos, aft, g⟩ :: rest) l h M := k
theorem TK.isIdx {t : TypeId} {x i : Operand} (k : TK P M S h l ops p cs i0 k0 (⟨d, .indexAddr t x i, ty, pos, aft, g⟩ :: rest) T φ) : TK P M S h l ops p cs i0 k0 (⟨d, .indexAddr t x i, ty, pos, aft, g⟩ :: rest) T φ := k
theorem SL.isUn {u : UnOp} {t : TypeId} {x : Operand} (k : SL P nn E ops Q (⟨d, .unOp u t x, ty, pos, aft, g⟩ :: rest) l h M) : SL P nn E ops Q (⟨d, .unOp u t x, ty, pos, aft, g⟩ :: rest) l h M := k
theorem TK.isUn {u : UnOp} {t : TypeId} {x : Operand} (k : TK P M S h l ops p cs i0 k0 (⟨d, .unOp u t x, ty, pos, aft, g⟩ :: rest) T φ) : TK P M S h l ops p cs i0 k0 (⟨d, .unOp u t x, ty, pos, aft, g⟩ :: rest) T φ := k
theorem SL.isConv {t u : TypeId} {x : Operand} (k : SL P nn E ops Q (⟨d, .convert t u x, ty, pos, aft, g⟩ :: rest) l h M) : SL P nn E ops Q (⟨d, .convert t u x, ty, pos, aft, g⟩ :: rest) l h M := k
theorem TK.isConv {t u : TypeId} {x : Operand} (k : TK P M S h l ops p cs i0 k0 (⟨d, .convert t u x, ty, pos, aft, g⟩ :: rest) T φ) : TK P M S h l ops p cs i0 k0 (⟨d, .convert t u x, ty, pos, aft, g⟩ :: rest) T φ := k
theorem SL.isSlice {t : TypeId} {x : Operand} {a b c : Option Operand} (k : SL P nn E ops Q (⟨d, .slice t x a b c, ty, pos, aft, g⟩ :: rest) l h M) : SL P nn E ops Q (⟨d, .slice t x a b c, ty, pos, aft, g⟩ :: rest) l h M := k
theorem TK.isSlice {t : TypeId} {x : Operand} {a b c : Option Operand} (k : TK P M S h l ops p cs i0 k0 (⟨d, .slice t x a b c, ty, pos, aft, g⟩ :: rest) T φ) : TK P M S h l ops p cs i0 k0 (⟨d, .slice t x a b c, ty, pos, aft, g⟩ :: rest) T φ := k
theorem SL.isField {t : TypeId} {x : Operand} {i : Nat} (k : SL P nn E ops Q (⟨d, .field t x i, ty, pos, aft, g⟩ :: rest) l h M) : SL P nn E ops Q (⟨d, .field t x i, ty, pos, aft, g⟩ :: rest) l h M := k
theorem TK.isField {t : TypeId} {x : Operand} {i : Nat} (k : TK P M S h l ops p cs i0 k0 (⟨d, .field t x i, ty, pos, aft, g⟩ :: rest) T φ) : TK P M S h l ops p cs i0 k0 (⟨d, .field t x i, ty, pos, aft, g⟩ :: rest) T φ := k
theorem SL.isIndex {t : TypeId} {x i : Operand} (k : SL P nn E ops Q (⟨d, .index t x i, ty, pos, aft, g⟩ :: rest) l h M) : SL P nn E ops Q (⟨d, .index t x i, ty, pos, aft, g⟩ :: rest) l h M := k
theorem TK.isIndex {t : TypeId} {x i : Operand} (k : TK P M S h l ops p cs i0 k0 (⟨d, .index t x i, ty, pos, aft, g⟩ :: rest) T φ) : TK P M S h l ops p cs i0 k0 (⟨d, .index t x i, ty, pos, aft, g⟩ :: rest) T φ := k
theorem SL.isLook {t : TypeId} {x i : Operand} {b : Bool} (k : SL P nn E ops Q (⟨d, .lookup t x i b, ty, pos, aft, g⟩ :: rest) l h M) : SL P nn E ops Q (⟨d, .lookup t x i b, ty, pos, aft, g⟩ :: rest) l h M := k
theorem TK.isLook {t : TypeId} {x i : Operand} {b : Bool} (k : TK P M S h l ops p cs i0 k0 (⟨d, .lookup t x i b, ty, pos, aft, g⟩ :: rest) T φ) : TK P M S h l ops p cs i0 k0 (⟨d, .lookup t x i b, ty, pos, aft, g⟩ :: rest) T φ := k
theorem SL.isMkMap {t : TypeId} {x : Option Operand} (k : SL P nn E ops Q (⟨d, .makeMap t x, ty, pos, aft, g⟩ :: rest) l h M) : SL P nn E ops Q (⟨d, .makeMap t x, ty, pos, aft, g⟩ :: rest) l h M := k
theorem TK.isMkMap {t : TypeId} {x : Option Operand} (k : TK P M S h l ops p cs i0 k0 (⟨d, .makeMap t x, ty, pos, aft, g⟩ :: rest) T φ) : TK P M S h l ops p cs i0 k0 (⟨d, .makeMap t x, ty, pos, aft, g⟩ :: rest) T φ := k
theorem SL.isIns {t : TypeId} {x y z : Operand} (k : SL P nn E ops Q (⟨d, .insert t x y z, ty, pos, aft, g⟩ :: rest) l h M) : SL P nn E ops Q (⟨d, .insert t x y z, ty, pos, aft, g⟩ :: rest) l h M := k
theorem TK.isIns {t : TypeId} {x y z : Operand} (k : TK P M S h l ops p cs i0 k0 (⟨d, .insert t x y z, ty, pos, aft, g⟩ :: rest) T φ) : TK P M S h l ops p cs i0 k0 (⟨d, .insert t x y z, ty, pos, aft, g⟩ :: rest) T φ := k
theorem SL.isMkSlice {t : TypeId} {x y : Operand} (k : SL P nn E ops Q (⟨d, .makeSlice t x y, ty, pos, aft, g⟩ :: rest) l h M) : SL P nn E ops Q (⟨d, .makeSlice t x y, ty, pos, aft, g⟩ :: rest) l h M := k
theorem TK.isMkSlice {t : TypeId} {x y : Operand} (k : TK P M S h l ops p cs i0 k0 (⟨d, .makeSlice t x y, ty, pos, aft, g⟩ :: rest) T φ) : TK P M S h l ops p cs i0 k0 (⟨d, .makeSlice t x y, ty, pos, aft, g⟩ :: rest) T φ := k
theorem SL.isMkFunc {f : Go.Fn} {x y : Array Operand} (k : SL P nn E ops Q (⟨d, .makeFunc f x y, ty, pos, aft, g⟩ :: rest) l h M) : SL P nn E ops Q (⟨d, .makeFunc f x y, ty, pos, aft, g⟩ :: rest) l h M := k
theorem TK.isMkFunc {f : Go.Fn} {x y : Array Operand} (k : TK P M S h l ops p cs i0 k0 (⟨d, .makeFunc f x y, ty, pos, aft, g⟩ :: rest) T φ) : TK P M S h l ops p cs i0 k0 (⟨d, .makeFunc f x y, ty, pos, aft, g⟩ :: rest) T φ := k
theorem SL.isBuild {t : TypeId} {x : Array (Nat × Operand)} (k : SL P nn E ops Q (⟨d, .build t x, ty, pos, aft, g⟩ :: rest) l h M) : SL P nn E ops Q (⟨d, .build t x, ty, pos, aft, g⟩ :: rest) l h M := k
theorem TK.isBuild {t : TypeId} {x : Array (Nat × Operand)} (k : TK P M S h l ops p cs i0 k0 (⟨d, .build t x, ty, pos, aft, g⟩ :: rest) T φ) : TK P M S h l ops p cs i0 k0 (⟨d, .build t x, ty, pos, aft, g⟩ :: rest) T φ := k
theorem SL.isLit {t : TypeId} {n : Nat} {x : Array (Nat × Operand)} (k : SL P nn E ops Q (⟨d, .buildSlice t n x, ty, pos, aft, g⟩ :: rest) l h M) : SL P nn E ops Q (⟨d, .buildSlice t n x, ty, pos, aft, g⟩ :: rest) l h M := k
theorem TK.isLit {t : TypeId} {n : Nat} {x : Array (Nat × Operand)} (k : TK P M S h l ops p cs i0 k0 (⟨d, .buildSlice t n x, ty, pos, aft, g⟩ :: rest) T φ) : TK P M S h l ops p cs i0 k0 (⟨d, .buildSlice t n x, ty, pos, aft, g⟩ :: rest) T φ := k
theorem SL.isMkIf {t : TypeId} {x : Operand} (k : SL P nn E ops Q (⟨d, .makeInterface t x, ty, pos, aft, g⟩ :: rest) l h M) : SL P nn E ops Q (⟨d, .makeInterface t x, ty, pos, aft, g⟩ :: rest) l h M := k
theorem TK.isMkIf {t : TypeId} {x : Operand} (k : TK P M S h l ops p cs i0 k0 (⟨d, .makeInterface t x, ty, pos, aft, g⟩ :: rest) T φ) : TK P M S h l ops p cs i0 k0 (⟨d, .makeInterface t x, ty, pos, aft, g⟩ :: rest) T φ := k
theorem SL.isPick {x y z : Operand} (k : SL P nn E ops Q (⟨d, .pick x y z, ty, pos, aft, g⟩ :: rest) l h M) : SL P nn E ops Q (⟨d, .pick x y z, ty, pos, aft, g⟩ :: rest) l h M := k
theorem TK.isPick {x y z : Operand} (k : TK P M S h l ops p cs i0 k0 (⟨d, .pick x y z, ty, pos, aft, g⟩ :: rest) T φ) : TK P M S h l ops p cs i0 k0 (⟨d, .pick x y z, ty, pos, aft, g⟩ :: rest) T φ := k
theorem SL.isExt {x : Operand} {i : Nat} (k : SL P nn E ops Q (⟨d, .extract x i, ty, pos, aft, g⟩ :: rest) l h M) : SL P nn E ops Q (⟨d, .extract x i, ty, pos, aft, g⟩ :: rest) l h M := k
theorem TK.isExt {x : Operand} {i : Nat} (k : TK P M S h l ops p cs i0 k0 (⟨d, .extract x i, ty, pos, aft, g⟩ :: rest) T φ) : TK P M S h l ops p cs i0 k0 (⟨d, .extract x i, ty, pos, aft, g⟩ :: rest) T φ := k
theorem SL.isRange {t : TypeId} {x : Operand} (k : SL P nn E ops Q (⟨d, .range t x, ty, pos, aft, g⟩ :: rest) l h M) : SL P nn E ops Q (⟨d, .range t x, ty, pos, aft, g⟩ :: rest) l h M := k
theorem TK.isRange {t : TypeId} {x : Operand} (k : TK P M S h l ops p cs i0 k0 (⟨d, .range t x, ty, pos, aft, g⟩ :: rest) T φ) : TK P M S h l ops p cs i0 k0 (⟨d, .range t x, ty, pos, aft, g⟩ :: rest) T φ := k
theorem SL.isCallF (f : Nat) {xs : Array Operand} {ts : Array TypeId} (k : SL P nn E ops Q (⟨d, .call { callee := .value (.func f), args := xs, argTypes := ts }, ty, pos, aft, g⟩ :: rest) l h M) : SL P nn E ops Q (⟨d, .call { callee := .value (.func f), args := xs, argTypes := ts }, ty, pos, aft, g⟩ :: rest) l h M := k
theorem TK.isCallF (f : Nat) {xs : Array Operand} {ts : Array TypeId} (k : TK P M S h l ops p cs i0 k0 (⟨d, .call { callee := .value (.func f), args := xs, argTypes := ts }, ty, pos, aft, g⟩ :: rest) T φ) : TK P M S h l ops p cs i0 k0 (⟨d, .call { callee := .value (.func f), args := xs, argTypes := ts }, ty, pos, aft, g⟩ :: rest) T φ := k
theorem SL.isBi {b : Builtin} {xs : Array Operand} {ts : Array TypeId} (k : SL P nn E ops Q (⟨d, .call { callee := .builtin b, args := xs, argTypes := ts }, ty, pos, aft, g⟩ :: rest) l h M) : SL P nn E ops Q (⟨d, .call { callee := .builtin b, args := xs, argTypes := ts }, ty, pos, aft, g⟩ :: rest) l h M := k
theorem TK.isBi {b : Builtin} {xs : Array Operand} {ts : Array TypeId} (k : TK P M S h l ops p cs i0 k0 (⟨d, .call { callee := .builtin b, args := xs, argTypes := ts }, ty, pos, aft, g⟩ :: rest) T φ) : TK P M S h l ops p cs i0 k0 (⟨d, .call { callee := .builtin b, args := xs, argTypes := ts }, ty, pos, aft, g⟩ :: rest) T φ := k
theorem TX.isIdx {t : TypeId} {x i : Operand} (k : TX P M S h l ops cs i0 k0 (⟨d, .indexAddr t x i, ty, pos, aft, g⟩ :: rest) T φ) : TX P M S h l ops cs i0 k0 (⟨d, .indexAddr t x i, ty, pos, aft, g⟩ :: rest) T φ := k
theorem TX.isUn {u : UnOp} {t : TypeId} {x : Operand} (k : TX P M S h l ops cs i0 k0 (⟨d, .unOp u t x, ty, pos, aft, g⟩ :: rest) T φ) : TX P M S h l ops cs i0 k0 (⟨d, .unOp u t x, ty, pos, aft, g⟩ :: rest) T φ := k
theorem TX.isConv {t u : TypeId} {x : Operand} (k : TX P M S h l ops cs i0 k0 (⟨d, .convert t u x, ty, pos, aft, g⟩ :: rest) T φ) : TX P M S h l ops cs i0 k0 (⟨d, .convert t u x, ty, pos, aft, g⟩ :: rest) T φ := k
theorem TX.isSlice {t : TypeId} {x : Operand} {a b c : Option Operand} (k : TX P M S h l ops cs i0 k0 (⟨d, .slice t x a b c, ty, pos, aft, g⟩ :: rest) T φ) : TX P M S h l ops cs i0 k0 (⟨d, .slice t x a b c, ty, pos, aft, g⟩ :: rest) T φ := k
theorem TX.isField {t : TypeId} {x : Operand} {i : Nat} (k : TX P M S h l ops cs i0 k0 (⟨d, .field t x i, ty, pos, aft, g⟩ :: rest) T φ) : TX P M S h l ops cs i0 k0 (⟨d, .field t x i, ty, pos, aft, g⟩ :: rest) T φ := k
theorem TX.isIndex {t : TypeId} {x i : Operand} (k : TX P M S h l ops cs i0 k0 (⟨d, .index t x i, ty, pos, aft, g⟩ :: rest) T φ) : TX P M S h l ops cs i0 k0 (⟨d, .index t x i, ty, pos, aft, g⟩ :: rest) T φ := k
theorem TX.isLook {t : TypeId} {x i : Operand} {b : Bool} (k : TX P M S h l ops cs i0 k0 (⟨d, .lookup t x i b, ty, pos, aft, g⟩ :: rest) T φ) : TX P M S h l ops cs i0 k0 (⟨d, .lookup t x i b, ty, pos, aft, g⟩ :: rest) T φ := k
theorem TX.isMkMap {t : TypeId} {x : Option Operand} (k : TX P M S h l ops cs i0 k0 (⟨d, .makeMap t x, ty, pos, aft, g⟩ :: rest) T φ) : TX P M S h l ops cs i0 k0 (⟨d, .makeMap t x, ty, pos, aft, g⟩ :: rest) T φ := k
theorem TX.isIns {t : TypeId} {x y z : Operand} (k : TX P M S h l ops cs i0 k0 (⟨d, .insert t x y z, ty, pos, aft, g⟩ :: rest) T φ) : TX P M S h l ops cs i0 k0 (⟨d, .insert t x y z, ty, pos, aft, g⟩ :: rest) T φ := k
theorem TX.isMkSlice {t : TypeId} {x y : Operand} (k : TX P M S h l ops cs i0 k0 (⟨d, .makeSlice t x y, ty, pos, aft, g⟩ :: rest) T φ) : TX P M S h l ops cs i0 k0 (⟨d, .makeSlice t x y, ty, pos, aft, g⟩ :: rest) T φ := k
theorem TX.isMkFunc {f : Go.Fn} {x y : Array Operand} (k : TX P M S h l ops cs i0 k0 (⟨d, .makeFunc f x y, ty, pos, aft, g⟩ :: rest) T φ) : TX P M S h l ops cs i0 k0 (⟨d, .makeFunc f x y, ty, pos, aft, g⟩ :: rest) T φ := k
theorem TX.isBuild {t : TypeId} {x : Array (Nat × Operand)} (k : TX P M S h l ops cs i0 k0 (⟨d, .build t x, ty, pos, aft, g⟩ :: rest) T φ) : TX P M S h l ops cs i0 k0 (⟨d, .build t x, ty, pos, aft, g⟩ :: rest) T φ := k
theorem TX.isLit {t : TypeId} {n : Nat} {x : Array (Nat × Operand)} (k : TX P M S h l ops cs i0 k0 (⟨d, .buildSlice t n x, ty, pos, aft, g⟩ :: rest) T φ) : TX P M S h l ops cs i0 k0 (⟨d, .buildSlice t n x, ty, pos, aft, g⟩ :: rest) T φ := k
theorem TX.isMkIf {t : TypeId} {x : Operand} (k : TX P M S h l ops cs i0 k0 (⟨d, .makeInterface t x, ty, pos, aft, g⟩ :: rest) T φ) : TX P M S h l ops cs i0 k0 (⟨d, .makeInterface t x, ty, pos, aft, g⟩ :: rest) T φ := k
theorem TX.isPick {x y z : Operand} (k : TX P M S h l ops cs i0 k0 (⟨d, .pick x y z, ty, pos, aft, g⟩ :: rest) T φ) : TX P M S h l ops cs i0 k0 (⟨d, .pick x y z, ty, pos, aft, g⟩ :: rest) T φ := k
theorem TX.isExt {x : Operand} {i : Nat} (k : TX P M S h l ops cs i0 k0 (⟨d, .extract x i, ty, pos, aft, g⟩ :: rest) T φ) : TX P M S h l ops cs i0 k0 (⟨d, .extract x i, ty, pos, aft, g⟩ :: rest) T φ := k
theorem TX.isRange {t : TypeId} {x : Operand} (k : TX P M S h l ops cs i0 k0 (⟨d, .range t x, ty, pos, aft, g⟩ :: rest) T φ) : TX P M S h l ops cs i0 k0 (⟨d, .range t x, ty, pos, aft, g⟩ :: rest) T φ := k
theorem TX.isCallF (f : Nat) {xs : Array Operand} {ts : Array TypeId} (k : TX P M S h l ops cs i0 k0 (⟨d, .call { callee := .value (.func f), args := xs, argTypes := ts }, ty, pos, aft, g⟩ :: rest) T φ) : TX P M S h l ops cs i0 k0 (⟨d, .call { callee := .value (.func f), args := xs, argTypes := ts }, ty, pos, aft, g⟩ :: rest) T φ := k
theorem TX.isBi {b : Builtin} {xs : Array Operand} {ts : Array TypeId} (k : TX P M S h l ops cs i0 k0 (⟨d, .call { callee := .builtin b, args := xs, argTypes := ts }, ty, pos, aft, g⟩ :: rest) T φ) : TX P M S h l ops cs i0 k0 (⟨d, .call { callee := .builtin b, args := xs, argTypes := ts }, ty, pos, aft, g⟩ :: rest) T φ := k
theorem TX.isBin {op : BinOp} {x y : Operand} {xt yt : TypeId} (k : TX P M S h l ops cs i0 k0 (⟨d, .binOp op xt x y yt, ty, pos, aft, g⟩ :: rest) T φ) : TX P M S h l ops cs i0 k0 (⟨d, .binOp op xt x y yt, ty, pos, aft, g⟩ :: rest) T φ := k
theorem TX.isLd {t : TypeId} {x : Operand} (k : TX P M S h l ops cs i0 k0 (⟨d, .load t x, ty, pos, aft, g⟩ :: rest) T φ) : TX P M S h l ops cs i0 k0 (⟨d, .load t x, ty, pos, aft, g⟩ :: rest) T φ := k
theorem TX.isTa {x : Operand} {t u : TypeId} {b : Bool} (k : TX P M S h l ops cs i0 k0 (⟨d, .typeAssert x t u b, ty, pos, aft, g⟩ :: rest) T φ) : TX P M S h l ops cs i0 k0 (⟨d, .typeAssert x t u b, ty, pos, aft, g⟩ :: rest) T φ := k
theorem TX.isCall {c : Call} (k : TX P M S h l ops cs i0 k0 (⟨d, .call c, ty, pos, aft, g⟩ :: rest) T φ) : TX P M S h l ops cs i0 k0 (⟨d, .call c, ty, pos, aft, g⟩ :: rest) T φ := k
theorem TX.isAt (j : Nat) (k : TX P M S h l ops cs j k0 rest T φ) : TX P M S h l ops cs j k0 rest T φ := k
end
end Go.Proofs.YtfookachkcgdpaaDoor
/- Results in a cell; operations of a region that draws of which a predicate is said. Plain theorems; no condition. -/
set_option linter.unusedVariables false
set_option linter.unusedSimpArgs false
namespace Go.Proofs.YtfookachkcgdpaaDoor
open Go.RowKit
section
variable {P : Program} {nn : Nat} {E : Env} {Q : Exit → Act → World → Prop} {l l' : Fr} {h : GH} {M : Blks} {ops : Array Oper} {T : Tb}
variable {d : Option Tmp} {ty : TypeId} {pos : String} {aft : Array Edge} {g : Option (Nat × Bool)} {op : Op}
theorem Qs.retC {fn : Func} {t : Nat} {ct : TypeId} {b off : Nat} {xs vs : List Value} {e : TypeId} {dsc : TypeDesc} {sz : Nat} {z : Value} [TI P ct dsc sz z true] {post : Value → GH → Blks → Prop} (i : Nat) (hr : fn.results = #[.cell t ct]) (hx : lk l t = some (.pointer (some ⟨b, off, none⟩))) (hM : nth? M i = some (b, cel xs e))
    (hv : takeL xs off sz = some vs) (R : Blks) (hs : R.Sublist M) (hp : post (.agg vs.toArray) h R) :
    Qs nn E (bodyPost P fn (Post E post)) .ret l h M := fun a w ha hi => by
  obtain ⟨h1, h2⟩ := takeL_get hv
  have hl := load_many (P := P) (t := ct) (w := w) (b := b) (off := off) h1 (fun j v hj => by
    have hlt : j < sz := by rw [← h1]; exact (List.getElem?_eq_some_iff.1 hj).1
    exact cell_owned hi.good (nth_mem hM) (by simpa using (h2 j hlt).trans hj))
  have h3 : (results fn a.tmps).run P w = .ok (.agg vs.toArray) w := by
    have e1 := ha.ev t _ hx
    simp only [Instr.loadAt, Instr.sureAddr, Sem.run_bind, Sem.run_pure, Result.andThen_ok] at hl
    simp [results, hr, Array.getD_eq_getD_getElem?, e1, asAddr, hl]
  exact ⟨ha.defers, _, h3, _, h, R, rfl, hi.sublist hs, hp⟩
theorem Ob.nP {v : Value} {R : Value → GH → Prop} (hs : selL T l (Oper.looksAt ops ⟨d, op, ty, pos, aft, none⟩) = some l') (hv : NOp P h M l' ⟨d, op, ty, pos, aft, none⟩ v) (hR : R v h) : Ob P M h l ops T ⟨d, op, ty, pos, aft, none⟩ (.q R) := by
  intro a w h' D hle hg hf K Q k
  rw [wanted_none, if_pos rfl]
  unfold Oper.wp
  rw [hv a w h' hle hg.left (selL_ev hs hf)]
  exact k v w h' hg (Step.refl _ _ _) ⟨h, hle, hR⟩
theorem Ob.litP {t e : TypeId} {len sz : Nat} {d2 : TypeDesc} {s1 : Nat} {z1 z : Value} {a1 ag : Bool} {parts : List (Nat × Operand)} {vs : List (Nat × Value)} {cs : List (Nat × List Value)} {r zs : List Value} {R : Value → GH → Prop} [TI P t (.slice e) s1 z1 a1] [TI P e d2 sz z ag]
    (hs : selL T l (Oper.looksAt ops ⟨d, .buildSlice t len parts.toArray, ty, pos, aft, none⟩) = some l') (hp : lkps l' parts = some vs) (hc : CellsL vs cs) (hz : cellsL z = some zs) (hsz : lenIs zs sz = true) (hs0 : Nat.blt 0 (len * sz) = true) (hbig : Nat.ble (len * sz) 16777216 = true)
    (hf : fillL (plS sz 0 len) (zerosL zs len) cs = some r) (hR : ∀ b h2, GH.le h h2 → h2 b = some (cel r e) → R (.slice (some ⟨b, 0, none⟩) len len) h2) : Ob P M h l ops T ⟨d, .buildSlice t len parts.toArray, ty, pos, aft, none⟩ (.q R) := by
  intro a w h' D hle hg hfi K Q k
  rw [wanted_none, if_pos rfl]
  have hev := selL_ev hs hfi
  have hrun := run_buildSlice (P := P) (t := t) (e := e) hc hz hsz hs0 hbig hf w
  unfold Oper.wp
  simp only [execOp, List.map_toArray, hev.evalps hp, Sem.run_bind]
  rw [hrun]
  simp only [Result.andThen_ok, Sem.run_pure]
  obtain ⟨h2, hat, hg2, hs2⟩ := hg.newKnown (cel r e)
  exact k _ _ h2 hg2 hs2 ⟨h2, GH.le.refl _, hR _ _ (hle.trans hs2.le) hat⟩
/-- A region that draws, in which nothing else is written, of some of whose values a predicate is said. -/
theorem St.drawQ {id : Nat} {os : List Oper} (p : Nat) (W : List Nat) [Mixed P] (hp : Nat.ble p os.length = true) (h1 : okAll os.toArray 0 os = true) (h2 : okBehind os.toArray p 0 os [] = true) (h3 : smallDst nn os = true) (hc : noClash l W os = true)
    (t : TK P M [fun D _ => D = []] h l os.toArray p [] 0 0 os [] (fun T' => ∀ h', GH.le h h' → FinT T' l h' W (fun lf => SQ P nn E Q os.toArray lf h' (stsOf os) M))) : St P nn E (.region id os.toArray true) Q l h M := by
  refine St.drawG' (M1 := M) (D0 := []) p W [] [fun D _ => D = []] hp h1 h2 h3 rfl hc (List.append_nil _).symm ⟨_, h, rfl, GH.le.refl _, rfl⟩ ?_
  obtain ⟨T', h4, h5⟩ := t
  refine ⟨T', h4, fun h' D hle hS => ?_⟩
  obtain ⟨R, h6, hR, _, hD⟩ := hS
  obtain rfl := Option.some.inj hR
  have hD' : D = [] := hD
  subst hD'
  rw [List.append_nil]
  exact h5 h' hle
end
end Go.Proofs.YtfookachkcgdpaaDoor
/- Guards for the table of the text ahead. Plain theorems; no condition. -/
set_option linter.unusedVariables false
namespace Go.Proofs.YtfookachkcgdpaaDoor
open Go.RowKit
section
variable {P : Program} {nn : Nat} {E : Env} {Q : Exit → Act → World → Prop} {l l' : Fr} {h : GH} {M : Blks} {ops : Array Oper} {T : Tb} {rest : List Oper} {S : Nat → List (Blks → GH → Prop)} {cs : List Nat} {V : Av} {i0 k0 : Nat} {φ : Tb → Prop}
variable {d : Option Tmp} {ty : TypeId} {pos : String} {aft : Array Edge} {g : Option (Nat × Bool)} {op : Op}
theorem TA.isAlloc {t : TypeId} (kk : TA P M S h l ops cs V i0 k0 (⟨d, .alloc t, ty, pos, aft, g⟩ :: rest) T φ) : TA P M S h l ops cs V i0 k0 (⟨d, .alloc t, ty, pos, aft, g⟩ :: rest) T φ := kk
theorem TA.isIdx {t : TypeId} {x i : Operand} (k : TA P M S h l ops cs V i0 k0 (⟨d, .indexAddr t x i, ty, pos, aft, g⟩ :: rest) T φ) : TA P M S h l ops cs V i0 k0 (⟨d, .indexAddr t x i, ty, pos, aft, g⟩ :: rest) T φ := k
theorem TA.isUn {u : UnOp} {t : TypeId} {x : Operand} (k : TA P M S h l ops cs V i0 k0 (⟨d, .unOp u t x, ty, pos, aft, g⟩ :: rest) T φ) : TA P M S h l ops cs V i0 k0 (⟨d, .unOp u t x, ty, pos, aft, g⟩ :: rest) T φ := k
theorem TA.isConv {t u : TypeId} {x : Operand} (k : TA P M S h l ops cs V i0 k0 (⟨d, .convert t u x, ty, pos, aft, g⟩ :: rest) T φ) : TA P M S h l ops cs V i0 k0 (⟨d, .convert t u x, ty, pos, aft, g⟩ :: rest) T φ := k
theorem TA.isSlice {t : TypeId} {x : Operand} {a b c : Option Operand} (k : TA P M S h l ops cs V i0 k0 (⟨d, .slice t x a b c, ty, pos, aft, g⟩ :: rest) T φ) : TA P M S h l ops cs V i0 k0 (⟨d, .slice t x a b c, ty, pos, aft, g⟩ :: rest) T φ := k
theorem TA.isField {t : TypeId} {x : Operand} {i : Nat} (k : TA P M S h l ops cs V i0 k0 (⟨d, .field t x i, ty, pos, aft, g⟩ :: rest) T φ) : TA P M S h l ops cs V i0 k0 (⟨d, .field t x i, ty, pos, aft, g⟩ :: rest) T φ := k
theorem TA.isIndex {t : TypeId} {x i : Operand} (k : TA P M S h l ops cs V i0 k0 (⟨d, .index t x i, ty, pos, aft, g⟩ :: rest) T φ) : TA P M S h l ops cs V i0 k0 (⟨d, .index t x i, ty, pos, aft, g⟩ :: rest) T φ := k
theorem TA.isLook {t : TypeId} {x i : Operand} {b : Bool} (k : TA P M S h l ops cs V i0 k0 (⟨d, .lookup t x i b, ty, pos, aft, g⟩ :: rest) T φ) : TA P M S h l ops cs V i0 k0 (⟨d, .lookup t x i b, ty, pos, aft, g⟩ :: rest) T φ := k
theorem TA.isMkMap {t : TypeId} {x : Option Operand} (k : TA P M S h l ops cs V i0 k0 (⟨d, .makeMap t x, ty, pos, aft, g⟩ :: rest) T φ) : TA P M S h l ops cs V i0 k0 (⟨d, .makeMap t x, ty, pos, aft, g⟩ :: rest) T φ := k
theorem TA.isIns {t : TypeId} {x y z : Operand} (k : TA P M S h l ops cs V i0 k0 (⟨d, .insert t x y z, ty, pos, aft, g⟩ :: rest) T φ) : TA P M S h l ops cs V i0 k0 (⟨d, .insert t x y z, ty, pos, aft, g⟩ :: rest) T φ := k
theorem TA.isMkSlice {t : TypeId} {x y : Operand} (k : TA P M S h l ops cs V i0 k0 (⟨d, .makeSlice t x y, ty, pos, aft, g⟩ :: rest) T φ) : TA P M S h l ops cs V i0 k0 (⟨d, .makeSlice t x y, ty, pos, aft, g⟩ :: rest) T φ := k
theorem TA.isMkFunc {f : Go.Fn} {x y : Array Operand} (k : TA P M S h l ops cs V i0 k0 (⟨d, .makeFunc f x y, ty, pos, aft, g⟩ :: rest) T φ) : TA P M S h l ops cs V i0 k0 (⟨d, .makeFunc f x y, ty, pos, aft, g⟩ :: rest) T φ := k
theorem TA.isBuild {t : TypeId} {x : Array (Nat × Operand)} (k : TA P M S h l ops cs V i0 k0 (⟨d, .build t x, ty, pos, aft, g⟩ :: rest) T φ) : TA P M S h l ops cs V i0 k0 (⟨d, .build t x, ty, pos, aft, g⟩ :: rest) T φ := k
theorem TA.isLit {t : TypeId} {n : Nat} {x : Array (Nat × Operand)} (k : TA P M S h l ops cs V i0 k0 (⟨d, .buildSlice t n x, ty, pos, aft, g⟩ :: rest) T φ) : TA P M S h l ops cs V i0 k0 (⟨d, .buildSlice t n x, ty, pos, aft, g⟩ :: rest) T φ := k
theorem TA.isMkIf {t : TypeId} {x : Operand} (k : TA P M S h l ops cs V i0 k0 (⟨d, .makeInterface t x, ty, pos, aft, g⟩ :: rest) T φ) : TA P M S h l ops cs V i0 k0 (⟨d, .makeInterface t x, ty, pos, aft, g⟩ :: rest) T φ := k
theorem TA.isPick {x y z : Operand} (k : TA P M S h l ops cs V i0 k0 (⟨d, .pick x y z, ty, pos, aft, g⟩ :: rest) T φ) : TA P M S h l ops cs V i0 k0 (⟨d, .pick x y z, ty, pos, aft, g⟩ :: rest) T φ := k
theorem TA.isExt {x : Operand} {i : Nat} (k : TA P M S h l ops cs V i0 k0 (⟨d, .extract x i, ty, pos, aft, g⟩ :: rest) T φ) : TA P M S h l ops cs V i0 k0 (⟨d, .extract x i, ty, pos, aft, g⟩ :: rest) T φ := k
theorem TA.isRange {t : TypeId} {x : Operand} (k : TA P M S h l ops cs V i0 k0 (⟨d, .range t x, ty, pos, aft, g⟩ :: rest) T φ) : TA P M S h l ops cs V i0 k0 (⟨d, .range t x, ty, pos, aft, g⟩ :: rest) T φ := k
theorem TA.isCallF (f : Nat) {xs : Array Operand} {ts : Array TypeId} (k : TA P M S h l ops cs V i0 k0 (⟨d, .call { callee := .value (.func f), args := xs, argTypes := ts }, ty, pos, aft, g⟩ :: rest) T φ) : TA P M S h l ops cs V i0 k0 (⟨d, .call { callee := .value (.func f), args := xs, argTypes := ts }, ty, pos, aft, g⟩ :: rest) T φ := k
theorem TA.isBi {b : Builtin} {xs : Array Operand} {ts : Array TypeId} (k : TA P M S h l ops cs V i0 k0 (⟨d, .call { callee := .builtin b, args := xs, argTypes := ts }, ty, pos, aft, g⟩ :: rest) T φ) : TA P M S h l ops cs V i0 k0 (⟨d, .call { callee := .builtin b, args := xs, argTypes := ts }, ty, pos, aft, g⟩ :: rest) T φ := k
theorem TA.isBin {op : BinOp} {x y : Operand} {xt yt : TypeId} (k : TA P M S h l ops cs V i0 k0 (⟨d, .binOp op xt x y yt, ty, pos, aft, g⟩ :: rest) T φ) : TA P M S h l ops cs V i0 k0 (⟨d, .binOp op xt x y yt, ty, pos, aft, g⟩ :: rest) T φ := k
theorem TA.isLd {t : TypeId} {x : Operand} (k : TA P M S h l ops cs V i0 k0 (⟨d, .load t x, ty, pos, aft, g⟩ :: rest) T φ) : TA P M S h l ops cs V i0 k0 (⟨d, .load t x, ty, pos, aft, g⟩ :: rest) T φ := k
theorem TA.isTa {x : Operand} {t u : TypeId} {b : Bool} (k : TA P M S h l ops cs V i0 k0 (⟨d, .typeAssert x t u b, ty, pos, aft, g⟩ :: rest) T φ) : TA P M S h l ops cs V i0 k0 (⟨d, .typeAssert x t u b, ty, pos, aft, g⟩ :: rest) T φ := k
theorem TA.isCall {c : Call} (k : TA P M S h l ops cs V i0 k0 (⟨d, .call c, ty, pos, aft, g⟩ :: rest) T φ) : TA P M S h l ops cs V i0 k0 (⟨d, .call c, ty, pos, aft, g⟩ :: rest) T φ := k
theorem TA.isAt (j : Nat) (k : TA P M S h l ops cs V j k0 rest T φ) : TA P M S h l ops cs V j k0 rest T φ := k
end
end Go.Proofs.YtfookachkcgdpaaDoor
