/- Contracts and numbers as trees, and as the values that the program holds. Plain theorems; no condition. -/
import Derived.Test.YtfookachkcgdpaaDoorZt
set_option linter.unusedVariables false
set_option linter.unusedSimpArgs false
set_option maxRecDepth 100000
namespace Go.Proofs.YtfookachkcgdpaaDoor
open Go.RowKit
attribute [local irreducible] St SL Qs NOp TK SQ RS Fn FnV FnP

def tms : List Nat := [76, 66, 78, 48, 80, 50, 82, 84, 64, 93, 54, 95, 96, 97]
def IsOdd (v : Value) : Prop := v = .nilIface ∨ ∃ t x, v = .iface t x ∧ ∀ A ∈ tms, Nat.beq t A = false
/-- Whatever stands where api has a contract or a number. z: Zero, o: One, g: Give, a: And, r: Or, s: Scale, w: When, i: If; c: Const, f: Fix, p: Add, n: Neg, m: Mul, x: Max; v: none of these. -/
inductive Tm where
  | z
  | o (s : ByteArray)
  | g (a : Tm)
  | a (l r : Tm)
  | r (s : ByteArray) (l r : Tm)
  | s (o t : Tm)
  | w (d : Int) (t : Tm)
  | i (o l r : Tm)
  | c (n : Int)
  | f (s : ByteArray)
  | p (l r : Tm)
  | n (o : Tm)
  | m (l r : Tm)
  | x (l r : Tm)
  | v (x : { v : Value // IsOdd v })
def enc : Tm → Value
  | .z => .iface 76 (.agg [].toArray)
  | .o s => .iface 66 (.agg [Value.string s].toArray)
  | .g a => .iface 78 (.agg [enc a].toArray)
  | .a l r => .iface 48 (.agg [enc l, enc r].toArray)
  | .r s l r => .iface 80 (.agg [Value.string s, enc l, enc r].toArray)
  | .s o t => .iface 50 (.agg [enc o, enc t].toArray)
  | .w d t => .iface 82 (.agg [Value.int .i64 d, enc t].toArray)
  | .i o l r => .iface 84 (.agg [enc o, enc l, enc r].toArray)
  | .c n => .iface 64 (.agg [Value.int .i64 n].toArray)
  | .f s => .iface 93 (.agg [Value.string s].toArray)
  | .p l r => .iface 54 (.agg [enc l, enc r].toArray)
  | .n o => .iface 95 (.agg [enc o].toArray)
  | .m l r => .iface 96 (.agg [enc l, enc r].toArray)
  | .x l r => .iface 97 (.agg [enc l, enc r].toArray)
  | .v x => x.1
theorem one_enc (t : Tm) : (enc t).oneCell' = true := by
  cases t with
  | v x => rcases x.2 with h | ⟨t, y, h, _⟩ <;> simp only [enc, h] <;> rfl
  | _ => rfl
theorem cells_enc (t : Tm) : cellsL (enc t) = some [enc t] := by
  cases t with
  | v x => rcases x.2 with h | ⟨t, y, h, _⟩ <;> simp only [enc, h] <;> rfl
  | _ => rfl
structure One (v : Value) : Prop where
  cells : cellsL v = some [v]
  one : v.oneCell' = true

/-! ### parts of a contract, of a number -/
def kids : Tm → List Tm
  | .g a => [a]
  | .a l r => [l, r]
  | .r _ l r => [l, r]
  | .s _ t => [t]
  | .w _ t => [t]
  | .i _ l r => [l, r]
  | _ => []
def okids : Tm → List Tm
  | .p l r => [l, r]
  | .m l r => [l, r]
  | .x l r => [l, r]
  | .n o => [o]
  | _ => []
theorem odd_ne {x : { v : Value // IsOdd v }} : x.1 = .nilIface ∨ ∃ t y, x.1 = .iface t y ∧ Nat.beq t 76 = false ∧ Nat.beq t 66 = false ∧ Nat.beq t 78 = false ∧ Nat.beq t 48 = false ∧ Nat.beq t 80 = false ∧
    Nat.beq t 50 = false ∧ Nat.beq t 82 = false ∧ Nat.beq t 84 = false ∧ Nat.beq t 64 = false ∧ Nat.beq t 93 = false ∧ Nat.beq t 54 = false ∧ Nat.beq t 95 = false ∧ Nat.beq t 96 = false ∧ Nat.beq t 97 = false := by
  rcases x.2 with h | ⟨t, y, h, k⟩
  · exact .inl h
  · exact .inr ⟨t, y, h, k _ (by decide), k _ (by decide), k _ (by decide), k _ (by decide), k _ (by decide), k _ (by decide), k _ (by decide), k _ (by decide), k _ (by decide), k _ (by decide), k _ (by decide), k _ (by decide), k _ (by decide), k _ (by decide)⟩

set_option maxHeartbeats 4000000 in
theorem Kids (h : GH) (t : Tm) : FnP Tryd.prog h 51 [enc t].toArray fun v h' => Sl h' v (kids t).length ((kids t).map enc) := by
  refine FnP.enter Tryd.func51 rfl rfl rfl rfl fun w hg => ?_
  cases t
  case v x =>
    rcases odd_ne (x := x) with e | ⟨t, y, e, h1, h2, h3, h4, h5, h6, h7, h8, h9, h10, h11, h12, h13, h14⟩
    all_goals
      simp only [enc, e, kids, List.map, List.length_cons, List.length_nil]
      repeat' (first | (refine SL.isSL ?_; first | (refine SL.isN ?_; first | refine SL.nA ?_ | refine SL.alloc rfl rfl (fun b => ?_) | refine SL.box rfl rfl rfl (fun b => ?_)) | (refine SL.isG ?_; first | refine SL.gF rfl rfl rfl ?_ | refine SL.gU rfl rfl rfl ?_ | refine SL.gA ?_) | (refine SL.isSt ?_; refine SL.stA ?_) | refine SL.nil ?_ | (refine SL.isG ?_; first | refine SL.gCase rfl rfl (fun e => ?_) (fun e => ?_) | refine SL.gCaseN rfl rfl (fun e => ?_) (fun e => ?_))) | (refine St.isSt ?_; first | refine St.seq ?_ | refine St.region ?_ | refine St.block ?_ | refine St.ret ?_ | refine St.skip ?_ | refine St.exit ?_ | refine St.condT rfl ?_ | refine St.condF rfl ?_ | refine St.condY rfl (by omega) ?_ | refine St.condZ rfl (by omega) ?_) | (refine Qs.isQs ?_; first | refine Qs.then_normal ?_ | refine Qs.then_rounds ?_ | refine Qs.then_ret ?_ | refine Qs.then_exit ?_ | refine Qs.block_normal ?_ | refine Qs.block_ret ?_ | refine Qs.block_here ?_ | refine Qs.block_other rfl ?_) | refine RS.step ?_)
      exact Qs.retP rfl rfl (Sl.nil _)
  all_goals
    simp only [enc, kids, List.map, List.length_cons, List.length_nil]
    repeat' (first | (refine SL.isSL ?_; first | (refine SL.isN ?_; first | refine SL.nA ?_ | refine SL.alloc rfl rfl (fun b => ?_) | refine SL.box rfl rfl rfl (fun b => ?_)) | (refine SL.isG ?_; first | refine SL.gF rfl rfl rfl ?_ | refine SL.gU rfl rfl rfl ?_ | refine SL.gA ?_) | (refine SL.isSt ?_; refine SL.stA ?_) | refine SL.nil ?_ | (refine SL.isG ?_; first | refine SL.gCase rfl rfl (fun e => ?_) (fun e => ?_) | refine SL.gCaseN rfl rfl (fun e => ?_) (fun e => ?_))) | (refine St.isSt ?_; first | refine St.seq ?_ | refine St.region ?_ | refine St.block ?_ | refine St.ret ?_ | refine St.skip ?_ | refine St.exit ?_ | refine St.condT rfl ?_ | refine St.condF rfl ?_ | refine St.condY rfl (by omega) ?_ | refine St.condZ rfl (by omega) ?_) | (refine Qs.isQs ?_; first | refine Qs.then_normal ?_ | refine Qs.then_rounds ?_ | refine Qs.then_ret ?_ | refine Qs.then_exit ?_ | refine Qs.block_normal ?_ | refine Qs.block_ret ?_ | refine Qs.block_here ?_ | refine Qs.block_other rfl ?_) | refine RS.step ?_)
    first
    | exact Qs.retP rfl rfl (Sl.nil _)
    | (refine SL.lit rfl (by repeat (first | exact CellsL.nil | apply CellsL.cons rfl | apply CellsL.cons (cells_enc _) | apply CellsL.cons (One.cells (by assumption)))) rfl rfl rfl rfl rfl rfl (fun b h1 hle hb => ?_)
       repeat' (first | (refine SL.isSL ?_; first | (refine SL.isN ?_; first | refine SL.nA ?_ | refine SL.alloc rfl rfl (fun b => ?_) | refine SL.box rfl rfl rfl (fun b => ?_)) | (refine SL.isG ?_; first | refine SL.gF rfl rfl rfl ?_ | refine SL.gU rfl rfl rfl ?_ | refine SL.gA ?_) | (refine SL.isSt ?_; refine SL.stA ?_) | refine SL.nil ?_ | (refine SL.isG ?_; first | refine SL.gCase rfl rfl (fun e => ?_) (fun e => ?_) | refine SL.gCaseN rfl rfl (fun e => ?_) (fun e => ?_))) | (refine St.isSt ?_; first | refine St.seq ?_ | refine St.region ?_ | refine St.block ?_ | refine St.ret ?_ | refine St.skip ?_ | refine St.exit ?_ | refine St.condT rfl ?_ | refine St.condF rfl ?_ | refine St.condY rfl (by omega) ?_ | refine St.condZ rfl (by omega) ?_) | (refine Qs.isQs ?_; first | refine Qs.then_normal ?_ | refine Qs.then_rounds ?_ | refine Qs.then_ret ?_ | refine Qs.then_exit ?_ | refine Qs.block_normal ?_ | refine Qs.block_ret ?_ | refine Qs.block_here ?_ | refine Qs.block_other rfl ?_) | refine RS.step ?_)
       exact Qs.retP rfl rfl (Sl.lit hb))
end Go.Proofs.YtfookachkcgdpaaDoor
