/- Contracts as texts. Plain theorems; no condition. -/
import Derived.Test.YtfookachkcgdpaaDoorWo
set_option linter.unusedVariables false
set_option linter.unusedSimpArgs false
set_option maxRecDepth 100000
set_option maxHeartbeats 8000000
namespace Go.Proofs.YtfookachkcgdpaaDoor
open Go.RowKit
attribute [local irreducible] St SL Qs NOp TK SQ RS Fn FnV FnP

def ttxt : Tm → ByteArray
  | .z => ⟨#[122, 101, 114, 111]⟩
  | .o s => bcall ⟨#[111, 110, 101]⟩ [s]
  | .g a => bcall ⟨#[103, 105, 118, 101]⟩ [ttxt a]
  | .a l r => bcall ⟨#[97, 110, 100]⟩ [ttxt l, ttxt r]
  | .r s l r => bcall ⟨#[111, 114]⟩ [s, ttxt l, ttxt r]
  | .s o t => bcall ⟨#[115, 99, 97, 108, 101]⟩ [onum o, ttxt t]
  | .w d t => bcall ⟨#[119, 104, 101, 110]⟩ [bitoa d, ttxt t]
  | .i o l r => bcall ⟨#[105, 102]⟩ [onum o, ttxt l, ttxt r]
  | _ => ByteArray.empty
/-- How long a contract's text may be. -/
def tsz : Tm → Nat
  | .z => 4
  | .o s => s.size + 10
  | .g a => tsz a + 10
  | .a l r => tsz l + tsz r + 10
  | .r s l r => s.size + tsz l + tsz r + 10
  | .s o t => osz o + tsz t + 12
  | .w _ t => tsz t + 40
  | .i o l r => osz o + tsz l + tsz r + 10
  | _ => 0
def okT : Tm → Prop
  | .z => True
  | .o _ => True
  | .g a => okT a
  | .a l r => okT l ∧ okT r
  | .r _ l r => okT l ∧ okT r
  | .s o t => okO o ∧ okT t
  | .w d t => i64P d ∧ okT t
  | .i o l r => okO o ∧ okT l ∧ okT r
  | _ => False
theorem ttxt_size (t : Tm) (h : okT t) : (ttxt t).size ≤ tsz t := by
  induction t with
  | z => exact Nat.le_refl 4
  | o s => have := bcall_size ⟨#[111, 110, 101]⟩ [s]; have e : (⟨#[111, 110, 101]⟩ : ByteArray).size = 3 := rfl; simp only [bsum, List.map_cons, List.map_nil, List.sum_cons, List.sum_nil, List.length_cons, List.length_nil, e] at *; simp only [ttxt, tsz]; omega
  | g a i1 => have := i1 h; have := bcall_size ⟨#[103, 105, 118, 101]⟩ [ttxt a]; have e : (⟨#[103, 105, 118, 101]⟩ : ByteArray).size = 4 := rfl; simp only [bsum, List.map_cons, List.map_nil, List.sum_cons, List.sum_nil, List.length_cons, List.length_nil, e] at *; simp only [ttxt, tsz]; omega
  | a l r i1 i2 => have := i1 h.1; have := i2 h.2; have := bcall_size ⟨#[97, 110, 100]⟩ [ttxt l, ttxt r]; have e : (⟨#[97, 110, 100]⟩ : ByteArray).size = 3 := rfl; simp only [bsum, List.map_cons, List.map_nil, List.sum_cons, List.sum_nil, List.length_cons, List.length_nil, e] at *; simp only [ttxt, tsz]; omega
  | r s l r i1 i2 => have := i1 h.1; have := i2 h.2; have := bcall_size ⟨#[111, 114]⟩ [s, ttxt l, ttxt r]; have e : (⟨#[111, 114]⟩ : ByteArray).size = 2 := rfl; simp only [bsum, List.map_cons, List.map_nil, List.sum_cons, List.sum_nil, List.length_cons, List.length_nil, e] at *; simp only [ttxt, tsz]; omega
  | s o t _ i1 => have := onum_size o h.1; have := i1 h.2; have := bcall_size ⟨#[115, 99, 97, 108, 101]⟩ [onum o, ttxt t]; have e : (⟨#[115, 99, 97, 108, 101]⟩ : ByteArray).size = 5 := rfl; simp only [bsum, List.map_cons, List.map_nil, List.sum_cons, List.sum_nil, List.length_cons, List.length_nil, e] at *; simp only [ttxt, tsz]; omega
  | w d t i1 => have := bitoa_size d h.1.1 h.1.2; have := i1 h.2; have := bcall_size ⟨#[119, 104, 101, 110]⟩ [bitoa d, ttxt t]; have e : (⟨#[119, 104, 101, 110]⟩ : ByteArray).size = 4 := rfl; simp only [bsum, List.map_cons, List.map_nil, List.sum_cons, List.sum_nil, List.length_cons, List.length_nil, e] at *; simp only [ttxt, tsz]; omega
  | i o l r _ i1 i2 => have := onum_size o h.1; have := i1 h.2.1; have := i2 h.2.2; have := bcall_size ⟨#[105, 102]⟩ [onum o, ttxt l, ttxt r]; have e : (⟨#[105, 102]⟩ : ByteArray).size = 2 := rfl; simp only [bsum, List.map_cons, List.map_nil, List.sum_cons, List.sum_nil, List.length_cons, List.length_nil, e] at *; simp only [ttxt, tsz]; omega
  | _ => exact absurd h (by simp [okT])
theorem Contract_v (t : Tm) : okT t → tsz t ≤ 1000000 → ∀ h : GH, TabG h → FnV Tryd.prog h 21 [enc t].toArray (.string (ttxt t)) := by
  induction t with
  | z =>
    intro ho hs h ht
    refine FnV.enter Tryd.func21 rfl rfl rfl rfl fun w hg => ?_
    simp only [enc, ttxt]
    repeat' (first | (refine SL.isSL ?_; first | (refine SL.isN ?_; first | refine SL.nA ?_ | refine SL.alloc rfl rfl (fun b => ?_) | refine SL.box rfl rfl rfl (fun b => ?_)) | (refine SL.isG ?_; first | refine SL.gF rfl rfl rfl ?_ | refine SL.gU rfl rfl rfl ?_ | refine SL.gA ?_) | (refine SL.isSt ?_; refine SL.stA ?_) | refine SL.nil ?_ | (refine SL.isG ?_; first | refine SL.gCase rfl rfl (fun e => ?_) (fun e => ?_) | refine SL.gCaseN rfl rfl (fun e => ?_) (fun e => ?_))) | (refine St.isSt ?_; first | refine St.seq ?_ | refine St.region ?_ | refine St.block ?_ | refine St.ret ?_ | refine St.skip ?_ | refine St.exit ?_ | refine St.condT rfl ?_ | refine St.condF rfl ?_ | refine St.condY rfl (by omega) ?_ | refine St.condZ rfl (by omega) ?_) | (refine Qs.isQs ?_; first | refine Qs.then_normal ?_ | refine Qs.then_rounds ?_ | refine Qs.then_ret ?_ | refine Qs.then_exit ?_ | refine Qs.block_normal ?_ | refine Qs.block_ret ?_ | refine Qs.block_here ?_ | refine Qs.block_other rfl ?_) | refine RS.step ?_)
    exact Qs.retV rfl rfl rfl
  | o s =>
    intro ho hs h ht
    simp only [tsz] at hs
    refine FnV.enter Tryd.func21 rfl rfl rfl rfl fun w hg => ?_
    simp only [enc, ttxt]
    repeat' (first | (refine SL.isSL ?_; first | (refine SL.isN ?_; first | refine SL.nA ?_ | refine SL.alloc rfl rfl (fun b => ?_) | refine SL.box rfl rfl rfl (fun b => ?_)) | (refine SL.isG ?_; first | refine SL.gF rfl rfl rfl ?_ | refine SL.gU rfl rfl rfl ?_ | refine SL.gA ?_) | (refine SL.isSt ?_; refine SL.stA ?_) | refine SL.nil ?_ | (refine SL.isG ?_; first | refine SL.gCase rfl rfl (fun e => ?_) (fun e => ?_) | refine SL.gCaseN rfl rfl (fun e => ?_) (fun e => ?_))) | (refine St.isSt ?_; first | refine St.seq ?_ | refine St.region ?_ | refine St.block ?_ | refine St.ret ?_ | refine St.skip ?_ | refine St.exit ?_ | refine St.condT rfl ?_ | refine St.condF rfl ?_ | refine St.condY rfl (by omega) ?_ | refine St.condZ rfl (by omega) ?_) | (refine Qs.isQs ?_; first | refine Qs.then_normal ?_ | refine Qs.then_rounds ?_ | refine Qs.then_ret ?_ | refine Qs.then_exit ?_ | refine Qs.block_normal ?_ | refine Qs.block_ret ?_ | refine Qs.block_here ?_ | refine Qs.block_other rfl ?_) | refine RS.step ?_)
    refine SL.lit rfl (by repeat (first | exact CellsL.nil | apply CellsL.cons rfl | apply CellsL.cons (cells_enc _) | apply CellsL.cons (One.cells (by assumption)))) rfl rfl rfl rfl rfl rfl (fun b h1 hle hb => ?_)
    refine SL.callV rfl (Call_v _ _ 1 _ [s] (Sl.lit hb) rfl (by simp) (by simp [bsum]; omega) (by omega) (by decide)) rfl ?_
    repeat' (first | (refine SL.isSL ?_; first | (refine SL.isN ?_; first | refine SL.nA ?_ | refine SL.alloc rfl rfl (fun b => ?_) | refine SL.box rfl rfl rfl (fun b => ?_)) | (refine SL.isG ?_; first | refine SL.gF rfl rfl rfl ?_ | refine SL.gU rfl rfl rfl ?_ | refine SL.gA ?_) | (refine SL.isSt ?_; refine SL.stA ?_) | refine SL.nil ?_ | (refine SL.isG ?_; first | refine SL.gCase rfl rfl (fun e => ?_) (fun e => ?_) | refine SL.gCaseN rfl rfl (fun e => ?_) (fun e => ?_))) | (refine St.isSt ?_; first | refine St.seq ?_ | refine St.region ?_ | refine St.block ?_ | refine St.ret ?_ | refine St.skip ?_ | refine St.exit ?_ | refine St.condT rfl ?_ | refine St.condF rfl ?_ | refine St.condY rfl (by omega) ?_ | refine St.condZ rfl (by omega) ?_) | (refine Qs.isQs ?_; first | refine Qs.then_normal ?_ | refine Qs.then_rounds ?_ | refine Qs.then_ret ?_ | refine Qs.then_exit ?_ | refine Qs.block_normal ?_ | refine Qs.block_ret ?_ | refine Qs.block_here ?_ | refine Qs.block_other rfl ?_) | refine RS.step ?_)
    exact Qs.retV rfl rfl rfl
  | g a i1 =>
    intro ho hs h ht
    have s1 := ttxt_size a ho
    simp only [tsz] at hs
    have c1 := i1 ho (by omega)
    refine FnV.enter Tryd.func21 rfl rfl rfl rfl fun w hg => ?_
    simp only [enc, ttxt]
    repeat' (first | refine SL.callV rfl (c1 _ ht) rfl ?_ | (refine SL.isSL ?_; first | (refine SL.isN ?_; first | refine SL.nA ?_ | refine SL.alloc rfl rfl (fun b => ?_) | refine SL.box rfl rfl rfl (fun b => ?_)) | (refine SL.isG ?_; first | refine SL.gF rfl rfl rfl ?_ | refine SL.gU rfl rfl rfl ?_ | refine SL.gA ?_) | (refine SL.isSt ?_; refine SL.stA ?_) | refine SL.nil ?_ | (refine SL.isG ?_; first | refine SL.gCase rfl rfl (fun e => ?_) (fun e => ?_) | refine SL.gCaseN rfl rfl (fun e => ?_) (fun e => ?_))) | (refine St.isSt ?_; first | refine St.seq ?_ | refine St.region ?_ | refine St.block ?_ | refine St.ret ?_ | refine St.skip ?_ | refine St.exit ?_ | refine St.condT rfl ?_ | refine St.condF rfl ?_ | refine St.condY rfl (by omega) ?_ | refine St.condZ rfl (by omega) ?_) | (refine Qs.isQs ?_; first | refine Qs.then_normal ?_ | refine Qs.then_rounds ?_ | refine Qs.then_ret ?_ | refine Qs.then_exit ?_ | refine Qs.block_normal ?_ | refine Qs.block_ret ?_ | refine Qs.block_here ?_ | refine Qs.block_other rfl ?_) | refine RS.step ?_)
    refine SL.lit rfl (by repeat (first | exact CellsL.nil | apply CellsL.cons rfl | apply CellsL.cons (cells_enc _) | apply CellsL.cons (One.cells (by assumption)))) rfl rfl rfl rfl rfl rfl (fun b h1 hle hb => ?_)
    refine SL.callV rfl (Call_v _ _ 1 _ [ttxt a] (Sl.lit hb) rfl (by simp) (by simp [bsum]; omega) (by omega) (by decide)) rfl ?_
    repeat' (first | (refine SL.isSL ?_; first | (refine SL.isN ?_; first | refine SL.nA ?_ | refine SL.alloc rfl rfl (fun b => ?_) | refine SL.box rfl rfl rfl (fun b => ?_)) | (refine SL.isG ?_; first | refine SL.gF rfl rfl rfl ?_ | refine SL.gU rfl rfl rfl ?_ | refine SL.gA ?_) | (refine SL.isSt ?_; refine SL.stA ?_) | refine SL.nil ?_ | (refine SL.isG ?_; first | refine SL.gCase rfl rfl (fun e => ?_) (fun e => ?_) | refine SL.gCaseN rfl rfl (fun e => ?_) (fun e => ?_))) | (refine St.isSt ?_; first | refine St.seq ?_ | refine St.region ?_ | refine St.block ?_ | refine St.ret ?_ | refine St.skip ?_ | refine St.exit ?_ | refine St.condT rfl ?_ | refine St.condF rfl ?_ | refine St.condY rfl (by omega) ?_ | refine St.condZ rfl (by omega) ?_) | (refine Qs.isQs ?_; first | refine Qs.then_normal ?_ | refine Qs.then_rounds ?_ | refine Qs.then_ret ?_ | refine Qs.then_exit ?_ | refine Qs.block_normal ?_ | refine Qs.block_ret ?_ | refine Qs.block_here ?_ | refine Qs.block_other rfl ?_) | refine RS.step ?_)
    exact Qs.retV rfl rfl rfl
  | a l r i1 i2 =>
    intro ho hs h ht
    simp only [tsz] at hs
    have s1 := ttxt_size l ho.1
    have s2 := ttxt_size r ho.2
    have c1 := i1 ho.1 (by omega)
    have c2 := i2 ho.2 (by omega)
    refine FnV.enter Tryd.func21 rfl rfl rfl rfl fun w hg => ?_
    simp only [enc, ttxt]
    repeat' (first | (refine SL.isSL ?_; first | (refine SL.isN ?_; first | refine SL.nA ?_ | refine SL.alloc rfl rfl (fun b => ?_) | refine SL.box rfl rfl rfl (fun b => ?_)) | (refine SL.isG ?_; first | refine SL.gF rfl rfl rfl ?_ | refine SL.gU rfl rfl rfl ?_ | refine SL.gA ?_) | (refine SL.isSt ?_; refine SL.stA ?_) | refine SL.nil ?_ | (refine SL.isG ?_; first | refine SL.gCase rfl rfl (fun e => ?_) (fun e => ?_) | refine SL.gCaseN rfl rfl (fun e => ?_) (fun e => ?_))) | (refine St.isSt ?_; first | refine St.seq ?_ | refine St.region ?_ | refine St.block ?_ | refine St.ret ?_ | refine St.skip ?_ | refine St.exit ?_ | refine St.condT rfl ?_ | refine St.condF rfl ?_ | refine St.condY rfl (by omega) ?_ | refine St.condZ rfl (by omega) ?_) | (refine Qs.isQs ?_; first | refine Qs.then_normal ?_ | refine Qs.then_rounds ?_ | refine Qs.then_ret ?_ | refine Qs.then_exit ?_ | refine Qs.block_normal ?_ | refine Qs.block_ret ?_ | refine Qs.block_here ?_ | refine Qs.block_other rfl ?_) | refine RS.step ?_)
    refine St.drawV' 9 [2] rfl rfl rfl rfl rfl ?_
    repeat (first | (refine TK.isTK ?_; first | refine TK.cons rfl rfl (Ob.callV rfl rfl (fun h' hle => c1 h' (ht.le hle))) rfl ?_ | refine TK.cons rfl rfl (Ob.callV rfl rfl (fun h' hle => c2 h' (ht.le hle))) rfl ?_ | refine TK.cons rfl rfl (Ob.q 39 rfl rfl (fun x h1 hle hq => Ob.callV rfl rfl (Call_up (l := [ttxt l, ttxt r]) hq _ rfl (by simp) (by simp [bsum]; omega) (by omega) (by decide)))) rfl ?_ | (refine TK.isHead rfl ?_; first | (refine TK.isN ?_; first | refine TK.nA ?_ | refine TK.litA ?_) | (refine TK.isG ?_; first | refine TK.cons rfl rfl (Ob.gF rfl rfl rfl) rfl ?_ | refine TK.cons rfl rfl (Ob.gU rfl rfl rfl) rfl ?_ | refine TK.gA ?_)) | (refine TK.isTail rfl ?_; first | refine TK.consS rfl rfl ?_ | refine TK.fA ?_) | refine TK.nilV rfl rfl ?_) | (refine SQ.isSQ ?_; first | refine SQ.nil ?_ | refine SQ.stA ?_))
    repeat' (first | (refine SL.isSL ?_; first | (refine SL.isN ?_; first | refine SL.nA ?_ | refine SL.alloc rfl rfl (fun b => ?_) | refine SL.box rfl rfl rfl (fun b => ?_)) | (refine SL.isG ?_; first | refine SL.gF rfl rfl rfl ?_ | refine SL.gU rfl rfl rfl ?_ | refine SL.gA ?_) | (refine SL.isSt ?_; refine SL.stA ?_) | refine SL.nil ?_ | (refine SL.isG ?_; first | refine SL.gCase rfl rfl (fun e => ?_) (fun e => ?_) | refine SL.gCaseN rfl rfl (fun e => ?_) (fun e => ?_))) | (refine St.isSt ?_; first | refine St.seq ?_ | refine St.region ?_ | refine St.block ?_ | refine St.ret ?_ | refine St.skip ?_ | refine St.exit ?_ | refine St.condT rfl ?_ | refine St.condF rfl ?_ | refine St.condY rfl (by omega) ?_ | refine St.condZ rfl (by omega) ?_) | (refine Qs.isQs ?_; first | refine Qs.then_normal ?_ | refine Qs.then_rounds ?_ | refine Qs.then_ret ?_ | refine Qs.then_exit ?_ | refine Qs.block_normal ?_ | refine Qs.block_ret ?_ | refine Qs.block_here ?_ | refine Qs.block_other rfl ?_) | refine RS.step ?_)
    exact Qs.retV rfl rfl rfl
  | r s l r i1 i2 =>
    intro ho hs h ht
    simp only [tsz] at hs
    have s1 := ttxt_size l ho.1
    have s2 := ttxt_size r ho.2
    have c1 := i1 ho.1 (by omega)
    have c2 := i2 ho.2 (by omega)
    refine FnV.enter Tryd.func21 rfl rfl rfl rfl fun w hg => ?_
    simp only [enc, ttxt]
    repeat' (first | (refine SL.isSL ?_; first | (refine SL.isN ?_; first | refine SL.nA ?_ | refine SL.alloc rfl rfl (fun b => ?_) | refine SL.box rfl rfl rfl (fun b => ?_)) | (refine SL.isG ?_; first | refine SL.gF rfl rfl rfl ?_ | refine SL.gU rfl rfl rfl ?_ | refine SL.gA ?_) | (refine SL.isSt ?_; refine SL.stA ?_) | refine SL.nil ?_ | (refine SL.isG ?_; first | refine SL.gCase rfl rfl (fun e => ?_) (fun e => ?_) | refine SL.gCaseN rfl rfl (fun e => ?_) (fun e => ?_))) | (refine St.isSt ?_; first | refine St.seq ?_ | refine St.region ?_ | refine St.block ?_ | refine St.ret ?_ | refine St.skip ?_ | refine St.exit ?_ | refine St.condT rfl ?_ | refine St.condF rfl ?_ | refine St.condY rfl (by omega) ?_ | refine St.condZ rfl (by omega) ?_) | (refine Qs.isQs ?_; first | refine Qs.then_normal ?_ | refine Qs.then_rounds ?_ | refine Qs.then_ret ?_ | refine Qs.then_exit ?_ | refine Qs.block_normal ?_ | refine Qs.block_ret ?_ | refine Qs.block_here ?_ | refine Qs.block_other rfl ?_) | refine RS.step ?_)
    refine St.drawV' 11 [2] rfl rfl rfl rfl rfl ?_
    repeat (first | (refine TK.isTK ?_; first | refine TK.cons rfl rfl (Ob.callV rfl rfl (fun h' hle => c1 h' (ht.le hle))) rfl ?_ | refine TK.cons rfl rfl (Ob.callV rfl rfl (fun h' hle => c2 h' (ht.le hle))) rfl ?_ | refine TK.cons rfl rfl (Ob.q 52 rfl rfl (fun x h1 hle hq => Ob.callV rfl rfl (Call_up (l := [s, ttxt l, ttxt r]) hq _ rfl (by simp) (by simp [bsum]; omega) (by omega) (by decide)))) rfl ?_ | (refine TK.isHead rfl ?_; first | (refine TK.isN ?_; first | refine TK.nA ?_ | refine TK.litA ?_) | (refine TK.isG ?_; first | refine TK.cons rfl rfl (Ob.gF rfl rfl rfl) rfl ?_ | refine TK.cons rfl rfl (Ob.gU rfl rfl rfl) rfl ?_ | refine TK.gA ?_)) | (refine TK.isTail rfl ?_; first | refine TK.consS rfl rfl ?_ | refine TK.fA ?_) | refine TK.nilV rfl rfl ?_) | (refine SQ.isSQ ?_; first | refine SQ.nil ?_ | refine SQ.stA ?_))
    repeat' (first | (refine SL.isSL ?_; first | (refine SL.isN ?_; first | refine SL.nA ?_ | refine SL.alloc rfl rfl (fun b => ?_) | refine SL.box rfl rfl rfl (fun b => ?_)) | (refine SL.isG ?_; first | refine SL.gF rfl rfl rfl ?_ | refine SL.gU rfl rfl rfl ?_ | refine SL.gA ?_) | (refine SL.isSt ?_; refine SL.stA ?_) | refine SL.nil ?_ | (refine SL.isG ?_; first | refine SL.gCase rfl rfl (fun e => ?_) (fun e => ?_) | refine SL.gCaseN rfl rfl (fun e => ?_) (fun e => ?_))) | (refine St.isSt ?_; first | refine St.seq ?_ | refine St.region ?_ | refine St.block ?_ | refine St.ret ?_ | refine St.skip ?_ | refine St.exit ?_ | refine St.condT rfl ?_ | refine St.condF rfl ?_ | refine St.condY rfl (by omega) ?_ | refine St.condZ rfl (by omega) ?_) | (refine Qs.isQs ?_; first | refine Qs.then_normal ?_ | refine Qs.then_rounds ?_ | refine Qs.then_ret ?_ | refine Qs.then_exit ?_ | refine Qs.block_normal ?_ | refine Qs.block_ret ?_ | refine Qs.block_here ?_ | refine Qs.block_other rfl ?_) | refine RS.step ?_)
    exact Qs.retV rfl rfl rfl
  | s o t _ i1 =>
    intro ho hs h ht
    simp only [tsz] at hs
    have s1 := onum_size o ho.1
    have s2 := ttxt_size t ho.2
    have c1 := ONumber_v o ho.1 (by omega)
    have c2 := i1 ho.2 (by omega)
    refine FnV.enter Tryd.func21 rfl rfl rfl rfl fun w hg => ?_
    simp only [enc, ttxt]
    repeat' (first | (refine SL.isSL ?_; first | (refine SL.isN ?_; first | refine SL.nA ?_ | refine SL.alloc rfl rfl (fun b => ?_) | refine SL.box rfl rfl rfl (fun b => ?_)) | (refine SL.isG ?_; first | refine SL.gF rfl rfl rfl ?_ | refine SL.gU rfl rfl rfl ?_ | refine SL.gA ?_) | (refine SL.isSt ?_; refine SL.stA ?_) | refine SL.nil ?_ | (refine SL.isG ?_; first | refine SL.gCase rfl rfl (fun e => ?_) (fun e => ?_) | refine SL.gCaseN rfl rfl (fun e => ?_) (fun e => ?_))) | (refine St.isSt ?_; first | refine St.seq ?_ | refine St.region ?_ | refine St.block ?_ | refine St.ret ?_ | refine St.skip ?_ | refine St.exit ?_ | refine St.condT rfl ?_ | refine St.condF rfl ?_ | refine St.condY rfl (by omega) ?_ | refine St.condZ rfl (by omega) ?_) | (refine Qs.isQs ?_; first | refine Qs.then_normal ?_ | refine Qs.then_rounds ?_ | refine Qs.then_ret ?_ | refine Qs.then_exit ?_ | refine Qs.block_normal ?_ | refine Qs.block_ret ?_ | refine Qs.block_here ?_ | refine Qs.block_other rfl ?_) | refine RS.step ?_)
    refine St.drawV' 9 [2] rfl rfl rfl rfl rfl ?_
    repeat (first | (refine TK.isTK ?_; first | refine TK.cons rfl rfl (Ob.callV rfl rfl (fun h' hle => c1 h' (ht.le hle))) rfl ?_ | refine TK.cons rfl rfl (Ob.callV rfl rfl (fun h' hle => c2 h' (ht.le hle))) rfl ?_ | refine TK.cons rfl rfl (Ob.q 63 rfl rfl (fun x h1 hle hq => Ob.callV rfl rfl (Call_up (l := [onum o, ttxt t]) hq _ rfl (by simp) (by simp [bsum]; omega) (by omega) (by decide)))) rfl ?_ | (refine TK.isHead rfl ?_; first | (refine TK.isN ?_; first | refine TK.nA ?_ | refine TK.litA ?_) | (refine TK.isG ?_; first | refine TK.cons rfl rfl (Ob.gF rfl rfl rfl) rfl ?_ | refine TK.cons rfl rfl (Ob.gU rfl rfl rfl) rfl ?_ | refine TK.gA ?_)) | (refine TK.isTail rfl ?_; first | refine TK.consS rfl rfl ?_ | refine TK.fA ?_) | refine TK.nilV rfl rfl ?_) | (refine SQ.isSQ ?_; first | refine SQ.nil ?_ | refine SQ.stA ?_))
    repeat' (first | (refine SL.isSL ?_; first | (refine SL.isN ?_; first | refine SL.nA ?_ | refine SL.alloc rfl rfl (fun b => ?_) | refine SL.box rfl rfl rfl (fun b => ?_)) | (refine SL.isG ?_; first | refine SL.gF rfl rfl rfl ?_ | refine SL.gU rfl rfl rfl ?_ | refine SL.gA ?_) | (refine SL.isSt ?_; refine SL.stA ?_) | refine SL.nil ?_ | (refine SL.isG ?_; first | refine SL.gCase rfl rfl (fun e => ?_) (fun e => ?_) | refine SL.gCaseN rfl rfl (fun e => ?_) (fun e => ?_))) | (refine St.isSt ?_; first | refine St.seq ?_ | refine St.region ?_ | refine St.block ?_ | refine St.ret ?_ | refine St.skip ?_ | refine St.exit ?_ | refine St.condT rfl ?_ | refine St.condF rfl ?_ | refine St.condY rfl (by omega) ?_ | refine St.condZ rfl (by omega) ?_) | (refine Qs.isQs ?_; first | refine Qs.then_normal ?_ | refine Qs.then_rounds ?_ | refine Qs.then_ret ?_ | refine Qs.then_exit ?_ | refine Qs.block_normal ?_ | refine Qs.block_ret ?_ | refine Qs.block_here ?_ | refine Qs.block_other rfl ?_) | refine RS.step ?_)
    exact Qs.retV rfl rfl rfl
  | w d t i1 =>
    intro ho hs h ht
    simp only [tsz] at hs
    have s1 := bitoa_size d ho.1.1 ho.1.2
    have s2 := ttxt_size t ho.2
    have c2 := i1 ho.2 (by omega)
    refine FnV.enter Tryd.func21 rfl rfl rfl rfl fun w hg => ?_
    simp only [enc, ttxt]
    repeat' (first | (refine SL.isSL ?_; first | (refine SL.isN ?_; first | refine SL.nA ?_ | refine SL.alloc rfl rfl (fun b => ?_) | refine SL.box rfl rfl rfl (fun b => ?_)) | (refine SL.isG ?_; first | refine SL.gF rfl rfl rfl ?_ | refine SL.gU rfl rfl rfl ?_ | refine SL.gA ?_) | (refine SL.isSt ?_; refine SL.stA ?_) | refine SL.nil ?_ | (refine SL.isG ?_; first | refine SL.gCase rfl rfl (fun e => ?_) (fun e => ?_) | refine SL.gCaseN rfl rfl (fun e => ?_) (fun e => ?_))) | (refine St.isSt ?_; first | refine St.seq ?_ | refine St.region ?_ | refine St.block ?_ | refine St.ret ?_ | refine St.skip ?_ | refine St.exit ?_ | refine St.condT rfl ?_ | refine St.condF rfl ?_ | refine St.condY rfl (by omega) ?_ | refine St.condZ rfl (by omega) ?_) | (refine Qs.isQs ?_; first | refine Qs.then_normal ?_ | refine Qs.then_rounds ?_ | refine Qs.then_ret ?_ | refine Qs.then_exit ?_ | refine Qs.block_normal ?_ | refine Qs.block_ret ?_ | refine Qs.block_here ?_ | refine Qs.block_other rfl ?_) | refine RS.step ?_)
    refine St.drawV' 9 [2] rfl rfl rfl rfl rfl ?_
    repeat (first | (refine TK.isTK ?_; first | refine TK.cons rfl rfl (Ob.callV rfl rfl (fun h' hle => Itoa_v d ho.1.1 ho.1.2 h' (ht.le hle))) rfl ?_ | refine TK.cons rfl rfl (Ob.callV rfl rfl (fun h' hle => c2 h' (ht.le hle))) rfl ?_ | refine TK.cons rfl rfl (Ob.q 74 rfl rfl (fun x h1 hle hq => Ob.callV rfl rfl (Call_up (l := [bitoa d, ttxt t]) hq _ rfl (by simp) (by simp [bsum]; omega) (by omega) (by decide)))) rfl ?_ | (refine TK.isHead rfl ?_; first | (refine TK.isN ?_; first | refine TK.nA ?_ | refine TK.litA ?_) | (refine TK.isG ?_; first | refine TK.cons rfl rfl (Ob.gF rfl rfl rfl) rfl ?_ | refine TK.cons rfl rfl (Ob.gU rfl rfl rfl) rfl ?_ | refine TK.gA ?_)) | (refine TK.isTail rfl ?_; first | refine TK.consS rfl rfl ?_ | refine TK.fA ?_) | refine TK.nilV rfl rfl ?_) | (refine SQ.isSQ ?_; first | refine SQ.nil ?_ | refine SQ.stA ?_))
    repeat' (first | (refine SL.isSL ?_; first | (refine SL.isN ?_; first | refine SL.nA ?_ | refine SL.alloc rfl rfl (fun b => ?_) | refine SL.box rfl rfl rfl (fun b => ?_)) | (refine SL.isG ?_; first | refine SL.gF rfl rfl rfl ?_ | refine SL.gU rfl rfl rfl ?_ | refine SL.gA ?_) | (refine SL.isSt ?_; refine SL.stA ?_) | refine SL.nil ?_ | (refine SL.isG ?_; first | refine SL.gCase rfl rfl (fun e => ?_) (fun e => ?_) | refine SL.gCaseN rfl rfl (fun e => ?_) (fun e => ?_))) | (refine St.isSt ?_; first | refine St.seq ?_ | refine St.region ?_ | refine St.block ?_ | refine St.ret ?_ | refine St.skip ?_ | refine St.exit ?_ | refine St.condT rfl ?_ | refine St.condF rfl ?_ | refine St.condY rfl (by omega) ?_ | refine St.condZ rfl (by omega) ?_) | (refine Qs.isQs ?_; first | refine Qs.then_normal ?_ | refine Qs.then_rounds ?_ | refine Qs.then_ret ?_ | refine Qs.then_exit ?_ | refine Qs.block_normal ?_ | refine Qs.block_ret ?_ | refine Qs.block_here ?_ | refine Qs.block_other rfl ?_) | refine RS.step ?_)
    exact Qs.retV rfl rfl rfl
  | i o l r _ i1 i2 =>
    intro ho hs h ht
    simp only [tsz] at hs
    have s0 := onum_size o ho.1
    have s1 := ttxt_size l ho.2.1
    have s2 := ttxt_size r ho.2.2
    have c0 := ONumber_v o ho.1 (by omega)
    have c1 := i1 ho.2.1 (by omega)
    have c2 := i2 ho.2.2 (by omega)
    refine FnV.enter Tryd.func21 rfl rfl rfl rfl fun w hg => ?_
    simp only [enc, ttxt]
    repeat' (first | (refine SL.isSL ?_; first | (refine SL.isN ?_; first | refine SL.nA ?_ | refine SL.alloc rfl rfl (fun b => ?_) | refine SL.box rfl rfl rfl (fun b => ?_)) | (refine SL.isG ?_; first | refine SL.gF rfl rfl rfl ?_ | refine SL.gU rfl rfl rfl ?_ | refine SL.gA ?_) | (refine SL.isSt ?_; refine SL.stA ?_) | refine SL.nil ?_ | (refine SL.isG ?_; first | refine SL.gCase rfl rfl (fun e => ?_) (fun e => ?_) | refine SL.gCaseN rfl rfl (fun e => ?_) (fun e => ?_))) | (refine St.isSt ?_; first | refine St.seq ?_ | refine St.region ?_ | refine St.block ?_ | refine St.ret ?_ | refine St.skip ?_ | refine St.exit ?_ | refine St.condT rfl ?_ | refine St.condF rfl ?_ | refine St.condY rfl (by omega) ?_ | refine St.condZ rfl (by omega) ?_) | (refine Qs.isQs ?_; first | refine Qs.then_normal ?_ | refine Qs.then_rounds ?_ | refine Qs.then_ret ?_ | refine Qs.then_exit ?_ | refine Qs.block_normal ?_ | refine Qs.block_ret ?_ | refine Qs.block_here ?_ | refine Qs.block_other rfl ?_) | refine RS.step ?_)
    refine St.drawV' 12 [2] rfl rfl rfl rfl rfl ?_
    repeat (first | (refine TK.isTK ?_; first | refine TK.cons rfl rfl (Ob.callV rfl rfl (fun h' hle => c0 h' (ht.le hle))) rfl ?_ | refine TK.cons rfl rfl (Ob.callV rfl rfl (fun h' hle => c1 h' (ht.le hle))) rfl ?_ | refine TK.cons rfl rfl (Ob.callV rfl rfl (fun h' hle => c2 h' (ht.le hle))) rfl ?_ | refine TK.cons rfl rfl (Ob.q 87 rfl rfl (fun x h1 hle hq => Ob.callV rfl rfl (Call_up (l := [onum o, ttxt l, ttxt r]) hq _ rfl (by simp) (by simp [bsum]; omega) (by omega) (by decide)))) rfl ?_ | (refine TK.isHead rfl ?_; first | (refine TK.isN ?_; first | refine TK.nA ?_ | refine TK.litA ?_) | (refine TK.isG ?_; first | refine TK.cons rfl rfl (Ob.gF rfl rfl rfl) rfl ?_ | refine TK.cons rfl rfl (Ob.gU rfl rfl rfl) rfl ?_ | refine TK.gA ?_)) | (refine TK.isTail rfl ?_; first | refine TK.consS rfl rfl ?_ | refine TK.fA ?_) | refine TK.nilV rfl rfl ?_) | (refine SQ.isSQ ?_; first | refine SQ.nil ?_ | refine SQ.stA ?_))
    repeat' (first | (refine SL.isSL ?_; first | (refine SL.isN ?_; first | refine SL.nA ?_ | refine SL.alloc rfl rfl (fun b => ?_) | refine SL.box rfl rfl rfl (fun b => ?_)) | (refine SL.isG ?_; first | refine SL.gF rfl rfl rfl ?_ | refine SL.gU rfl rfl rfl ?_ | refine SL.gA ?_) | (refine SL.isSt ?_; refine SL.stA ?_) | refine SL.nil ?_ | (refine SL.isG ?_; first | refine SL.gCase rfl rfl (fun e => ?_) (fun e => ?_) | refine SL.gCaseN rfl rfl (fun e => ?_) (fun e => ?_))) | (refine St.isSt ?_; first | refine St.seq ?_ | refine St.region ?_ | refine St.block ?_ | refine St.ret ?_ | refine St.skip ?_ | refine St.exit ?_ | refine St.condT rfl ?_ | refine St.condF rfl ?_ | refine St.condY rfl (by omega) ?_ | refine St.condZ rfl (by omega) ?_) | (refine Qs.isQs ?_; first | refine Qs.then_normal ?_ | refine Qs.then_rounds ?_ | refine Qs.then_ret ?_ | refine Qs.then_exit ?_ | refine Qs.block_normal ?_ | refine Qs.block_ret ?_ | refine Qs.block_here ?_ | refine Qs.block_other rfl ?_) | refine RS.step ?_)
    exact Qs.retV rfl rfl rfl
  | _ => exact fun h => absurd h (by simp [okT])
end Go.Proofs.YtfookachkcgdpaaDoor
