/- Numbers as texts. Plain theorems; no condition. -/
import Derived.Test.YtfookachkcgdpaaDoorIo
set_option linter.unusedVariables false
set_option linter.unusedSimpArgs false
set_option maxRecDepth 100000
set_option maxHeartbeats 4000000
namespace Go.Proofs.YtfookachkcgdpaaDoor
open Go.RowKit
attribute [local irreducible] St SL Qs NOp TK SQ RS Fn FnV FnP

def onum : Tm → ByteArray
  | .c n => bitoa n
  | .f s => bcall ⟨#[102, 105, 120]⟩ [s]
  | .p l r => bcall ⟨#[97, 100, 100]⟩ [onum l, onum r]
  | .n o => bcall ⟨#[110, 101, 103]⟩ [onum o]
  | .m l r => bcall ⟨#[109, 117, 108]⟩ [onum l, onum r]
  | .x l r => bcall ⟨#[109, 97, 120]⟩ [onum l, onum r]
  | _ => ByteArray.empty
/-- How long a number's text may be. -/
def osz : Tm → Nat
  | .c _ => 21
  | .f s => s.size + 10
  | .p l r => osz l + osz r + 10
  | .n o => osz o + 10
  | .m l r => osz l + osz r + 10
  | .x l r => osz l + osz r + 10
  | _ => 0
def i64P (n : Int) : Prop := -9223372036854775808 ≤ n ∧ n ≤ 9223372036854775807
def okO : Tm → Prop
  | .c n => i64P n
  | .f _ => True
  | .p l r => okO l ∧ okO r
  | .n o => okO o
  | .m l r => okO l ∧ okO r
  | .x l r => okO l ∧ okO r
  | _ => False
theorem onum_size (t : Tm) (h : okO t) : (onum t).size ≤ osz t := by
  induction t with
  | c n => exact Nat.le_trans (bitoa_size n h.1 h.2) (Nat.le_refl _)
  | f s => have := bcall_size ⟨#[102, 105, 120]⟩ [s]; have e : (⟨#[102, 105, 120]⟩ : ByteArray).size = 3 := rfl; simp only [bsum, List.map_cons, List.map_nil, List.sum_cons, List.sum_nil, List.length_cons, List.length_nil, e] at this; simp only [onum, osz]; omega
  | p l r i1 i2 => have := bcall_size ⟨#[97, 100, 100]⟩ [onum l, onum r]; have e : (⟨#[97, 100, 100]⟩ : ByteArray).size = 3 := rfl; have := i1 h.1; have := i2 h.2; simp only [bsum, List.map_cons, List.map_nil, List.sum_cons, List.sum_nil, List.length_cons, List.length_nil, e] at *; simp only [onum, osz]; omega
  | n o i1 => have := bcall_size ⟨#[110, 101, 103]⟩ [onum o]; have e : (⟨#[110, 101, 103]⟩ : ByteArray).size = 3 := rfl; have := i1 h; simp only [bsum, List.map_cons, List.map_nil, List.sum_cons, List.sum_nil, List.length_cons, List.length_nil, e] at *; simp only [onum, osz]; omega
  | m l r i1 i2 => have := bcall_size ⟨#[109, 117, 108]⟩ [onum l, onum r]; have e : (⟨#[109, 117, 108]⟩ : ByteArray).size = 3 := rfl; have := i1 h.1; have := i2 h.2; simp only [bsum, List.map_cons, List.map_nil, List.sum_cons, List.sum_nil, List.length_cons, List.length_nil, e] at *; simp only [onum, osz]; omega
  | x l r i1 i2 => have := bcall_size ⟨#[109, 97, 120]⟩ [onum l, onum r]; have e : (⟨#[109, 97, 120]⟩ : ByteArray).size = 3 := rfl; have := i1 h.1; have := i2 h.2; simp only [bsum, List.map_cons, List.map_nil, List.sum_cons, List.sum_nil, List.length_cons, List.length_nil, e] at *; simp only [onum, osz]; omega
  | _ => exact absurd h (by simp [okO])
/-- A call of call with words in a new row. -/
theorem Call_up {h : GH} {n : Nat} {x : Value} {l : List ByteArray} (hq : ∃ h2, GH.le h2 h ∧ LitQ n (l.map Value.string) 9 x h2) (s : ByteArray) (hn : l.length = n) (hne : l ≠ []) (hb : bsum l ≤ 1000000000) (hn2 : n ≤ 1000000) (hs2 : s.size ≤ 1000) : Up Tryd.prog h 35 [.string s, x].toArray (.string (bcall s l)) := by
  obtain ⟨h2, hle, b, rfl, hb2⟩ := hq
  exact fun h' hle' => Call_v h' _ n s l (Sl.lit (hle' _ _ (hle _ _ hb2))) hn hne hb hn2 hs2

theorem ONumber_v (t : Tm) : okO t → osz t ≤ 1000000 → ∀ h : GH, TabG h → FnV Tryd.prog h 25 [enc t].toArray (.string (onum t)) := by
  induction t with
  | c n =>
    intro ho hs h ht
    refine FnV.enter Tryd.func25 rfl rfl rfl rfl fun w hg => ?_
    simp only [enc, onum]
    repeat' (first | refine SL.callV rfl (Itoa_v n ho.1 ho.2 _ ht) rfl ?_ | (refine SL.isSL ?_; first | (refine SL.isN ?_; first | refine SL.nA ?_ | refine SL.alloc rfl rfl (fun b => ?_) | refine SL.box rfl rfl rfl (fun b => ?_)) | (refine SL.isG ?_; first | refine SL.gF rfl rfl rfl ?_ | refine SL.gU rfl rfl rfl ?_ | refine SL.gA ?_) | (refine SL.isSt ?_; refine SL.stA ?_) | refine SL.nil ?_ | (refine SL.isG ?_; first | refine SL.gCase rfl rfl (fun e => ?_) (fun e => ?_) | refine SL.gCaseN rfl rfl (fun e => ?_) (fun e => ?_))) | (refine St.isSt ?_; first | refine St.seq ?_ | refine St.region ?_ | refine St.block ?_ | refine St.ret ?_ | refine St.skip ?_ | refine St.exit ?_ | refine St.condT rfl ?_ | refine St.condF rfl ?_ | refine St.condY rfl (by omega) ?_ | refine St.condZ rfl (by omega) ?_) | (refine Qs.isQs ?_; first | refine Qs.then_normal ?_ | refine Qs.then_rounds ?_ | refine Qs.then_ret ?_ | refine Qs.then_exit ?_ | refine Qs.block_normal ?_ | refine Qs.block_ret ?_ | refine Qs.block_here ?_ | refine Qs.block_other rfl ?_) | refine RS.step ?_)
    exact Qs.retV rfl rfl rfl
  | f s =>
    intro ho hs h ht
    simp only [osz] at hs
    refine FnV.enter Tryd.func25 rfl rfl rfl rfl fun w hg => ?_
    simp only [enc, onum]
    repeat' (first | (refine SL.isSL ?_; first | (refine SL.isN ?_; first | refine SL.nA ?_ | refine SL.alloc rfl rfl (fun b => ?_) | refine SL.box rfl rfl rfl (fun b => ?_)) | (refine SL.isG ?_; first | refine SL.gF rfl rfl rfl ?_ | refine SL.gU rfl rfl rfl ?_ | refine SL.gA ?_) | (refine SL.isSt ?_; refine SL.stA ?_) | refine SL.nil ?_ | (refine SL.isG ?_; first | refine SL.gCase rfl rfl (fun e => ?_) (fun e => ?_) | refine SL.gCaseN rfl rfl (fun e => ?_) (fun e => ?_))) | (refine St.isSt ?_; first | refine St.seq ?_ | refine St.region ?_ | refine St.block ?_ | refine St.ret ?_ | refine St.skip ?_ | refine St.exit ?_ | refine St.condT rfl ?_ | refine St.condF rfl ?_ | refine St.condY rfl (by omega) ?_ | refine St.condZ rfl (by omega) ?_) | (refine Qs.isQs ?_; first | refine Qs.then_normal ?_ | refine Qs.then_rounds ?_ | refine Qs.then_ret ?_ | refine Qs.then_exit ?_ | refine Qs.block_normal ?_ | refine Qs.block_ret ?_ | refine Qs.block_here ?_ | refine Qs.block_other rfl ?_) | refine RS.step ?_)
    refine SL.lit rfl (by repeat (first | exact CellsL.nil | apply CellsL.cons rfl | apply CellsL.cons (cells_enc _) | apply CellsL.cons (One.cells (by assumption)))) rfl rfl rfl rfl rfl rfl (fun b h1 hle hb => ?_)
    refine SL.callV rfl (Call_v _ _ 1 _ [s] (Sl.lit hb) rfl (by simp) (by simp [bsum]; omega) (by omega) (by decide)) rfl ?_
    repeat' (first | (refine SL.isSL ?_; first | (refine SL.isN ?_; first | refine SL.nA ?_ | refine SL.alloc rfl rfl (fun b => ?_) | refine SL.box rfl rfl rfl (fun b => ?_)) | (refine SL.isG ?_; first | refine SL.gF rfl rfl rfl ?_ | refine SL.gU rfl rfl rfl ?_ | refine SL.gA ?_) | (refine SL.isSt ?_; refine SL.stA ?_) | refine SL.nil ?_ | (refine SL.isG ?_; first | refine SL.gCase rfl rfl (fun e => ?_) (fun e => ?_) | refine SL.gCaseN rfl rfl (fun e => ?_) (fun e => ?_))) | (refine St.isSt ?_; first | refine St.seq ?_ | refine St.region ?_ | refine St.block ?_ | refine St.ret ?_ | refine St.skip ?_ | refine St.exit ?_ | refine St.condT rfl ?_ | refine St.condF rfl ?_ | refine St.condY rfl (by omega) ?_ | refine St.condZ rfl (by omega) ?_) | (refine Qs.isQs ?_; first | refine Qs.then_normal ?_ | refine Qs.then_rounds ?_ | refine Qs.then_ret ?_ | refine Qs.then_exit ?_ | refine Qs.block_normal ?_ | refine Qs.block_ret ?_ | refine Qs.block_here ?_ | refine Qs.block_other rfl ?_) | refine RS.step ?_)
    exact Qs.retV rfl rfl rfl
  | p l r i1 i2 =>
    intro ho hs h ht
    have s1 := onum_size l ho.1
    have s2 := onum_size r ho.2
    simp only [osz] at hs
    have c1 := i1 ho.1 (by omega)
    have c2 := i2 ho.2 (by omega)
    refine FnV.enter Tryd.func25 rfl rfl rfl rfl fun w hg => ?_
    simp only [enc, onum]
    repeat' (first | (refine SL.isSL ?_; first | (refine SL.isN ?_; first | refine SL.nA ?_ | refine SL.alloc rfl rfl (fun b => ?_) | refine SL.box rfl rfl rfl (fun b => ?_)) | (refine SL.isG ?_; first | refine SL.gF rfl rfl rfl ?_ | refine SL.gU rfl rfl rfl ?_ | refine SL.gA ?_) | (refine SL.isSt ?_; refine SL.stA ?_) | refine SL.nil ?_ | (refine SL.isG ?_; first | refine SL.gCase rfl rfl (fun e => ?_) (fun e => ?_) | refine SL.gCaseN rfl rfl (fun e => ?_) (fun e => ?_))) | (refine St.isSt ?_; first | refine St.seq ?_ | refine St.region ?_ | refine St.block ?_ | refine St.ret ?_ | refine St.skip ?_ | refine St.exit ?_ | refine St.condT rfl ?_ | refine St.condF rfl ?_ | refine St.condY rfl (by omega) ?_ | refine St.condZ rfl (by omega) ?_) | (refine Qs.isQs ?_; first | refine Qs.then_normal ?_ | refine Qs.then_rounds ?_ | refine Qs.then_ret ?_ | refine Qs.then_exit ?_ | refine Qs.block_normal ?_ | refine Qs.block_ret ?_ | refine Qs.block_here ?_ | refine Qs.block_other rfl ?_) | refine RS.step ?_)
    refine St.drawV' 9 [2] rfl rfl rfl rfl rfl ?_
    repeat (first | (refine TK.isTK ?_; first | refine TK.cons rfl rfl (Ob.callV rfl rfl (fun h' hle => c1 h' (ht.le hle))) rfl ?_ | refine TK.cons rfl rfl (Ob.callV rfl rfl (fun h' hle => c2 h' (ht.le hle))) rfl ?_ | refine TK.cons rfl rfl (Ob.q 32 rfl rfl (fun x h1 hle hq => Ob.callV rfl rfl (Call_up (l := [onum l, onum r]) hq _ rfl (by simp) (by simp [bsum]; omega) (by omega) (by decide)))) rfl ?_ | (refine TK.isHead rfl ?_; first | (refine TK.isN ?_; first | refine TK.nA ?_ | refine TK.litA ?_) | (refine TK.isG ?_; first | refine TK.cons rfl rfl (Ob.gF rfl rfl rfl) rfl ?_ | refine TK.cons rfl rfl (Ob.gU rfl rfl rfl) rfl ?_ | refine TK.gA ?_)) | (refine TK.isTail rfl ?_; first | refine TK.consS rfl rfl ?_ | refine TK.fA ?_) | refine TK.nilV rfl rfl ?_) | (refine SQ.isSQ ?_; first | refine SQ.nil ?_ | refine SQ.stA ?_))
    repeat' (first | (refine SL.isSL ?_; first | (refine SL.isN ?_; first | refine SL.nA ?_ | refine SL.alloc rfl rfl (fun b => ?_) | refine SL.box rfl rfl rfl (fun b => ?_)) | (refine SL.isG ?_; first | refine SL.gF rfl rfl rfl ?_ | refine SL.gU rfl rfl rfl ?_ | refine SL.gA ?_) | (refine SL.isSt ?_; refine SL.stA ?_) | refine SL.nil ?_ | (refine SL.isG ?_; first | refine SL.gCase rfl rfl (fun e => ?_) (fun e => ?_) | refine SL.gCaseN rfl rfl (fun e => ?_) (fun e => ?_))) | (refine St.isSt ?_; first | refine St.seq ?_ | refine St.region ?_ | refine St.block ?_ | refine St.ret ?_ | refine St.skip ?_ | refine St.exit ?_ | refine St.condT rfl ?_ | refine St.condF rfl ?_ | refine St.condY rfl (by omega) ?_ | refine St.condZ rfl (by omega) ?_) | (refine Qs.isQs ?_; first | refine Qs.then_normal ?_ | refine Qs.then_rounds ?_ | refine Qs.then_ret ?_ | refine Qs.then_exit ?_ | refine Qs.block_normal ?_ | refine Qs.block_ret ?_ | refine Qs.block_here ?_ | refine Qs.block_other rfl ?_) | refine RS.step ?_)
    exact Qs.retV rfl rfl rfl
  | n o i1 =>
    intro ho hs h ht
    have s1 := onum_size o ho
    simp only [osz] at hs
    have c1 := i1 ho (by omega)
    refine FnV.enter Tryd.func25 rfl rfl rfl rfl fun w hg => ?_
    simp only [enc, onum]
    repeat' (first | refine SL.callV rfl (c1 _ ht) rfl ?_ | (refine SL.isSL ?_; first | (refine SL.isN ?_; first | refine SL.nA ?_ | refine SL.alloc rfl rfl (fun b => ?_) | refine SL.box rfl rfl rfl (fun b => ?_)) | (refine SL.isG ?_; first | refine SL.gF rfl rfl rfl ?_ | refine SL.gU rfl rfl rfl ?_ | refine SL.gA ?_) | (refine SL.isSt ?_; refine SL.stA ?_) | refine SL.nil ?_ | (refine SL.isG ?_; first | refine SL.gCase rfl rfl (fun e => ?_) (fun e => ?_) | refine SL.gCaseN rfl rfl (fun e => ?_) (fun e => ?_))) | (refine St.isSt ?_; first | refine St.seq ?_ | refine St.region ?_ | refine St.block ?_ | refine St.ret ?_ | refine St.skip ?_ | refine St.exit ?_ | refine St.condT rfl ?_ | refine St.condF rfl ?_ | refine St.condY rfl (by omega) ?_ | refine St.condZ rfl (by omega) ?_) | (refine Qs.isQs ?_; first | refine Qs.then_normal ?_ | refine Qs.then_rounds ?_ | refine Qs.then_ret ?_ | refine Qs.then_exit ?_ | refine Qs.block_normal ?_ | refine Qs.block_ret ?_ | refine Qs.block_here ?_ | refine Qs.block_other rfl ?_) | refine RS.step ?_)
    refine SL.lit rfl (by repeat (first | exact CellsL.nil | apply CellsL.cons rfl | apply CellsL.cons (cells_enc _) | apply CellsL.cons (One.cells (by assumption)))) rfl rfl rfl rfl rfl rfl (fun b h1 hle hb => ?_)
    refine SL.callV rfl (Call_v _ _ 1 _ [onum o] (Sl.lit hb) rfl (by simp) (by simp [bsum]; omega) (by omega) (by decide)) rfl ?_
    repeat' (first | (refine SL.isSL ?_; first | (refine SL.isN ?_; first | refine SL.nA ?_ | refine SL.alloc rfl rfl (fun b => ?_) | refine SL.box rfl rfl rfl (fun b => ?_)) | (refine SL.isG ?_; first | refine SL.gF rfl rfl rfl ?_ | refine SL.gU rfl rfl rfl ?_ | refine SL.gA ?_) | (refine SL.isSt ?_; refine SL.stA ?_) | refine SL.nil ?_ | (refine SL.isG ?_; first | refine SL.gCase rfl rfl (fun e => ?_) (fun e => ?_) | refine SL.gCaseN rfl rfl (fun e => ?_) (fun e => ?_))) | (refine St.isSt ?_; first | refine St.seq ?_ | refine St.region ?_ | refine St.block ?_ | refine St.ret ?_ | refine St.skip ?_ | refine St.exit ?_ | refine St.condT rfl ?_ | refine St.condF rfl ?_ | refine St.condY rfl (by omega) ?_ | refine St.condZ rfl (by omega) ?_) | (refine Qs.isQs ?_; first | refine Qs.then_normal ?_ | refine Qs.then_rounds ?_ | refine Qs.then_ret ?_ | refine Qs.then_exit ?_ | refine Qs.block_normal ?_ | refine Qs.block_ret ?_ | refine Qs.block_here ?_ | refine Qs.block_other rfl ?_) | refine RS.step ?_)
    exact Qs.retV rfl rfl rfl
  | m l r i1 i2 =>
    intro ho hs h ht
    have s1 := onum_size l ho.1
    have s2 := onum_size r ho.2
    simp only [osz] at hs
    have c1 := i1 ho.1 (by omega)
    have c2 := i2 ho.2 (by omega)
    refine FnV.enter Tryd.func25 rfl rfl rfl rfl fun w hg => ?_
    simp only [enc, onum]
    repeat' (first | (refine SL.isSL ?_; first | (refine SL.isN ?_; first | refine SL.nA ?_ | refine SL.alloc rfl rfl (fun b => ?_) | refine SL.box rfl rfl rfl (fun b => ?_)) | (refine SL.isG ?_; first | refine SL.gF rfl rfl rfl ?_ | refine SL.gU rfl rfl rfl ?_ | refine SL.gA ?_) | (refine SL.isSt ?_; refine SL.stA ?_) | refine SL.nil ?_ | (refine SL.isG ?_; first | refine SL.gCase rfl rfl (fun e => ?_) (fun e => ?_) | refine SL.gCaseN rfl rfl (fun e => ?_) (fun e => ?_))) | (refine St.isSt ?_; first | refine St.seq ?_ | refine St.region ?_ | refine St.block ?_ | refine St.ret ?_ | refine St.skip ?_ | refine St.exit ?_ | refine St.condT rfl ?_ | refine St.condF rfl ?_ | refine St.condY rfl (by omega) ?_ | refine St.condZ rfl (by omega) ?_) | (refine Qs.isQs ?_; first | refine Qs.then_normal ?_ | refine Qs.then_rounds ?_ | refine Qs.then_ret ?_ | refine Qs.then_exit ?_ | refine Qs.block_normal ?_ | refine Qs.block_ret ?_ | refine Qs.block_here ?_ | refine Qs.block_other rfl ?_) | refine RS.step ?_)
    refine St.drawV' 9 [2] rfl rfl rfl rfl rfl ?_
    repeat (first | (refine TK.isTK ?_; first | refine TK.cons rfl rfl (Ob.callV rfl rfl (fun h' hle => c1 h' (ht.le hle))) rfl ?_ | refine TK.cons rfl rfl (Ob.callV rfl rfl (fun h' hle => c2 h' (ht.le hle))) rfl ?_ | refine TK.cons rfl rfl (Ob.q 51 rfl rfl (fun x h1 hle hq => Ob.callV rfl rfl (Call_up (l := [onum l, onum r]) hq _ rfl (by simp) (by simp [bsum]; omega) (by omega) (by decide)))) rfl ?_ | (refine TK.isHead rfl ?_; first | (refine TK.isN ?_; first | refine TK.nA ?_ | refine TK.litA ?_) | (refine TK.isG ?_; first | refine TK.cons rfl rfl (Ob.gF rfl rfl rfl) rfl ?_ | refine TK.cons rfl rfl (Ob.gU rfl rfl rfl) rfl ?_ | refine TK.gA ?_)) | (refine TK.isTail rfl ?_; first | refine TK.consS rfl rfl ?_ | refine TK.fA ?_) | refine TK.nilV rfl rfl ?_) | (refine SQ.isSQ ?_; first | refine SQ.nil ?_ | refine SQ.stA ?_))
    repeat' (first | (refine SL.isSL ?_; first | (refine SL.isN ?_; first | refine SL.nA ?_ | refine SL.alloc rfl rfl (fun b => ?_) | refine SL.box rfl rfl rfl (fun b => ?_)) | (refine SL.isG ?_; first | refine SL.gF rfl rfl rfl ?_ | refine SL.gU rfl rfl rfl ?_ | refine SL.gA ?_) | (refine SL.isSt ?_; refine SL.stA ?_) | refine SL.nil ?_ | (refine SL.isG ?_; first | refine SL.gCase rfl rfl (fun e => ?_) (fun e => ?_) | refine SL.gCaseN rfl rfl (fun e => ?_) (fun e => ?_))) | (refine St.isSt ?_; first | refine St.seq ?_ | refine St.region ?_ | refine St.block ?_ | refine St.ret ?_ | refine St.skip ?_ | refine St.exit ?_ | refine St.condT rfl ?_ | refine St.condF rfl ?_ | refine St.condY rfl (by omega) ?_ | refine St.condZ rfl (by omega) ?_) | (refine Qs.isQs ?_; first | refine Qs.then_normal ?_ | refine Qs.then_rounds ?_ | refine Qs.then_ret ?_ | refine Qs.then_exit ?_ | refine Qs.block_normal ?_ | refine Qs.block_ret ?_ | refine Qs.block_here ?_ | refine Qs.block_other rfl ?_) | refine RS.step ?_)
    exact Qs.retV rfl rfl rfl
  | x l r i1 i2 =>
    intro ho hs h ht
    have s1 := onum_size l ho.1
    have s2 := onum_size r ho.2
    simp only [osz] at hs
    have c1 := i1 ho.1 (by omega)
    have c2 := i2 ho.2 (by omega)
    refine FnV.enter Tryd.func25 rfl rfl rfl rfl fun w hg => ?_
    simp only [enc, onum]
    repeat' (first | (refine SL.isSL ?_; first | (refine SL.isN ?_; first | refine SL.nA ?_ | refine SL.alloc rfl rfl (fun b => ?_) | refine SL.box rfl rfl rfl (fun b => ?_)) | (refine SL.isG ?_; first | refine SL.gF rfl rfl rfl ?_ | refine SL.gU rfl rfl rfl ?_ | refine SL.gA ?_) | (refine SL.isSt ?_; refine SL.stA ?_) | refine SL.nil ?_ | (refine SL.isG ?_; first | refine SL.gCase rfl rfl (fun e => ?_) (fun e => ?_) | refine SL.gCaseN rfl rfl (fun e => ?_) (fun e => ?_))) | (refine St.isSt ?_; first | refine St.seq ?_ | refine St.region ?_ | refine St.block ?_ | refine St.ret ?_ | refine St.skip ?_ | refine St.exit ?_ | refine St.condT rfl ?_ | refine St.condF rfl ?_ | refine St.condY rfl (by omega) ?_ | refine St.condZ rfl (by omega) ?_) | (refine Qs.isQs ?_; first | refine Qs.then_normal ?_ | refine Qs.then_rounds ?_ | refine Qs.then_ret ?_ | refine Qs.then_exit ?_ | refine Qs.block_normal ?_ | refine Qs.block_ret ?_ | refine Qs.block_here ?_ | refine Qs.block_other rfl ?_) | refine RS.step ?_)
    refine St.drawV' 9 [2] rfl rfl rfl rfl rfl ?_
    repeat (first | (refine TK.isTK ?_; first | refine TK.cons rfl rfl (Ob.callV rfl rfl (fun h' hle => c1 h' (ht.le hle))) rfl ?_ | refine TK.cons rfl rfl (Ob.callV rfl rfl (fun h' hle => c2 h' (ht.le hle))) rfl ?_ | refine TK.cons rfl rfl (Ob.q 61 rfl rfl (fun x h1 hle hq => Ob.callV rfl rfl (Call_up (l := [onum l, onum r]) hq _ rfl (by simp) (by simp [bsum]; omega) (by omega) (by decide)))) rfl ?_ | (refine TK.isHead rfl ?_; first | (refine TK.isN ?_; first | refine TK.nA ?_ | refine TK.litA ?_) | (refine TK.isG ?_; first | refine TK.cons rfl rfl (Ob.gF rfl rfl rfl) rfl ?_ | refine TK.cons rfl rfl (Ob.gU rfl rfl rfl) rfl ?_ | refine TK.gA ?_)) | (refine TK.isTail rfl ?_; first | refine TK.consS rfl rfl ?_ | refine TK.fA ?_) | refine TK.nilV rfl rfl ?_) | (refine SQ.isSQ ?_; first | refine SQ.nil ?_ | refine SQ.stA ?_))
    repeat' (first | (refine SL.isSL ?_; first | (refine SL.isN ?_; first | refine SL.nA ?_ | refine SL.alloc rfl rfl (fun b => ?_) | refine SL.box rfl rfl rfl (fun b => ?_)) | (refine SL.isG ?_; first | refine SL.gF rfl rfl rfl ?_ | refine SL.gU rfl rfl rfl ?_ | refine SL.gA ?_) | (refine SL.isSt ?_; refine SL.stA ?_) | refine SL.nil ?_ | (refine SL.isG ?_; first | refine SL.gCase rfl rfl (fun e => ?_) (fun e => ?_) | refine SL.gCaseN rfl rfl (fun e => ?_) (fun e => ?_))) | (refine St.isSt ?_; first | refine St.seq ?_ | refine St.region ?_ | refine St.block ?_ | refine St.ret ?_ | refine St.skip ?_ | refine St.exit ?_ | refine St.condT rfl ?_ | refine St.condF rfl ?_ | refine St.condY rfl (by omega) ?_ | refine St.condZ rfl (by omega) ?_) | (refine Qs.isQs ?_; first | refine Qs.then_normal ?_ | refine Qs.then_rounds ?_ | refine Qs.then_ret ?_ | refine Qs.then_exit ?_ | refine Qs.block_normal ?_ | refine Qs.block_ret ?_ | refine Qs.block_here ?_ | refine Qs.block_other rfl ?_) | refine RS.step ?_)
    exact Qs.retV rfl rfl rfl
  | _ => exact fun h => absurd h (by simp [okO])
end Go.Proofs.YtfookachkcgdpaaDoor
