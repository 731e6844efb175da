/- The reference's words. Plain theorems; no condition. -/
import Derived.Test.YtfookachkcgdpaaDoorRl
set_option linter.unusedVariables false
set_option linter.unusedSimpArgs false
set_option maxRecDepth 100000
set_option maxHeartbeats 8000000
namespace Go.Proofs.YtfookachkcgdpaaDoor
open Go.RowKit
attribute [local irreducible] St SL Qs NOp TK SQ RS Fn FnV FnP

def words : List ByteArray := [⟨#[]⟩, ⟨#[122, 101, 114, 111]⟩, ⟨#[111, 110, 101]⟩, ⟨#[103, 105, 118, 101]⟩, ⟨#[97, 110, 100]⟩, ⟨#[111, 114]⟩, ⟨#[115, 99, 97, 108, 101]⟩, ⟨#[119, 104, 101, 110]⟩, ⟨#[105, 102]⟩, ⟨#[]⟩, ⟨#[]⟩, ⟨#[]⟩, ⟨#[102, 105, 120]⟩, ⟨#[97, 100, 100]⟩, ⟨#[110, 101, 103]⟩, ⟨#[109, 117, 108]⟩, ⟨#[109, 97, 120]⟩]
def wordOf (k : Int) : ByteArray := words.getD k.toNat ByteArray.empty
theorem Word_v (k : Int) (hk0 : 0 ≤ k) (hk1 : k < 17) (h : GH) : FnV Tryd.prog h 40 [.int .i64 k].toArray (.string (wordOf k)) := by
  have hv : (words.map Value.string).toArray[0 + k.toNat * 1]? = some (.string (wordOf k)) := by
    have hl : k.toNat < words.length := by show k.toNat < 17; omega
    simp [wordOf, List.getD_eq_getElem?_getD, List.getElem?_eq_getElem hl]
  refine FnV.enter Tryd.func40 rfl rfl rfl rfl fun w hg => ?_
  repeat' (first | (refine SL.isSL ?_; first | (refine SL.isN ?_; first | refine SL.nA ?_ | refine SL.alloc rfl rfl (fun b => ?_) | refine SL.box rfl rfl rfl (fun b => ?_)) | (refine SL.isG ?_; first | refine SL.gF rfl rfl rfl ?_ | refine SL.gU rfl rfl rfl ?_ | refine SL.gA ?_) | (refine SL.isSt ?_; refine SL.stA ?_) | refine SL.nil ?_ | (refine SL.isG ?_; first | refine SL.gCase rfl rfl (fun e => ?_) (fun e => ?_) | refine SL.gCaseN rfl rfl (fun e => ?_) (fun e => ?_))) | (refine St.isSt ?_; first | refine St.seq ?_ | refine St.region ?_ | refine St.block ?_ | refine St.ret ?_ | refine St.skip ?_ | refine St.exit ?_ | refine St.condT rfl ?_ | refine St.condF rfl ?_ | refine St.condY rfl (by omega) ?_ | refine St.condZ rfl (by omega) ?_) | (refine Qs.isQs ?_; first | refine Qs.then_normal ?_ | refine Qs.then_rounds ?_ | refine Qs.then_ret ?_ | refine Qs.then_exit ?_ | refine Qs.block_normal ?_ | refine Qs.block_ret ?_ | refine Qs.block_here ?_ | refine Qs.block_other rfl ?_) | refine RS.step ?_)
  refine SL.lit rfl (by repeat (first | exact CellsL.nil | apply CellsL.cons rfl | apply CellsL.cons (cells_enc _) | apply CellsL.cons (One.cells (by assumption)))) rfl rfl rfl rfl rfl rfl (fun b h1 hle hb => ?_)
  repeat' (first | refine SL.n (NOp.idx rfl rfl ⟨hk0, hk1⟩) rfl ?_ | refine SL.n (NOp.ldH rfl hb hv) rfl ?_ | (refine SL.isSL ?_; first | (refine SL.isN ?_; first | refine SL.nA ?_ | refine SL.alloc rfl rfl (fun b => ?_) | refine SL.box rfl rfl rfl (fun b => ?_)) | (refine SL.isG ?_; first | refine SL.gF rfl rfl rfl ?_ | refine SL.gU rfl rfl rfl ?_ | refine SL.gA ?_) | (refine SL.isSt ?_; refine SL.stA ?_) | refine SL.nil ?_ | (refine SL.isG ?_; first | refine SL.gCase rfl rfl (fun e => ?_) (fun e => ?_) | refine SL.gCaseN rfl rfl (fun e => ?_) (fun e => ?_))) | (refine St.isSt ?_; first | refine St.seq ?_ | refine St.region ?_ | refine St.block ?_ | refine St.ret ?_ | refine St.skip ?_ | refine St.exit ?_ | refine St.condT rfl ?_ | refine St.condF rfl ?_ | refine St.condY rfl (by omega) ?_ | refine St.condZ rfl (by omega) ?_) | (refine Qs.isQs ?_; first | refine Qs.then_normal ?_ | refine Qs.then_rounds ?_ | refine Qs.then_ret ?_ | refine Qs.then_exit ?_ | refine Qs.block_normal ?_ | refine Qs.block_ret ?_ | refine Qs.block_here ?_ | refine Qs.block_other rfl ?_) | refine RS.step ?_)
  exact Qs.retV rfl rfl rfl
end Go.Proofs.YtfookachkcgdpaaDoor
