/- Lists of texts: where one stands, and a contract's labels. Plain theorems; no condition. -/
import Derived.Test.YtfookachkcgdpaaDoorTf
set_option linter.unusedVariables false
set_option linter.unusedSimpArgs false
set_option maxRecDepth 100000
set_option maxHeartbeats 4000000
namespace Go.Proofs.YtfookachkcgdpaaDoor
open Go.RowKit
attribute [local irreducible] St SL Qs NOp TK SQ RS Fn FnV FnP

/-- Where the first of a list that is a given text stands, or minus one. -/
def sxOf (s : ByteArray) : List ByteArray → Nat → Int
  | [], _ => -1
  | a :: l, i => if s = a then (i : Int) else sxOf s l (i + 1)
def sIn (s : ByteArray) (l : List ByteArray) : Bool := l.any fun a => decide (s = a)
theorem sxOf_nonneg (s : ByteArray) : ∀ (l : List ByteArray) (i : Nat), decide (0 ≤ sxOf s l i) = sIn s l := by
  intro l
  induction l with
  | nil => intro i; simp [sxOf, sIn]
  | cons a l ih =>
    intro i
    simp only [sxOf, sIn, List.any_cons]
    by_cases h : s = a
    · simp [h]
    · have := ih (i + 1); simp only [h, decide_false, Bool.false_or, if_false]; exact this
theorem SIndex_v (h : GH) (v : Value) (n : Nat) (ss : List ByteArray) (s : ByteArray) (hs : Sl h v n (ss.map Value.string)) (hnl : ss.length = n) (hn : n ≤ 1000000) :
    FnV Tryd.prog h 53 [v, .string s].toArray (.int .i64 (sxOf s ss 0)) := by
  obtain ⟨A, cc, rfl, hc, hr⟩ := hs
  refine FnV.enter Tryd.func53 rfl rfl rfl rfl fun w hg => ?_
  repeat' (first | (refine SL.isSL ?_; first | (refine SL.isN ?_; first | refine SL.nA ?_ | refine SL.alloc rfl rfl (fun b => ?_) | refine SL.box rfl rfl rfl (fun b => ?_)) | (refine SL.isG ?_; first | refine SL.gF rfl rfl rfl ?_ | refine SL.gU rfl rfl rfl ?_ | refine SL.gA ?_) | (refine SL.isSt ?_; refine SL.stA ?_) | refine SL.nil ?_ | (refine SL.isG ?_; first | refine SL.gCase rfl rfl (fun e => ?_) (fun e => ?_) | refine SL.gCaseN rfl rfl (fun e => ?_) (fun e => ?_))) | (refine St.isSt ?_; first | refine St.seq ?_ | refine St.region ?_ | refine St.block ?_ | refine St.ret ?_ | refine St.skip ?_ | refine St.exit ?_ | refine St.condT rfl ?_ | refine St.condF rfl ?_ | refine St.condY rfl (by omega) ?_ | refine St.condZ rfl (by omega) ?_) | (refine Qs.isQs ?_; first | refine Qs.then_normal ?_ | refine Qs.then_rounds ?_ | refine Qs.then_ret ?_ | refine Qs.then_exit ?_ | refine Qs.block_normal ?_ | refine Qs.block_ret ?_ | refine Qs.block_here ?_ | refine Qs.block_other rfl ?_) | refine RS.step ?_)
  refine St.loop (α := List ByteArray × List ByteArray) (fun p => [(0, .slice A n cc), (1, .string s), (7, .int .i64 n), (8, .int .i64 p.1.length)]) (fun _ => h) (fun _ => []) (fun p => ss = p.1 ++ p.2 ∧ sxOf s ss 0 = sxOf s p.2 p.1.length) (fun p => p.2.length) ([], ss) ⟨rfl, rfl⟩ rfl rfl (by repeat (first | exact trivial | refine ⟨rfl, ?_⟩)) ?_
  rintro ⟨pre, rest⟩ ⟨e, hφ⟩
  dsimp only at e hφ ⊢
  cases rest with
  | nil =>
    have hl : n = pre.length := by rw [← hnl, e]; simp
    repeat' (first | (refine SL.isSL ?_; first | (refine SL.isN ?_; first | refine SL.nA ?_ | refine SL.alloc rfl rfl (fun b => ?_) | refine SL.box rfl rfl rfl (fun b => ?_)) | (refine SL.isG ?_; first | refine SL.gF rfl rfl rfl ?_ | refine SL.gU rfl rfl rfl ?_ | refine SL.gA ?_) | (refine SL.isSt ?_; refine SL.stA ?_) | refine SL.nil ?_ | (refine SL.isG ?_; first | refine SL.gCase rfl rfl (fun e => ?_) (fun e => ?_) | refine SL.gCaseN rfl rfl (fun e => ?_) (fun e => ?_))) | (refine St.isSt ?_; first | refine St.seq ?_ | refine St.region ?_ | refine St.block ?_ | refine St.ret ?_ | refine St.skip ?_ | refine St.exit ?_ | refine St.condT rfl ?_ | refine St.condF rfl ?_ | refine St.condY rfl (by omega) ?_ | refine St.condZ rfl (by omega) ?_) | (refine Qs.isQs ?_; first | refine Qs.then_normal ?_ | refine Qs.then_rounds ?_ | refine Qs.then_ret ?_ | refine Qs.then_exit ?_ | refine Qs.block_normal ?_ | refine Qs.block_ret ?_ | refine Qs.block_here ?_ | refine Qs.block_other rfl ?_) | refine RS.step ?_)
    refine Qs.retVe rfl rfl rfl ?_
    rw [hφ]; rfl
  | cons a rest =>
    have hl : n = pre.length + 1 + rest.length := by rw [← hnl, e]; simp; omega
    obtain ⟨kb, off, ar, te, fr, rfl, hb, hat⟩ := hr (by rw [e]; simp)
    have k0 : ar[off + (pre.length : Int).toNat * 1]? = some (.string a) := by
      have := hat pre.length (.string a) (by rw [e]; simp)
      simpa using this
    repeat' (first | refine SL.n (NOp.idx rfl rfl (by simp; omega)) rfl ?_ | refine SL.n (NOp.ldH rfl hb k0) rfl ?_ | (refine SL.isSL ?_; first | (refine SL.isN ?_; first | refine SL.nA ?_ | refine SL.alloc rfl rfl (fun b => ?_) | refine SL.box rfl rfl rfl (fun b => ?_)) | (refine SL.isG ?_; first | refine SL.gF rfl rfl rfl ?_ | refine SL.gU rfl rfl rfl ?_ | refine SL.gA ?_) | (refine SL.isSt ?_; refine SL.stA ?_) | refine SL.nil ?_ | (refine SL.isG ?_; first | refine SL.gCase rfl rfl (fun e => ?_) (fun e => ?_) | refine SL.gCaseN rfl rfl (fun e => ?_) (fun e => ?_))) | (refine St.isSt ?_; first | refine St.seq ?_ | refine St.region ?_ | refine St.block ?_ | refine St.ret ?_ | refine St.skip ?_ | refine St.exit ?_ | refine St.condT rfl ?_ | refine St.condF rfl ?_ | refine St.condY rfl (by omega) ?_ | refine St.condZ rfl (by omega) ?_) | (refine Qs.isQs ?_; first | refine Qs.then_normal ?_ | refine Qs.then_rounds ?_ | refine Qs.then_ret ?_ | refine Qs.then_exit ?_ | refine Qs.block_normal ?_ | refine Qs.block_ret ?_ | refine Qs.block_here ?_ | refine Qs.block_other rfl ?_) | refine RS.step ?_)
    refine St.condD rfl (fun e9 => ?_) (fun e9 => ?_)
    · repeat' (first | (refine SL.isSL ?_; first | (refine SL.isN ?_; first | refine SL.nA ?_ | refine SL.alloc rfl rfl (fun b => ?_) | refine SL.box rfl rfl rfl (fun b => ?_)) | (refine SL.isG ?_; first | refine SL.gF rfl rfl rfl ?_ | refine SL.gU rfl rfl rfl ?_ | refine SL.gA ?_) | (refine SL.isSt ?_; refine SL.stA ?_) | refine SL.nil ?_ | (refine SL.isG ?_; first | refine SL.gCase rfl rfl (fun e => ?_) (fun e => ?_) | refine SL.gCaseN rfl rfl (fun e => ?_) (fun e => ?_))) | (refine St.isSt ?_; first | refine St.seq ?_ | refine St.region ?_ | refine St.block ?_ | refine St.ret ?_ | refine St.skip ?_ | refine St.exit ?_ | refine St.condT rfl ?_ | refine St.condF rfl ?_ | refine St.condY rfl (by omega) ?_ | refine St.condZ rfl (by omega) ?_) | (refine Qs.isQs ?_; first | refine Qs.then_normal ?_ | refine Qs.then_rounds ?_ | refine Qs.then_ret ?_ | refine Qs.then_exit ?_ | refine Qs.block_normal ?_ | refine Qs.block_ret ?_ | refine Qs.block_here ?_ | refine Qs.block_other rfl ?_) | refine RS.step ?_)
      refine Qs.retVe rfl rfl rfl ?_
      rw [hφ]; simp [sxOf, e9]
    · repeat' (first | (refine SL.isSL ?_; first | (refine SL.isN ?_; first | refine SL.nA ?_ | refine SL.alloc rfl rfl (fun b => ?_) | refine SL.box rfl rfl rfl (fun b => ?_)) | (refine SL.isG ?_; first | refine SL.gF rfl rfl rfl ?_ | refine SL.gU rfl rfl rfl ?_ | refine SL.gA ?_) | (refine SL.isSt ?_; refine SL.stA ?_) | refine SL.nil ?_ | (refine SL.isG ?_; first | refine SL.gCase rfl rfl (fun e => ?_) (fun e => ?_) | refine SL.gCaseN rfl rfl (fun e => ?_) (fun e => ?_))) | (refine St.isSt ?_; first | refine St.seq ?_ | refine St.region ?_ | refine St.block ?_ | refine St.ret ?_ | refine St.skip ?_ | refine St.exit ?_ | refine St.condT rfl ?_ | refine St.condF rfl ?_ | refine St.condY rfl (by omega) ?_ | refine St.condZ rfl (by omega) ?_) | (refine Qs.isQs ?_; first | refine Qs.then_normal ?_ | refine Qs.then_rounds ?_ | refine Qs.then_ret ?_ | refine Qs.then_exit ?_ | refine Qs.block_normal ?_ | refine Qs.block_ret ?_ | refine Qs.block_here ?_ | refine Qs.block_other rfl ?_) | refine RS.step ?_)
      refine Some_.intro (pre ++ [a], rest) ⟨⟨by rw [e]; simp, by rw [hφ]; simp [sxOf, e9]⟩, by dsimp only; simp⟩ (fun _ _ x => x) rfl rfl ?_
      refine ⟨rfl, rfl, rfl, lk_eq rfl ?_, trivial⟩
      simp
theorem SContains_v (h : GH) (v : Value) (n : Nat) (ss : List ByteArray) (s : ByteArray) (hs : Sl h v n (ss.map Value.string)) (hnl : ss.length = n) (hn : n ≤ 1000000) :
    FnV Tryd.prog h 34 [v, .string s].toArray (.bool (sIn s ss)) := by
  obtain ⟨A, cc, rfl, hc, hr⟩ := id hs
  refine FnV.enter Tryd.func34 rfl rfl rfl rfl fun w hg => ?_
  repeat' (first | refine SL.callV rfl (SIndex_v _ _ n ss s hs hnl hn) rfl ?_ | (refine SL.isSL ?_; first | (refine SL.isN ?_; first | refine SL.nA ?_ | refine SL.alloc rfl rfl (fun b => ?_) | refine SL.box rfl rfl rfl (fun b => ?_)) | (refine SL.isG ?_; first | refine SL.gF rfl rfl rfl ?_ | refine SL.gU rfl rfl rfl ?_ | refine SL.gA ?_) | (refine SL.isSt ?_; refine SL.stA ?_) | refine SL.nil ?_ | (refine SL.isG ?_; first | refine SL.gCase rfl rfl (fun e => ?_) (fun e => ?_) | refine SL.gCaseN rfl rfl (fun e => ?_) (fun e => ?_))) | (refine St.isSt ?_; first | refine St.seq ?_ | refine St.region ?_ | refine St.block ?_ | refine St.ret ?_ | refine St.skip ?_ | refine St.exit ?_ | refine St.condT rfl ?_ | refine St.condF rfl ?_ | refine St.condY rfl (by omega) ?_ | refine St.condZ rfl (by omega) ?_) | (refine Qs.isQs ?_; first | refine Qs.then_normal ?_ | refine Qs.then_rounds ?_ | refine Qs.then_ret ?_ | refine Qs.then_exit ?_ | refine Qs.block_normal ?_ | refine Qs.block_ret ?_ | refine Qs.block_here ?_ | refine Qs.block_other rfl ?_) | refine RS.step ?_)
  refine Qs.retVe rfl rfl rfl ?_
  rw [← sxOf_nonneg s ss 0]
end Go.Proofs.YtfookachkcgdpaaDoor
