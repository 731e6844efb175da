/- Contracts: what the program says of one of them. Plain theorems; no condition. -/
import Derived.Test.YtfookachkcgdpaaDoorOf
set_option linter.unusedVariables false
set_option linter.unusedSimpArgs false
set_option maxRecDepth 100000
set_option maxHeartbeats 4000000
namespace Go.Proofs.YtfookachkcgdpaaDoor
open Go.RowKit
attribute [local irreducible] St SL Qs NOp TK SQ RS Fn FnV FnP

def tkind : Tm → Int
  | .z => 1 | .o _ => 2 | .g _ => 3 | .a _ _ => 4 | .r _ _ _ => 5 | .s _ _ => 6 | .w _ _ => 7 | .i _ _ _ => 8 | _ => 0
def town : Tm → ByteArray × Int
  | .o s => (s, 0) | .r s _ _ => (s, 0) | .w d _ => (ByteArray.empty, d) | _ => (ByteArray.empty, 0)
def tnum : Tm → Option Tm
  | .s o _ => some o | .i o _ _ => some o | _ => none
theorem Kind_v (h : GH) (t : Tm) : FnV Tryd.prog h 47 [enc t].toArray (.int .i64 (tkind t)) := by
  refine FnV.enter Tryd.func47 rfl rfl rfl rfl fun w hg => ?_
  cases t
  case v x =>
    rcases odd_ne (x := x) with e | ⟨t, y, e, h1, h2, h3, h4, h5, h6, h7, h8, h9, h10, h11, h12, h13, h14⟩
    all_goals
      simp only [enc, e, tkind]
      repeat' (first | (refine SL.isSL ?_; first | (refine SL.isN ?_; first | refine SL.nA ?_ | refine SL.alloc rfl rfl (fun b => ?_) | refine SL.box rfl rfl rfl (fun b => ?_)) | (refine SL.isG ?_; first | refine SL.gF rfl rfl rfl ?_ | refine SL.gU rfl rfl rfl ?_ | refine SL.gA ?_) | (refine SL.isSt ?_; refine SL.stA ?_) | refine SL.nil ?_ | (refine SL.isG ?_; first | refine SL.gCase rfl rfl (fun e => ?_) (fun e => ?_) | refine SL.gCaseN rfl rfl (fun e => ?_) (fun e => ?_))) | (refine St.isSt ?_; first | refine St.seq ?_ | refine St.region ?_ | refine St.block ?_ | refine St.ret ?_ | refine St.skip ?_ | refine St.exit ?_ | refine St.condT rfl ?_ | refine St.condF rfl ?_ | refine St.condY rfl (by omega) ?_ | refine St.condZ rfl (by omega) ?_) | (refine Qs.isQs ?_; first | refine Qs.then_normal ?_ | refine Qs.then_rounds ?_ | refine Qs.then_ret ?_ | refine Qs.then_exit ?_ | refine Qs.block_normal ?_ | refine Qs.block_ret ?_ | refine Qs.block_here ?_ | refine Qs.block_other rfl ?_) | refine RS.step ?_)
      exact Qs.retV rfl rfl rfl
  all_goals
    simp only [enc, tkind]
    repeat' (first | (refine SL.isSL ?_; first | (refine SL.isN ?_; first | refine SL.nA ?_ | refine SL.alloc rfl rfl (fun b => ?_) | refine SL.box rfl rfl rfl (fun b => ?_)) | (refine SL.isG ?_; first | refine SL.gF rfl rfl rfl ?_ | refine SL.gU rfl rfl rfl ?_ | refine SL.gA ?_) | (refine SL.isSt ?_; refine SL.stA ?_) | refine SL.nil ?_ | (refine SL.isG ?_; first | refine SL.gCase rfl rfl (fun e => ?_) (fun e => ?_) | refine SL.gCaseN rfl rfl (fun e => ?_) (fun e => ?_))) | (refine St.isSt ?_; first | refine St.seq ?_ | refine St.region ?_ | refine St.block ?_ | refine St.ret ?_ | refine St.skip ?_ | refine St.exit ?_ | refine St.condT rfl ?_ | refine St.condF rfl ?_ | refine St.condY rfl (by omega) ?_ | refine St.condZ rfl (by omega) ?_) | (refine Qs.isQs ?_; first | refine Qs.then_normal ?_ | refine Qs.then_rounds ?_ | refine Qs.then_ret ?_ | refine Qs.then_exit ?_ | refine Qs.block_normal ?_ | refine Qs.block_ret ?_ | refine Qs.block_here ?_ | refine Qs.block_other rfl ?_) | refine RS.step ?_)
    exact Qs.retV rfl rfl rfl
theorem Own_v (h : GH) (t : Tm) : FnV Tryd.prog h 46 [enc t].toArray (.tuple #[.string (town t).1, .int .i64 (town t).2]) := by
  refine FnV.enter Tryd.func46 rfl rfl rfl rfl fun w hg => ?_
  cases t
  case v x =>
    rcases odd_ne (x := x) with e | ⟨t, y, e, h1, h2, h3, h4, h5, h6, h7, h8, h9, h10, h11, h12, h13, h14⟩
    all_goals
      simp only [enc, e, town]
      repeat' (first | (refine SL.isSL ?_; first | (refine SL.isN ?_; first | refine SL.nA ?_ | refine SL.alloc rfl rfl (fun b => ?_) | refine SL.box rfl rfl rfl (fun b => ?_)) | (refine SL.isG ?_; first | refine SL.gF rfl rfl rfl ?_ | refine SL.gU rfl rfl rfl ?_ | refine SL.gA ?_) | (refine SL.isSt ?_; refine SL.stA ?_) | refine SL.nil ?_ | (refine SL.isG ?_; first | refine SL.gCase rfl rfl (fun e => ?_) (fun e => ?_) | refine SL.gCaseN rfl rfl (fun e => ?_) (fun e => ?_))) | (refine St.isSt ?_; first | refine St.seq ?_ | refine St.region ?_ | refine St.block ?_ | refine St.ret ?_ | refine St.skip ?_ | refine St.exit ?_ | refine St.condT rfl ?_ | refine St.condF rfl ?_ | refine St.condY rfl (by omega) ?_ | refine St.condZ rfl (by omega) ?_) | (refine Qs.isQs ?_; first | refine Qs.then_normal ?_ | refine Qs.then_rounds ?_ | refine Qs.then_ret ?_ | refine Qs.then_exit ?_ | refine Qs.block_normal ?_ | refine Qs.block_ret ?_ | refine Qs.block_here ?_ | refine Qs.block_other rfl ?_) | refine RS.step ?_)
      exact Qs.retV2 rfl rfl rfl rfl
  case w d u =>
    simp only [enc, town]
    repeat' (first | (refine SL.isSL ?_; first | (refine SL.isN ?_; first | refine SL.nA ?_ | refine SL.alloc rfl rfl (fun b => ?_) | refine SL.box rfl rfl rfl (fun b => ?_)) | (refine SL.isG ?_; first | refine SL.gF rfl rfl rfl ?_ | refine SL.gU rfl rfl rfl ?_ | refine SL.gA ?_) | (refine SL.isSt ?_; refine SL.stA ?_) | refine SL.nil ?_ | (refine SL.isG ?_; first | refine SL.gCase rfl rfl (fun e => ?_) (fun e => ?_) | refine SL.gCaseN rfl rfl (fun e => ?_) (fun e => ?_))) | (refine St.isSt ?_; first | refine St.seq ?_ | refine St.region ?_ | refine St.block ?_ | refine St.ret ?_ | refine St.skip ?_ | refine St.exit ?_ | refine St.condT rfl ?_ | refine St.condF rfl ?_ | refine St.condY rfl (by omega) ?_ | refine St.condZ rfl (by omega) ?_) | (refine Qs.isQs ?_; first | refine Qs.then_normal ?_ | refine Qs.then_rounds ?_ | refine Qs.then_ret ?_ | refine Qs.then_exit ?_ | refine Qs.block_normal ?_ | refine Qs.block_ret ?_ | refine Qs.block_here ?_ | refine Qs.block_other rfl ?_) | refine RS.step ?_)
    refine St.drawV' 4 [2, 3] rfl rfl rfl rfl rfl ?_
    repeat (first | (refine TK.isTK ?_; first | (refine TK.isHead rfl ?_; first | (refine TK.isN ?_; first | refine TK.nA ?_ | refine TK.litA ?_) | (refine TK.isG ?_; first | refine TK.cons rfl rfl (Ob.gF rfl rfl rfl) rfl ?_ | refine TK.cons rfl rfl (Ob.gU rfl rfl rfl) rfl ?_ | refine TK.gA ?_)) | (refine TK.isTail rfl ?_; first | refine TK.consS rfl rfl ?_ | refine TK.fA ?_) | refine TK.nilV rfl rfl ?_) | (refine SQ.isSQ ?_; first | refine SQ.nil ?_ | refine SQ.stA ?_))
    repeat' (first | (refine SL.isSL ?_; first | (refine SL.isN ?_; first | refine SL.nA ?_ | refine SL.alloc rfl rfl (fun b => ?_) | refine SL.box rfl rfl rfl (fun b => ?_)) | (refine SL.isG ?_; first | refine SL.gF rfl rfl rfl ?_ | refine SL.gU rfl rfl rfl ?_ | refine SL.gA ?_) | (refine SL.isSt ?_; refine SL.stA ?_) | refine SL.nil ?_ | (refine SL.isG ?_; first | refine SL.gCase rfl rfl (fun e => ?_) (fun e => ?_) | refine SL.gCaseN rfl rfl (fun e => ?_) (fun e => ?_))) | (refine St.isSt ?_; first | refine St.seq ?_ | refine St.region ?_ | refine St.block ?_ | refine St.ret ?_ | refine St.skip ?_ | refine St.exit ?_ | refine St.condT rfl ?_ | refine St.condF rfl ?_ | refine St.condY rfl (by omega) ?_ | refine St.condZ rfl (by omega) ?_) | (refine Qs.isQs ?_; first | refine Qs.then_normal ?_ | refine Qs.then_rounds ?_ | refine Qs.then_ret ?_ | refine Qs.then_exit ?_ | refine Qs.block_normal ?_ | refine Qs.block_ret ?_ | refine Qs.block_here ?_ | refine Qs.block_other rfl ?_) | refine RS.step ?_)
    exact Qs.retV2 rfl rfl rfl rfl
  all_goals
    simp only [enc, town]
    repeat' (first | (refine SL.isSL ?_; first | (refine SL.isN ?_; first | refine SL.nA ?_ | refine SL.alloc rfl rfl (fun b => ?_) | refine SL.box rfl rfl rfl (fun b => ?_)) | (refine SL.isG ?_; first | refine SL.gF rfl rfl rfl ?_ | refine SL.gU rfl rfl rfl ?_ | refine SL.gA ?_) | (refine SL.isSt ?_; refine SL.stA ?_) | refine SL.nil ?_ | (refine SL.isG ?_; first | refine SL.gCase rfl rfl (fun e => ?_) (fun e => ?_) | refine SL.gCaseN rfl rfl (fun e => ?_) (fun e => ?_))) | (refine St.isSt ?_; first | refine St.seq ?_ | refine St.region ?_ | refine St.block ?_ | refine St.ret ?_ | refine St.skip ?_ | refine St.exit ?_ | refine St.condT rfl ?_ | refine St.condF rfl ?_ | refine St.condY rfl (by omega) ?_ | refine St.condZ rfl (by omega) ?_) | (refine Qs.isQs ?_; first | refine Qs.then_normal ?_ | refine Qs.then_rounds ?_ | refine Qs.then_ret ?_ | refine Qs.then_exit ?_ | refine Qs.block_normal ?_ | refine Qs.block_ret ?_ | refine Qs.block_here ?_ | refine Qs.block_other rfl ?_) | refine RS.step ?_)
    exact Qs.retV2 rfl rfl rfl rfl
theorem Number_v (h : GH) (t : Tm) : FnV Tryd.prog h 49 [enc t].toArray (.tuple #[match tnum t with | some o => enc o | none => .nilIface, .bool (tnum t).isSome]) := by
  refine FnV.enter Tryd.func49 rfl rfl rfl rfl fun w hg => ?_
  cases t
  case v x =>
    rcases odd_ne (x := x) with e | ⟨t, y, e, h1, h2, h3, h4, h5, h6, h7, h8, h9, h10, h11, h12, h13, h14⟩
    all_goals
      simp only [enc, e, tnum]
      repeat' (first | (refine SL.isSL ?_; first | (refine SL.isN ?_; first | refine SL.nA ?_ | refine SL.alloc rfl rfl (fun b => ?_) | refine SL.box rfl rfl rfl (fun b => ?_)) | (refine SL.isG ?_; first | refine SL.gF rfl rfl rfl ?_ | refine SL.gU rfl rfl rfl ?_ | refine SL.gA ?_) | (refine SL.isSt ?_; refine SL.stA ?_) | refine SL.nil ?_ | (refine SL.isG ?_; first | refine SL.gCase rfl rfl (fun e => ?_) (fun e => ?_) | refine SL.gCaseN rfl rfl (fun e => ?_) (fun e => ?_))) | (refine St.isSt ?_; first | refine St.seq ?_ | refine St.region ?_ | refine St.block ?_ | refine St.ret ?_ | refine St.skip ?_ | refine St.exit ?_ | refine St.condT rfl ?_ | refine St.condF rfl ?_ | refine St.condY rfl (by omega) ?_ | refine St.condZ rfl (by omega) ?_) | (refine Qs.isQs ?_; first | refine Qs.then_normal ?_ | refine Qs.then_rounds ?_ | refine Qs.then_ret ?_ | refine Qs.then_exit ?_ | refine Qs.block_normal ?_ | refine Qs.block_ret ?_ | refine Qs.block_here ?_ | refine Qs.block_other rfl ?_) | refine RS.step ?_)
      exact Qs.retV2 rfl rfl rfl rfl
  all_goals
    simp only [enc, tnum]
    repeat' (first | (refine SL.isSL ?_; first | (refine SL.isN ?_; first | refine SL.nA ?_ | refine SL.alloc rfl rfl (fun b => ?_) | refine SL.box rfl rfl rfl (fun b => ?_)) | (refine SL.isG ?_; first | refine SL.gF rfl rfl rfl ?_ | refine SL.gU rfl rfl rfl ?_ | refine SL.gA ?_) | (refine SL.isSt ?_; refine SL.stA ?_) | refine SL.nil ?_ | (refine SL.isG ?_; first | refine SL.gCase rfl rfl (fun e => ?_) (fun e => ?_) | refine SL.gCaseN rfl rfl (fun e => ?_) (fun e => ?_))) | (refine St.isSt ?_; first | refine St.seq ?_ | refine St.region ?_ | refine St.block ?_ | refine St.ret ?_ | refine St.skip ?_ | refine St.exit ?_ | refine St.condT rfl ?_ | refine St.condF rfl ?_ | refine St.condY rfl (by omega) ?_ | refine St.condZ rfl (by omega) ?_) | (refine Qs.isQs ?_; first | refine Qs.then_normal ?_ | refine Qs.then_rounds ?_ | refine Qs.then_ret ?_ | refine Qs.then_exit ?_ | refine Qs.block_normal ?_ | refine Qs.block_ret ?_ | refine Qs.block_here ?_ | refine Qs.block_other rfl ?_) | refine RS.step ?_)
    exact Qs.retV2 rfl rfl rfl rfl
def join (a b : Int × Int) : Int × Int := (a.1 + b.1, mx a.2 b.2)
def add1 (a : Int × Int) : Int × Int := (a.1 + 1, a.2 + 1)
def tsize : Tm → Int × Int
  | .z => (1, 1)
  | .o _ => (1, 1)
  | .g a => add1 (join (0, 0) (tsize a))
  | .a l r => add1 (join (join (0, 0) (tsize l)) (tsize r))
  | .r _ l r => add1 (join (join (0, 0) (tsize l)) (tsize r))
  | .s o t => add1 (join (osize o) (tsize t))
  | .w _ t => add1 (join (0, 0) (tsize t))
  | .i o l r => add1 (join (join (osize o) (tsize l)) (tsize r))
  | _ => (0, 0)
def numS (t : Tm) : Int × Int := match tnum t with | some o => osize o | none => (0, 0)
theorem tsize_le (t : Tm) : 0 ≤ (tsize t).1 ∧ (tsize t).1 ≤ cnt t ∧ 0 ≤ (tsize t).2 ∧ (tsize t).2 ≤ cnt t := by
  induction t with
  | s o t _ ih => have := osize_le o; simp only [tsize, join, add1, cnt, mx]; (repeat' split) <;> omega
  | i o l r _ ih1 ih2 => have := osize_le o; simp only [tsize, join, add1, cnt, mx]; (repeat' split) <;> omega
  | _ => simp only [tsize, join, add1, cnt, mx] <;> (try (repeat' split)) <;> omega
theorem tnum_cnt {t o : Tm} (h : tnum t = some o) : cnt o < cnt t := by
  cases t <;> simp [tnum] at h
  all_goals subst h; simp only [cnt]; omega
theorem kids_cnt {t k : Tm} (hk : k ∈ kids t) : cnt k < cnt t := by
  cases t <;> simp [kids] at hk
  all_goals (try subst hk); (try rcases hk with rfl | rfl) <;> simp only [cnt] <;> omega
theorem kids_le (t : Tm) : (kids t).length ≤ 2 := by cases t <;> simp [kids]

set_option maxHeartbeats 8000000 in
theorem Size_v (t : Tm) : cnt t ≤ 1000000 → ∀ h : GH, FnV Tryd.prog h 32 [enc t].toArray (.tuple #[.int .i64 (tsize t).1, .int .i64 (tsize t).2]) := by
  have two : ∀ (t a b : Tm), cnt t ≤ 1000000 → kids t = [a, b] → tkind t ≠ 0 → tsize t = add1 (join (join (numS t) (tsize a)) (tsize b)) → cnt a ≤ 1000000 → cnt b ≤ 1000000 → (∀ h : GH, FnV Tryd.prog h 32 [enc a].toArray (.tuple #[.int .i64 (tsize a).1, .int .i64 (tsize a).2])) →
      (∀ h : GH, FnV Tryd.prog h 32 [enc b].toArray (.tuple #[.int .i64 (tsize b).1, .int .i64 (tsize b).2])) → ∀ h : GH, FnV Tryd.prog h 32 [enc t].toArray (.tuple #[.int .i64 (tsize t).1, .int .i64 (tsize t).2]) := by
    intro t a b hct hk hlf hsz hca hcb iha ihb h
    have ba := tsize_le a
    have bb := tsize_le b
    have hn := Number_v h t
    cases hnum : tnum t with
    | none =>
      rw [hnum] at hn
      have hs : numS t = (0, 0) := by simp only [numS, hnum]
      rw [hs] at hsz
      refine FnV.enter Tryd.func32 rfl rfl rfl rfl fun w hg => ?_
      repeat' (first | refine SL.callV rfl (Kind_v _ _) rfl ?_ | refine SL.callV rfl hn rfl ?_ | (refine SL.isSL ?_; first | (refine SL.isN ?_; first | refine SL.nA ?_ | refine SL.alloc rfl rfl (fun b => ?_) | refine SL.box rfl rfl rfl (fun b => ?_)) | (refine SL.isG ?_; first | refine SL.gF rfl rfl rfl ?_ | refine SL.gU rfl rfl rfl ?_ | refine SL.gA ?_) | (refine SL.isSt ?_; refine SL.stA ?_) | refine SL.nil ?_ | (refine SL.isG ?_; first | refine SL.gCase rfl rfl (fun e => ?_) (fun e => ?_) | refine SL.gCaseN rfl rfl (fun e => ?_) (fun e => ?_))) | (refine St.isSt ?_; first | refine St.seq ?_ | refine St.region ?_ | refine St.block ?_ | refine St.ret ?_ | refine St.skip ?_ | refine St.exit ?_ | refine St.condT rfl ?_ | refine St.condF rfl ?_ | refine St.condY rfl (by omega) ?_ | refine St.condZ rfl (by omega) ?_) | (refine Qs.isQs ?_; first | refine Qs.then_normal ?_ | refine Qs.then_rounds ?_ | refine Qs.then_ret ?_ | refine Qs.then_exit ?_ | refine Qs.block_normal ?_ | refine Qs.block_ret ?_ | refine Qs.block_here ?_ | refine Qs.block_other rfl ?_) | refine RS.step ?_)
      refine SL.callP rfl (Kids _ _) rfl (fun v h' hle hv => ?_)
      rw [hk] at hv
      obtain ⟨A, c, rfl, hc, hr⟩ := hv
      obtain ⟨kb, off, ar, te, fr, rfl, hb, hat⟩ := hr (by simp)
      have k0 : ar[off + (0 : Int).toNat * 1]? = some (enc a) := by simpa using hat 0 _ rfl
      have k1 : ar[off + (0 + 1 : Int).toNat * 1]? = some (enc b) := by simpa using hat 1 _ rfl
      repeat' (first | (refine SL.isSL ?_; first | (refine SL.isN ?_; first | refine SL.nA ?_ | refine SL.alloc rfl rfl (fun b => ?_) | refine SL.box rfl rfl rfl (fun b => ?_)) | (refine SL.isG ?_; first | refine SL.gF rfl rfl rfl ?_ | refine SL.gU rfl rfl rfl ?_ | refine SL.gA ?_) | (refine SL.isSt ?_; refine SL.stA ?_) | refine SL.nil ?_ | (refine SL.isG ?_; first | refine SL.gCase rfl rfl (fun e => ?_) (fun e => ?_) | refine SL.gCaseN rfl rfl (fun e => ?_) (fun e => ?_))) | (refine St.isSt ?_; first | refine St.seq ?_ | refine St.region ?_ | refine St.block ?_ | refine St.ret ?_ | refine St.skip ?_ | refine St.exit ?_ | refine St.condT rfl ?_ | refine St.condF rfl ?_ | refine St.condY rfl (by omega) ?_ | refine St.condZ rfl (by omega) ?_) | (refine Qs.isQs ?_; first | refine Qs.then_normal ?_ | refine Qs.then_rounds ?_ | refine Qs.then_ret ?_ | refine Qs.then_exit ?_ | refine Qs.block_normal ?_ | refine Qs.block_ret ?_ | refine Qs.block_here ?_ | refine Qs.block_other rfl ?_) | refine RS.step ?_)
      refine St.loopN 3 ?_
      repeat' (first | refine SL.callV rfl (iha _) rfl ?_ | refine SL.callV rfl (ihb _) rfl ?_ | refine SL.n (NOp.idx rfl rfl (by simp)) rfl ?_ | refine SL.n (NOp.ldH rfl hb k0) rfl ?_ | refine SL.n (NOp.ldH rfl hb k1) rfl ?_ | refine SL.n (NOp.max2 rfl rfl) rfl ?_ | (refine SL.isSL ?_; first | (refine SL.isN ?_; first | refine SL.nA ?_ | refine SL.alloc rfl rfl (fun b => ?_) | refine SL.box rfl rfl rfl (fun b => ?_)) | (refine SL.isG ?_; first | refine SL.gF rfl rfl rfl ?_ | refine SL.gU rfl rfl rfl ?_ | refine SL.gA ?_) | (refine SL.isSt ?_; refine SL.stA ?_) | refine SL.nil ?_ | (refine SL.isG ?_; first | refine SL.gCase rfl rfl (fun e => ?_) (fun e => ?_) | refine SL.gCaseN rfl rfl (fun e => ?_) (fun e => ?_))) | (refine St.isSt ?_; first | refine St.seq ?_ | refine St.region ?_ | refine St.block ?_ | refine St.ret ?_ | refine St.skip ?_ | refine St.exit ?_ | refine St.condT rfl ?_ | refine St.condF rfl ?_ | refine St.condY rfl (by omega) ?_ | refine St.condZ rfl (by omega) ?_) | (refine Qs.isQs ?_; first | refine Qs.then_normal ?_ | refine Qs.then_rounds ?_ | refine Qs.then_ret ?_ | refine Qs.then_exit ?_ | refine Qs.block_normal ?_ | refine Qs.block_ret ?_ | refine Qs.block_here ?_ | refine Qs.block_other rfl ?_) | refine RS.step ?_)
      refine Qs.retV2 rfl rfl (lk_eq rfl ?_) (lk_eq rfl ?_)
      · rw [hsz]
        rfl
      · rw [hsz]; rfl
    | some o =>
      rw [hnum] at hn
      have hs : numS t = osize o := by simp only [numS, hnum]
      have hco := tnum_cnt hnum
      have bo := osize_le o
      have ho : ∀ h : GH, _ := OSize_v o (by omega)
      rw [hs] at hsz
      refine FnV.enter Tryd.func32 rfl rfl rfl rfl fun w hg => ?_
      repeat' (first | refine SL.callV rfl (Kind_v _ _) rfl ?_ | refine SL.callV rfl hn rfl ?_ | refine SL.callV rfl (ho _) rfl ?_ | (refine SL.isSL ?_; first | (refine SL.isN ?_; first | refine SL.nA ?_ | refine SL.alloc rfl rfl (fun b => ?_) | refine SL.box rfl rfl rfl (fun b => ?_)) | (refine SL.isG ?_; first | refine SL.gF rfl rfl rfl ?_ | refine SL.gU rfl rfl rfl ?_ | refine SL.gA ?_) | (refine SL.isSt ?_; refine SL.stA ?_) | refine SL.nil ?_ | (refine SL.isG ?_; first | refine SL.gCase rfl rfl (fun e => ?_) (fun e => ?_) | refine SL.gCaseN rfl rfl (fun e => ?_) (fun e => ?_))) | (refine St.isSt ?_; first | refine St.seq ?_ | refine St.region ?_ | refine St.block ?_ | refine St.ret ?_ | refine St.skip ?_ | refine St.exit ?_ | refine St.condT rfl ?_ | refine St.condF rfl ?_ | refine St.condY rfl (by omega) ?_ | refine St.condZ rfl (by omega) ?_) | (refine Qs.isQs ?_; first | refine Qs.then_normal ?_ | refine Qs.then_rounds ?_ | refine Qs.then_ret ?_ | refine Qs.then_exit ?_ | refine Qs.block_normal ?_ | refine Qs.block_ret ?_ | refine Qs.block_here ?_ | refine Qs.block_other rfl ?_) | refine RS.step ?_)
      refine SL.callP rfl (Kids _ _) rfl (fun v h' hle hv => ?_)
      rw [hk] at hv
      obtain ⟨A, c, rfl, hc, hr⟩ := hv
      obtain ⟨kb, off, ar, te, fr, rfl, hb, hat⟩ := hr (by simp)
      have k0 : ar[off + (0 : Int).toNat * 1]? = some (enc a) := by simpa using hat 0 _ rfl
      have k1 : ar[off + (0 + 1 : Int).toNat * 1]? = some (enc b) := by simpa using hat 1 _ rfl
      repeat' (first | (refine SL.isSL ?_; first | (refine SL.isN ?_; first | refine SL.nA ?_ | refine SL.alloc rfl rfl (fun b => ?_) | refine SL.box rfl rfl rfl (fun b => ?_)) | (refine SL.isG ?_; first | refine SL.gF rfl rfl rfl ?_ | refine SL.gU rfl rfl rfl ?_ | refine SL.gA ?_) | (refine SL.isSt ?_; refine SL.stA ?_) | refine SL.nil ?_ | (refine SL.isG ?_; first | refine SL.gCase rfl rfl (fun e => ?_) (fun e => ?_) | refine SL.gCaseN rfl rfl (fun e => ?_) (fun e => ?_))) | (refine St.isSt ?_; first | refine St.seq ?_ | refine St.region ?_ | refine St.block ?_ | refine St.ret ?_ | refine St.skip ?_ | refine St.exit ?_ | refine St.condT rfl ?_ | refine St.condF rfl ?_ | refine St.condY rfl (by omega) ?_ | refine St.condZ rfl (by omega) ?_) | (refine Qs.isQs ?_; first | refine Qs.then_normal ?_ | refine Qs.then_rounds ?_ | refine Qs.then_ret ?_ | refine Qs.then_exit ?_ | refine Qs.block_normal ?_ | refine Qs.block_ret ?_ | refine Qs.block_here ?_ | refine Qs.block_other rfl ?_) | refine RS.step ?_)
      refine St.loopN 3 ?_
      repeat' (first | refine SL.callV rfl (iha _) rfl ?_ | refine SL.callV rfl (ihb _) rfl ?_ | refine SL.n (NOp.idx rfl rfl (by simp)) rfl ?_ | refine SL.n (NOp.ldH rfl hb k0) rfl ?_ | refine SL.n (NOp.ldH rfl hb k1) rfl ?_ | refine SL.n (NOp.max2 rfl rfl) rfl ?_ | (refine SL.isSL ?_; first | (refine SL.isN ?_; first | refine SL.nA ?_ | refine SL.alloc rfl rfl (fun b => ?_) | refine SL.box rfl rfl rfl (fun b => ?_)) | (refine SL.isG ?_; first | refine SL.gF rfl rfl rfl ?_ | refine SL.gU rfl rfl rfl ?_ | refine SL.gA ?_) | (refine SL.isSt ?_; refine SL.stA ?_) | refine SL.nil ?_ | (refine SL.isG ?_; first | refine SL.gCase rfl rfl (fun e => ?_) (fun e => ?_) | refine SL.gCaseN rfl rfl (fun e => ?_) (fun e => ?_))) | (refine St.isSt ?_; first | refine St.seq ?_ | refine St.region ?_ | refine St.block ?_ | refine St.ret ?_ | refine St.skip ?_ | refine St.exit ?_ | refine St.condT rfl ?_ | refine St.condF rfl ?_ | refine St.condY rfl (by omega) ?_ | refine St.condZ rfl (by omega) ?_) | (refine Qs.isQs ?_; first | refine Qs.then_normal ?_ | refine Qs.then_rounds ?_ | refine Qs.then_ret ?_ | refine Qs.then_exit ?_ | refine Qs.block_normal ?_ | refine Qs.block_ret ?_ | refine Qs.block_here ?_ | refine Qs.block_other rfl ?_) | refine RS.step ?_)
      refine Qs.retV2 rfl rfl (lk_eq rfl ?_) (lk_eq rfl ?_)
      · rw [hsz]; rfl
      · rw [hsz]; rfl
  have one : ∀ (t a : Tm), cnt t ≤ 1000000 → kids t = [a] → tkind t ≠ 0 → tsize t = add1 (join (numS t) (tsize a)) → cnt a ≤ 1000000 → (∀ h : GH, FnV Tryd.prog h 32 [enc a].toArray (.tuple #[.int .i64 (tsize a).1, .int .i64 (tsize a).2])) →
      ∀ h : GH, FnV Tryd.prog h 32 [enc t].toArray (.tuple #[.int .i64 (tsize t).1, .int .i64 (tsize t).2]) := by
    intro t a hct hk hlf hsz hca iha h
    have ba := tsize_le a
    have hn := Number_v h t
    cases hnum : tnum t with
    | none =>
      rw [hnum] at hn
      have hs : numS t = (0, 0) := by simp only [numS, hnum]
      rw [hs] at hsz
      refine FnV.enter Tryd.func32 rfl rfl rfl rfl fun w hg => ?_
      repeat' (first | refine SL.callV rfl (Kind_v _ _) rfl ?_ | refine SL.callV rfl hn rfl ?_ | (refine SL.isSL ?_; first | (refine SL.isN ?_; first | refine SL.nA ?_ | refine SL.alloc rfl rfl (fun b => ?_) | refine SL.box rfl rfl rfl (fun b => ?_)) | (refine SL.isG ?_; first | refine SL.gF rfl rfl rfl ?_ | refine SL.gU rfl rfl rfl ?_ | refine SL.gA ?_) | (refine SL.isSt ?_; refine SL.stA ?_) | refine SL.nil ?_ | (refine SL.isG ?_; first | refine SL.gCase rfl rfl (fun e => ?_) (fun e => ?_) | refine SL.gCaseN rfl rfl (fun e => ?_) (fun e => ?_))) | (refine St.isSt ?_; first | refine St.seq ?_ | refine St.region ?_ | refine St.block ?_ | refine St.ret ?_ | refine St.skip ?_ | refine St.exit ?_ | refine St.condT rfl ?_ | refine St.condF rfl ?_ | refine St.condY rfl (by omega) ?_ | refine St.condZ rfl (by omega) ?_) | (refine Qs.isQs ?_; first | refine Qs.then_normal ?_ | refine Qs.then_rounds ?_ | refine Qs.then_ret ?_ | refine Qs.then_exit ?_ | refine Qs.block_normal ?_ | refine Qs.block_ret ?_ | refine Qs.block_here ?_ | refine Qs.block_other rfl ?_) | refine RS.step ?_)
      refine SL.callP rfl (Kids _ _) rfl (fun v h' hle hv => ?_)
      rw [hk] at hv
      obtain ⟨A, c, rfl, hc, hr⟩ := hv
      obtain ⟨kb, off, ar, te, fr, rfl, hb, hat⟩ := hr (by simp)
      have k0 : ar[off + (0 : Int).toNat * 1]? = some (enc a) := by simpa using hat 0 _ rfl
      repeat' (first | (refine SL.isSL ?_; first | (refine SL.isN ?_; first | refine SL.nA ?_ | refine SL.alloc rfl rfl (fun b => ?_) | refine SL.box rfl rfl rfl (fun b => ?_)) | (refine SL.isG ?_; first | refine SL.gF rfl rfl rfl ?_ | refine SL.gU rfl rfl rfl ?_ | refine SL.gA ?_) | (refine SL.isSt ?_; refine SL.stA ?_) | refine SL.nil ?_ | (refine SL.isG ?_; first | refine SL.gCase rfl rfl (fun e => ?_) (fun e => ?_) | refine SL.gCaseN rfl rfl (fun e => ?_) (fun e => ?_))) | (refine St.isSt ?_; first | refine St.seq ?_ | refine St.region ?_ | refine St.block ?_ | refine St.ret ?_ | refine St.skip ?_ | refine St.exit ?_ | refine St.condT rfl ?_ | refine St.condF rfl ?_ | refine St.condY rfl (by omega) ?_ | refine St.condZ rfl (by omega) ?_) | (refine Qs.isQs ?_; first | refine Qs.then_normal ?_ | refine Qs.then_rounds ?_ | refine Qs.then_ret ?_ | refine Qs.then_exit ?_ | refine Qs.block_normal ?_ | refine Qs.block_ret ?_ | refine Qs.block_here ?_ | refine Qs.block_other rfl ?_) | refine RS.step ?_)
      refine St.loopN 2 ?_
      repeat' (first | refine SL.callV rfl (iha _) rfl ?_ | refine SL.n (NOp.idx rfl rfl (by simp)) rfl ?_ | refine SL.n (NOp.ldH rfl hb k0) rfl ?_ | refine SL.n (NOp.max2 rfl rfl) rfl ?_ | (refine SL.isSL ?_; first | (refine SL.isN ?_; first | refine SL.nA ?_ | refine SL.alloc rfl rfl (fun b => ?_) | refine SL.box rfl rfl rfl (fun b => ?_)) | (refine SL.isG ?_; first | refine SL.gF rfl rfl rfl ?_ | refine SL.gU rfl rfl rfl ?_ | refine SL.gA ?_) | (refine SL.isSt ?_; refine SL.stA ?_) | refine SL.nil ?_ | (refine SL.isG ?_; first | refine SL.gCase rfl rfl (fun e => ?_) (fun e => ?_) | refine SL.gCaseN rfl rfl (fun e => ?_) (fun e => ?_))) | (refine St.isSt ?_; first | refine St.seq ?_ | refine St.region ?_ | refine St.block ?_ | refine St.ret ?_ | refine St.skip ?_ | refine St.exit ?_ | refine St.condT rfl ?_ | refine St.condF rfl ?_ | refine St.condY rfl (by omega) ?_ | refine St.condZ rfl (by omega) ?_) | (refine Qs.isQs ?_; first | refine Qs.then_normal ?_ | refine Qs.then_rounds ?_ | refine Qs.then_ret ?_ | refine Qs.then_exit ?_ | refine Qs.block_normal ?_ | refine Qs.block_ret ?_ | refine Qs.block_here ?_ | refine Qs.block_other rfl ?_) | refine RS.step ?_)
      refine Qs.retV2 rfl rfl (lk_eq rfl ?_) (lk_eq rfl ?_)
      · rw [hsz]; rfl
      · rw [hsz]; rfl
    | some o =>
      rw [hnum] at hn
      have hs : numS t = osize o := by simp only [numS, hnum]
      have hco := tnum_cnt hnum
      have bo := osize_le o
      have ho : ∀ h : GH, _ := OSize_v o (by omega)
      rw [hs] at hsz
      refine FnV.enter Tryd.func32 rfl rfl rfl rfl fun w hg => ?_
      repeat' (first | refine SL.callV rfl (Kind_v _ _) rfl ?_ | refine SL.callV rfl hn rfl ?_ | refine SL.callV rfl (ho _) rfl ?_ | (refine SL.isSL ?_; first | (refine SL.isN ?_; first | refine SL.nA ?_ | refine SL.alloc rfl rfl (fun b => ?_) | refine SL.box rfl rfl rfl (fun b => ?_)) | (refine SL.isG ?_; first | refine SL.gF rfl rfl rfl ?_ | refine SL.gU rfl rfl rfl ?_ | refine SL.gA ?_) | (refine SL.isSt ?_; refine SL.stA ?_) | refine SL.nil ?_ | (refine SL.isG ?_; first | refine SL.gCase rfl rfl (fun e => ?_) (fun e => ?_) | refine SL.gCaseN rfl rfl (fun e => ?_) (fun e => ?_))) | (refine St.isSt ?_; first | refine St.seq ?_ | refine St.region ?_ | refine St.block ?_ | refine St.ret ?_ | refine St.skip ?_ | refine St.exit ?_ | refine St.condT rfl ?_ | refine St.condF rfl ?_ | refine St.condY rfl (by omega) ?_ | refine St.condZ rfl (by omega) ?_) | (refine Qs.isQs ?_; first | refine Qs.then_normal ?_ | refine Qs.then_rounds ?_ | refine Qs.then_ret ?_ | refine Qs.then_exit ?_ | refine Qs.block_normal ?_ | refine Qs.block_ret ?_ | refine Qs.block_here ?_ | refine Qs.block_other rfl ?_) | refine RS.step ?_)
      refine SL.callP rfl (Kids _ _) rfl (fun v h' hle hv => ?_)
      rw [hk] at hv
      obtain ⟨A, c, rfl, hc, hr⟩ := hv
      obtain ⟨kb, off, ar, te, fr, rfl, hb, hat⟩ := hr (by simp)
      have k0 : ar[off + (0 : Int).toNat * 1]? = some (enc a) := by simpa using hat 0 _ rfl
      repeat' (first | (refine SL.isSL ?_; first | (refine SL.isN ?_; first | refine SL.nA ?_ | refine SL.alloc rfl rfl (fun b => ?_) | refine SL.box rfl rfl rfl (fun b => ?_)) | (refine SL.isG ?_; first | refine SL.gF rfl rfl rfl ?_ | refine SL.gU rfl rfl rfl ?_ | refine SL.gA ?_) | (refine SL.isSt ?_; refine SL.stA ?_) | refine SL.nil ?_ | (refine SL.isG ?_; first | refine SL.gCase rfl rfl (fun e => ?_) (fun e => ?_) | refine SL.gCaseN rfl rfl (fun e => ?_) (fun e => ?_))) | (refine St.isSt ?_; first | refine St.seq ?_ | refine St.region ?_ | refine St.block ?_ | refine St.ret ?_ | refine St.skip ?_ | refine St.exit ?_ | refine St.condT rfl ?_ | refine St.condF rfl ?_ | refine St.condY rfl (by omega) ?_ | refine St.condZ rfl (by omega) ?_) | (refine Qs.isQs ?_; first | refine Qs.then_normal ?_ | refine Qs.then_rounds ?_ | refine Qs.then_ret ?_ | refine Qs.then_exit ?_ | refine Qs.block_normal ?_ | refine Qs.block_ret ?_ | refine Qs.block_here ?_ | refine Qs.block_other rfl ?_) | refine RS.step ?_)
      refine St.loopN 2 ?_
      repeat' (first | refine SL.callV rfl (iha _) rfl ?_ | refine SL.n (NOp.idx rfl rfl (by simp)) rfl ?_ | refine SL.n (NOp.ldH rfl hb k0) rfl ?_ | refine SL.n (NOp.max2 rfl rfl) rfl ?_ | (refine SL.isSL ?_; first | (refine SL.isN ?_; first | refine SL.nA ?_ | refine SL.alloc rfl rfl (fun b => ?_) | refine SL.box rfl rfl rfl (fun b => ?_)) | (refine SL.isG ?_; first | refine SL.gF rfl rfl rfl ?_ | refine SL.gU rfl rfl rfl ?_ | refine SL.gA ?_) | (refine SL.isSt ?_; refine SL.stA ?_) | refine SL.nil ?_ | (refine SL.isG ?_; first | refine SL.gCase rfl rfl (fun e => ?_) (fun e => ?_) | refine SL.gCaseN rfl rfl (fun e => ?_) (fun e => ?_))) | (refine St.isSt ?_; first | refine St.seq ?_ | refine St.region ?_ | refine St.block ?_ | refine St.ret ?_ | refine St.skip ?_ | refine St.exit ?_ | refine St.condT rfl ?_ | refine St.condF rfl ?_ | refine St.condY rfl (by omega) ?_ | refine St.condZ rfl (by omega) ?_) | (refine Qs.isQs ?_; first | refine Qs.then_normal ?_ | refine Qs.then_rounds ?_ | refine Qs.then_ret ?_ | refine Qs.then_exit ?_ | refine Qs.block_normal ?_ | refine Qs.block_ret ?_ | refine Qs.block_here ?_ | refine Qs.block_other rfl ?_) | refine RS.step ?_)
      refine Qs.retV2 rfl rfl (lk_eq rfl ?_) (lk_eq rfl ?_)
      · rw [hsz]; rfl
      · rw [hsz]; rfl
  have leaf : ∀ (t : Tm), kids t = [] → tnum t = none → tkind t ≠ 0 → tsize t = (1, 1) → ∀ h : GH, FnV Tryd.prog h 32 [enc t].toArray (.tuple #[.int .i64 (tsize t).1, .int .i64 (tsize t).2]) := by
    intro t hk hnum hlf hsz h
    have hn := Number_v h t
    rw [hnum] at hn
    refine FnV.enter Tryd.func32 rfl rfl rfl rfl fun w hg => ?_
    repeat' (first | refine SL.callV rfl (Kind_v _ _) rfl ?_ | refine SL.callV rfl hn rfl ?_ | (refine SL.isSL ?_; first | (refine SL.isN ?_; first | refine SL.nA ?_ | refine SL.alloc rfl rfl (fun b => ?_) | refine SL.box rfl rfl rfl (fun b => ?_)) | (refine SL.isG ?_; first | refine SL.gF rfl rfl rfl ?_ | refine SL.gU rfl rfl rfl ?_ | refine SL.gA ?_) | (refine SL.isSt ?_; refine SL.stA ?_) | refine SL.nil ?_ | (refine SL.isG ?_; first | refine SL.gCase rfl rfl (fun e => ?_) (fun e => ?_) | refine SL.gCaseN rfl rfl (fun e => ?_) (fun e => ?_))) | (refine St.isSt ?_; first | refine St.seq ?_ | refine St.region ?_ | refine St.block ?_ | refine St.ret ?_ | refine St.skip ?_ | refine St.exit ?_ | refine St.condT rfl ?_ | refine St.condF rfl ?_ | refine St.condY rfl (by omega) ?_ | refine St.condZ rfl (by omega) ?_) | (refine Qs.isQs ?_; first | refine Qs.then_normal ?_ | refine Qs.then_rounds ?_ | refine Qs.then_ret ?_ | refine Qs.then_exit ?_ | refine Qs.block_normal ?_ | refine Qs.block_ret ?_ | refine Qs.block_here ?_ | refine Qs.block_other rfl ?_) | refine RS.step ?_)
    refine SL.callP rfl (Kids _ _) rfl (fun v h' hle hv => ?_)
    rw [hk] at hv
    obtain ⟨A, c, rfl, hc, hr⟩ := hv
    repeat' (first | (refine SL.isSL ?_; first | (refine SL.isN ?_; first | refine SL.nA ?_ | refine SL.alloc rfl rfl (fun b => ?_) | refine SL.box rfl rfl rfl (fun b => ?_)) | (refine SL.isG ?_; first | refine SL.gF rfl rfl rfl ?_ | refine SL.gU rfl rfl rfl ?_ | refine SL.gA ?_) | (refine SL.isSt ?_; refine SL.stA ?_) | refine SL.nil ?_ | (refine SL.isG ?_; first | refine SL.gCase rfl rfl (fun e => ?_) (fun e => ?_) | refine SL.gCaseN rfl rfl (fun e => ?_) (fun e => ?_))) | (refine St.isSt ?_; first | refine St.seq ?_ | refine St.region ?_ | refine St.block ?_ | refine St.ret ?_ | refine St.skip ?_ | refine St.exit ?_ | refine St.condT rfl ?_ | refine St.condF rfl ?_ | refine St.condY rfl (by omega) ?_ | refine St.condZ rfl (by omega) ?_) | (refine Qs.isQs ?_; first | refine Qs.then_normal ?_ | refine Qs.then_rounds ?_ | refine Qs.then_ret ?_ | refine Qs.then_exit ?_ | refine Qs.block_normal ?_ | refine Qs.block_ret ?_ | refine Qs.block_here ?_ | refine Qs.block_other rfl ?_) | refine RS.step ?_)
    refine St.loopN 1 ?_
    repeat' (first | (refine SL.isSL ?_; first | (refine SL.isN ?_; first | refine SL.nA ?_ | refine SL.alloc rfl rfl (fun b => ?_) | refine SL.box rfl rfl rfl (fun b => ?_)) | (refine SL.isG ?_; first | refine SL.gF rfl rfl rfl ?_ | refine SL.gU rfl rfl rfl ?_ | refine SL.gA ?_) | (refine SL.isSt ?_; refine SL.stA ?_) | refine SL.nil ?_ | (refine SL.isG ?_; first | refine SL.gCase rfl rfl (fun e => ?_) (fun e => ?_) | refine SL.gCaseN rfl rfl (fun e => ?_) (fun e => ?_))) | (refine St.isSt ?_; first | refine St.seq ?_ | refine St.region ?_ | refine St.block ?_ | refine St.ret ?_ | refine St.skip ?_ | refine St.exit ?_ | refine St.condT rfl ?_ | refine St.condF rfl ?_ | refine St.condY rfl (by omega) ?_ | refine St.condZ rfl (by omega) ?_) | (refine Qs.isQs ?_; first | refine Qs.then_normal ?_ | refine Qs.then_rounds ?_ | refine Qs.then_ret ?_ | refine Qs.then_exit ?_ | refine Qs.block_normal ?_ | refine Qs.block_ret ?_ | refine Qs.block_here ?_ | refine Qs.block_other rfl ?_) | refine RS.step ?_)
    refine Qs.retV2 rfl rfl (lk_eq rfl ?_) (lk_eq rfl ?_)
    · rw [hsz]; rfl
    · rw [hsz]; rfl
  have zero : ∀ (t : Tm), tkind t = 0 → tsize t = (0, 0) → ∀ h : GH, FnV Tryd.prog h 32 [enc t].toArray (.tuple #[.int .i64 (tsize t).1, .int .i64 (tsize t).2]) := by
    intro t hk hsz h
    refine FnV.enter Tryd.func32 rfl rfl rfl rfl fun w hg => ?_
    repeat' (first | refine SL.callV rfl (Kind_v _ _) rfl ?_ | (refine SL.isSL ?_; first | (refine SL.isN ?_; first | refine SL.nA ?_ | refine SL.alloc rfl rfl (fun b => ?_) | refine SL.box rfl rfl rfl (fun b => ?_)) | (refine SL.isG ?_; first | refine SL.gF rfl rfl rfl ?_ | refine SL.gU rfl rfl rfl ?_ | refine SL.gA ?_) | (refine SL.isSt ?_; refine SL.stA ?_) | refine SL.nil ?_ | (refine SL.isG ?_; first | refine SL.gCase rfl rfl (fun e => ?_) (fun e => ?_) | refine SL.gCaseN rfl rfl (fun e => ?_) (fun e => ?_))) | (refine St.isSt ?_; first | refine St.seq ?_ | refine St.region ?_ | refine St.block ?_ | refine St.ret ?_ | refine St.skip ?_ | refine St.exit ?_ | refine St.condT rfl ?_ | refine St.condF rfl ?_ | refine St.condY rfl (by omega) ?_ | refine St.condZ rfl (by omega) ?_) | (refine Qs.isQs ?_; first | refine Qs.then_normal ?_ | refine Qs.then_rounds ?_ | refine Qs.then_ret ?_ | refine Qs.then_exit ?_ | refine Qs.block_normal ?_ | refine Qs.block_ret ?_ | refine Qs.block_here ?_ | refine Qs.block_other rfl ?_) | refine RS.step ?_)
    refine Qs.retV2 rfl rfl (lk_eq rfl ?_) (lk_eq rfl ?_)
    · rw [hsz]
    · rw [hsz]
  intro hc
  induction t with
  | z => exact leaf _ rfl rfl (by simp [tkind]) rfl
  | o s => exact leaf _ rfl rfl (by simp [tkind]) rfl
  | g a ih => have hc' := hc; simp only [cnt] at hc'; exact one _ a hc rfl (by simp [tkind]) rfl (by omega) (ih (by omega))
  | w d a ih => have hc' := hc; simp only [cnt] at hc'; exact one _ a hc rfl (by simp [tkind]) rfl (by omega) (ih (by omega))
  | s o a _ ih => have hc' := hc; simp only [cnt] at hc'; exact one _ a hc rfl (by simp [tkind]) rfl (by omega) (ih (by omega))
  | a l r ihl ihr => have hc' := hc; simp only [cnt] at hc'; exact two _ l r hc rfl (by simp [tkind]) rfl (by omega) (by omega) (ihl (by omega)) (ihr (by omega))
  | r s l r ihl ihr => have hc' := hc; simp only [cnt] at hc'; exact two _ l r hc rfl (by simp [tkind]) rfl (by omega) (by omega) (ihl (by omega)) (ihr (by omega))
  | i o l r _ ihl ihr => have hc' := hc; simp only [cnt] at hc'; exact two _ l r hc rfl (by simp [tkind]) rfl (by omega) (by omega) (ihl (by omega)) (ihr (by omega))
  | _ => exact zero _ rfl rfl
end Go.Proofs.YtfookachkcgdpaaDoor
