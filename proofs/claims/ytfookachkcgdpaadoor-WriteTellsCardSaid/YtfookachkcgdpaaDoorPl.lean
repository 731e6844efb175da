/- Trees turned into contracts and numbers: the walks. Plain theorems; no condition. -/
import Derived.Test.YtfookachkcgdpaaDoorMt
import Derived.Test.YtfookachkcgdpaaDoorPu
set_option linter.unusedVariables false
set_option linter.unusedSimpArgs false
set_option maxRecDepth 100000
set_option maxHeartbeats 8000000
namespace Go.Proofs.YtfookachkcgdpaaDoor
open Go.RowKit
def oddN : { v : Value // IsOdd v } := ⟨.nilIface, .inl rfl⟩
def obsOf : Tr → Tm
  | .t0 k s n => if k = 11 then .c n else if k = 12 then .f s else .v oddN
  | .t1 k s n a => if k = 14 then .n (obsOf a) else .v oddN
  | .t2 k s n a b => if k = 13 then .p (obsOf a) (obsOf b) else if k = 15 then .m (obsOf a) (obsOf b) else if k = 16 then .x (obsOf a) (obsOf b) else .v oddN
  | .t3 k s n a b c => .v oddN
def termOf : Tr → Tm
  | .t0 k s n => if k = 1 then .z else if k = 2 then .o s else .v oddN
  | .t1 k s n a => if k = 3 then .g (termOf a) else if k = 7 then .w n (termOf a) else .v oddN
  | .t2 k s n a b => if k = 4 then .a (termOf a) (termOf b) else if k = 5 then .r s (termOf a) (termOf b) else if k = 6 then .s (obsOf a) (termOf b) else .v oddN
  | .t3 k s n a b c => if k = 8 then .i (obsOf a) (termOf b) (termOf c) else .v oddN
theorem TK_.view2 {h : GH} {t : Tr} {K : Value} (hK : TK_ h t K) (hne : t.kids ≠ []) : ∃ kb off ar te fr c, K = .slice (some ⟨kb, off, none⟩) t.kids.length c ∧ h kb = some (.cells ar te fr) ∧ ∀ (i : Nat) a, t.kids[i]? = some a → ∃ Ki, TK_ h a Ki ∧ ∀ j v, (fl a.kind a.s a.n Ki)[j]? = some v → ar[off + (i : Int).toNat * 4 + j]? = some v := by
  obtain ⟨A, c, rfl, hc, hkid⟩ := hK.view
  have h0 : 0 < t.kids.length := by cases hk : t.kids with
    | nil => exact absurd hk hne
    | cons a l => simp
  obtain ⟨kb, off, ar, te, fr, K0, rfl, hb, _, _⟩ := hkid 0 t.kids[0] (by simp [h0])
  refine ⟨kb, off, ar, te, fr, c, rfl, hb, fun i a hi => ?_⟩
  obtain ⟨kb2, off2, ar2, te2, fr2, Ki, he, hb2, hK2, hat2⟩ := hkid i a hi
  injection he with he
  injection he with he1 he2
  subst he1 he2
  rw [hb] at hb2
  injection hb2 with hb2
  injection hb2 with hb2 _ _
  subst hb2
  exact ⟨Ki, hK2, fun j v hj => by simpa using hat2 j v hj⟩
attribute [local irreducible] St SL Qs NOp TK SQ RS Fn FnV FnP

theorem Obs_v (t : Tr) : wfT t → ∀ (h : GH) (K : Value), TK_ h t K → FnV Tryd.prog h 17 [TrV t K].toArray (enc (obsOf t)) := by
  induction t with
  | t0 k s n =>
    intro hw h K hK
    obtain ⟨A, c, rfl, hc, -⟩ := hK
    rcases hw with rfl | rfl | rfl | rfl | rfl
    all_goals (
      refine FnV.enter Tryd.func17 rfl rfl rfl rfl fun w hg => ?_
      simp only [TrV, fl, Tr.kind, Tr.s, Tr.n]
      repeat' (first | (refine SL.isSL ?_; first | (refine SL.isN ?_; first | refine SL.nA ?_ | refine SL.alloc rfl rfl (fun b => ?_) | refine SL.box rfl rfl rfl (fun b => ?_)) | (refine SL.isG ?_; first | refine SL.gF rfl rfl rfl ?_ | refine SL.gU rfl rfl rfl ?_ | refine SL.gA ?_) | (refine SL.isSt ?_; refine SL.stA ?_) | refine SL.nil ?_ | (refine SL.isG ?_; first | refine SL.gCase rfl rfl (fun e => ?_) (fun e => ?_) | refine SL.gCaseN rfl rfl (fun e => ?_) (fun e => ?_))) | (refine St.isSt ?_; first | refine St.seq ?_ | refine St.region ?_ | refine St.block ?_ | refine St.ret ?_ | refine St.skip ?_ | refine St.exit ?_ | refine St.condT rfl ?_ | refine St.condF rfl ?_ | refine St.condY rfl (by omega) ?_ | refine St.condZ rfl (by omega) ?_) | (refine Qs.isQs ?_; first | refine Qs.then_normal ?_ | refine Qs.then_rounds ?_ | refine Qs.then_ret ?_ | refine Qs.then_exit ?_ | refine Qs.block_normal ?_ | refine Qs.block_ret ?_ | refine Qs.block_here ?_ | refine Qs.block_other rfl ?_) | refine RS.step ?_)
      exact Qs.retV rfl rfl rfl)
  | t1 k s n a ia =>
    intro hw h K hK
    obtain ⟨hk, hwa⟩ := hw
    obtain ⟨kb, off, ar, te, fr, c, rfl, hb, hkid⟩ := hK.view2 (by simp [Tr.kids])
    obtain ⟨KA, hA, hatA⟩ := hkid 0 a rfl
    have ca := ia hwa
    rcases hk with rfl | rfl | rfl
    all_goals (
      refine FnV.enter Tryd.func17 rfl rfl rfl rfl fun w hg => ?_
      simp only [TrV, fl, Tr.kind, Tr.s, Tr.n]
      repeat' (first | (refine SL.isSL ?_; first | (refine SL.isIdx ?_; first | (refine SL.isN ?_; refine SL.n (NOp.idx rfl rfl (by simp [Tr.kids])) rfl ?_) | (refine SL.isG ?_; refine SL.gT rfl rfl (NOp.idx rfl rfl (by simp [Tr.kids])) rfl ?_)) | (refine SL.isLd ?_; first | (refine SL.isN ?_; refine SL.n (NOp.ldHA (vs := fl a.kind a.s a.n KA) rfl hb rfl hatA) rfl ?_) | (refine SL.isG ?_; refine SL.gT rfl rfl (NOp.ldHA (vs := fl a.kind a.s a.n KA) rfl hb rfl hatA) rfl ?_)) | (refine SL.isCallF 17 ?_; first | (refine SL.isN ?_; refine SL.callV rfl (ca _ _ hA) rfl ?_) | (refine SL.isG ?_; refine SL.callVT rfl rfl rfl (ca _ _ hA) rfl ?_)) | (refine SL.isN ?_; first | refine SL.nA ?_ | refine SL.alloc rfl rfl (fun b => ?_) | refine SL.box rfl rfl rfl (fun b => ?_)) | (refine SL.isG ?_; first | refine SL.gF rfl rfl rfl ?_ | refine SL.gU rfl rfl rfl ?_ | refine SL.gA ?_) | (refine SL.isSt ?_; refine SL.stA ?_) | refine SL.nil ?_ | (refine SL.isG ?_; first | refine SL.gCase rfl rfl (fun e => ?_) (fun e => ?_) | refine SL.gCaseN rfl rfl (fun e => ?_) (fun e => ?_))) | (refine St.isSt ?_; first | refine St.seq ?_ | refine St.region ?_ | refine St.block ?_ | refine St.ret ?_ | refine St.skip ?_ | refine St.exit ?_ | refine St.condT rfl ?_ | refine St.condF rfl ?_ | refine St.condY rfl (by omega) ?_ | refine St.condZ rfl (by omega) ?_) | (refine Qs.isQs ?_; first | refine Qs.then_normal ?_ | refine Qs.then_rounds ?_ | refine Qs.then_ret ?_ | refine Qs.then_exit ?_ | refine Qs.block_normal ?_ | refine Qs.block_ret ?_ | refine Qs.block_here ?_ | refine Qs.block_other rfl ?_) | refine RS.step ?_)
      exact Qs.retV rfl rfl rfl)
  | t2 k s n a tb ia ib =>
    intro hw h K hK
    obtain ⟨hk, hwa, hwb⟩ := hw
    obtain ⟨kb, off, ar, te, fr, c, rfl, hb, hkid⟩ := hK.view2 (by simp [Tr.kids])
    obtain ⟨KA, hA, hatA⟩ := hkid 0 a rfl
    obtain ⟨KB, hB, hatB⟩ := hkid 1 tb rfl
    have ca := ia hwa
    have cb := ib hwb
    rcases hk with rfl | rfl | rfl | rfl | rfl | rfl
    all_goals (
      refine FnV.enter Tryd.func17 rfl rfl rfl rfl fun w hg => ?_
      simp only [TrV, fl, Tr.kind, Tr.s, Tr.n]
      repeat' (first | (refine SL.isSL ?_; first | (refine SL.isN ?_; first | refine SL.nA ?_ | refine SL.alloc rfl rfl (fun b => ?_) | refine SL.box rfl rfl rfl (fun b => ?_)) | (refine SL.isG ?_; first | refine SL.gF rfl rfl rfl ?_ | refine SL.gU rfl rfl rfl ?_ | refine SL.gA ?_) | (refine SL.isSt ?_; refine SL.stA ?_) | refine SL.nil ?_ | (refine SL.isG ?_; first | refine SL.gCase rfl rfl (fun e => ?_) (fun e => ?_) | refine SL.gCaseN rfl rfl (fun e => ?_) (fun e => ?_))) | (refine St.isSt ?_; first | refine St.seq ?_ | refine St.region ?_ | refine St.block ?_ | refine St.ret ?_ | refine St.skip ?_ | refine St.exit ?_ | refine St.condT rfl ?_ | refine St.condF rfl ?_ | refine St.condY rfl (by omega) ?_ | refine St.condZ rfl (by omega) ?_) | (refine Qs.isQs ?_; first | refine Qs.then_normal ?_ | refine Qs.then_rounds ?_ | refine Qs.then_ret ?_ | refine Qs.then_exit ?_ | refine Qs.block_normal ?_ | refine Qs.block_ret ?_ | refine Qs.block_here ?_ | refine Qs.block_other rfl ?_) | refine RS.step ?_)
      first
      | exact Qs.retV rfl rfl rfl
      | (skip
         refine St.drawV' 13 [2] rfl rfl rfl rfl rfl ?_
         repeat (first | (refine TK.isTK ?_; first | (refine TK.isIdx ?_; first | (refine TK.isN ?_; first | refine TK.cons rfl rfl (Ob.n rfl (NOp.idx rfl rfl (by simp [Tr.kids]))) rfl ?_ | refine TK.consF rfl rfl rfl (NOp.idx rfl rfl (by simp [Tr.kids])) rfl ?_) | (refine TK.isG ?_; refine TK.cons rfl rfl (Ob.gT rfl rfl rfl (NOp.idx rfl rfl (by simp [Tr.kids]))) rfl ?_)) | (refine TK.isLd ?_; first | (refine TK.isN ?_; first | refine TK.cons rfl rfl (Ob.n rfl (NOp.ldHA (vs := fl a.kind a.s a.n KA) rfl hb rfl hatA)) rfl ?_ | refine TK.consF rfl rfl rfl (NOp.ldHA (vs := fl a.kind a.s a.n KA) rfl hb rfl hatA) rfl ?_) | (refine TK.isG ?_; refine TK.cons rfl rfl (Ob.gT rfl rfl rfl (NOp.ldHA (vs := fl a.kind a.s a.n KA) rfl hb rfl hatA)) rfl ?_)) | (refine TK.isLd ?_; first | (refine TK.isN ?_; first | refine TK.cons rfl rfl (Ob.n rfl (NOp.ldHA (vs := fl tb.kind tb.s tb.n KB) rfl hb rfl hatB)) rfl ?_ | refine TK.consF rfl rfl rfl (NOp.ldHA (vs := fl tb.kind tb.s tb.n KB) rfl hb rfl hatB) rfl ?_) | (refine TK.isG ?_; refine TK.cons rfl rfl (Ob.gT rfl rfl rfl (NOp.ldHA (vs := fl tb.kind tb.s tb.n KB) rfl hb rfl hatB)) rfl ?_)) | (refine TK.isCallF 17 ?_; first | (refine TK.isN ?_; refine TK.cons rfl rfl (Ob.callV rfl rfl (fun h' hle => ca _ _ (hA.le hle))) rfl ?_) | (refine TK.isG ?_; refine TK.cons rfl rfl (Ob.callVT rfl rfl rfl rfl (fun h' hle => ca _ _ (hA.le hle))) rfl ?_)) | (refine TK.isCallF 17 ?_; first | (refine TK.isN ?_; refine TK.cons rfl rfl (Ob.callV rfl rfl (fun h' hle => cb _ _ (hB.le hle))) rfl ?_) | (refine TK.isG ?_; refine TK.cons rfl rfl (Ob.callVT rfl rfl rfl rfl (fun h' hle => cb _ _ (hB.le hle))) rfl ?_)) | (refine TK.isHead rfl ?_; first | (refine TK.isN ?_; first | refine TK.nA ?_ | refine TK.litA ?_) | (refine TK.isG ?_; first | refine TK.cons rfl rfl (Ob.gF rfl rfl rfl) rfl ?_ | refine TK.cons rfl rfl (Ob.gU rfl rfl rfl) rfl ?_ | refine TK.gA ?_)) | (refine TK.isTail rfl ?_; first | refine TK.consS rfl rfl ?_ | refine TK.fA ?_) | refine TK.nilV rfl rfl ?_) | (refine SQ.isSQ ?_; first | refine SQ.nil ?_ | refine SQ.stA ?_))
         repeat' (first | (refine SL.isSL ?_; first | (refine SL.isN ?_; first | refine SL.nA ?_ | refine SL.alloc rfl rfl (fun b => ?_) | refine SL.box rfl rfl rfl (fun b => ?_)) | (refine SL.isG ?_; first | refine SL.gF rfl rfl rfl ?_ | refine SL.gU rfl rfl rfl ?_ | refine SL.gA ?_) | (refine SL.isSt ?_; refine SL.stA ?_) | refine SL.nil ?_ | (refine SL.isG ?_; first | refine SL.gCase rfl rfl (fun e => ?_) (fun e => ?_) | refine SL.gCaseN rfl rfl (fun e => ?_) (fun e => ?_))) | (refine St.isSt ?_; first | refine St.seq ?_ | refine St.region ?_ | refine St.block ?_ | refine St.ret ?_ | refine St.skip ?_ | refine St.exit ?_ | refine St.condT rfl ?_ | refine St.condF rfl ?_ | refine St.condY rfl (by omega) ?_ | refine St.condZ rfl (by omega) ?_) | (refine Qs.isQs ?_; first | refine Qs.then_normal ?_ | refine Qs.then_rounds ?_ | refine Qs.then_ret ?_ | refine Qs.then_exit ?_ | refine Qs.block_normal ?_ | refine Qs.block_ret ?_ | refine Qs.block_here ?_ | refine Qs.block_other rfl ?_) | refine RS.step ?_)
         exact Qs.retV rfl rfl rfl))
  | t3 k s n a tb c0 ia ib ic =>
    intro hw h K hK
    obtain ⟨rfl, hwa, hwb, hwc⟩ := hw
    obtain ⟨kb, off, ar, te, fr, c, rfl, hb, hkid⟩ := hK.view2 (by simp [Tr.kids])
    refine FnV.enter Tryd.func17 rfl rfl rfl rfl fun w hg => ?_
    simp only [TrV, fl, Tr.kind, Tr.s, Tr.n]
    repeat' (first | (refine SL.isSL ?_; first | (refine SL.isN ?_; first | refine SL.nA ?_ | refine SL.alloc rfl rfl (fun b => ?_) | refine SL.box rfl rfl rfl (fun b => ?_)) | (refine SL.isG ?_; first | refine SL.gF rfl rfl rfl ?_ | refine SL.gU rfl rfl rfl ?_ | refine SL.gA ?_) | (refine SL.isSt ?_; refine SL.stA ?_) | refine SL.nil ?_ | (refine SL.isG ?_; first | refine SL.gCase rfl rfl (fun e => ?_) (fun e => ?_) | refine SL.gCaseN rfl rfl (fun e => ?_) (fun e => ?_))) | (refine St.isSt ?_; first | refine St.seq ?_ | refine St.region ?_ | refine St.block ?_ | refine St.ret ?_ | refine St.skip ?_ | refine St.exit ?_ | refine St.condT rfl ?_ | refine St.condF rfl ?_ | refine St.condY rfl (by omega) ?_ | refine St.condZ rfl (by omega) ?_) | (refine Qs.isQs ?_; first | refine Qs.then_normal ?_ | refine Qs.then_rounds ?_ | refine Qs.then_ret ?_ | refine Qs.then_exit ?_ | refine Qs.block_normal ?_ | refine Qs.block_ret ?_ | refine Qs.block_here ?_ | refine Qs.block_other rfl ?_) | refine RS.step ?_)
    exact Qs.retV rfl rfl rfl
theorem Term_v (t : Tr) : wfT t → ∀ (h : GH) (K : Value), TK_ h t K → FnV Tryd.prog h 12 [TrV t K].toArray (enc (termOf t)) := by
  induction t with
  | t0 k s n =>
    intro hw h K hK
    obtain ⟨A, c, rfl, hc, -⟩ := hK
    rcases hw with rfl | rfl | rfl | rfl | rfl
    all_goals (
      refine FnV.enter Tryd.func12 rfl rfl rfl rfl fun w hg => ?_
      simp only [TrV, fl, Tr.kind, Tr.s, Tr.n]
      repeat' (first | (refine SL.isSL ?_; first | (refine SL.isN ?_; first | refine SL.nA ?_ | refine SL.alloc rfl rfl (fun b => ?_) | refine SL.box rfl rfl rfl (fun b => ?_)) | (refine SL.isG ?_; first | refine SL.gF rfl rfl rfl ?_ | refine SL.gU rfl rfl rfl ?_ | refine SL.gA ?_) | (refine SL.isSt ?_; refine SL.stA ?_) | refine SL.nil ?_ | (refine SL.isG ?_; first | refine SL.gCase rfl rfl (fun e => ?_) (fun e => ?_) | refine SL.gCaseN rfl rfl (fun e => ?_) (fun e => ?_))) | (refine St.isSt ?_; first | refine St.seq ?_ | refine St.region ?_ | refine St.block ?_ | refine St.ret ?_ | refine St.skip ?_ | refine St.exit ?_ | refine St.condT rfl ?_ | refine St.condF rfl ?_ | refine St.condY rfl (by omega) ?_ | refine St.condZ rfl (by omega) ?_) | (refine Qs.isQs ?_; first | refine Qs.then_normal ?_ | refine Qs.then_rounds ?_ | refine Qs.then_ret ?_ | refine Qs.then_exit ?_ | refine Qs.block_normal ?_ | refine Qs.block_ret ?_ | refine Qs.block_here ?_ | refine Qs.block_other rfl ?_) | refine RS.step ?_)
      exact Qs.retV rfl rfl rfl)
  | t1 k s n a ia =>
    intro hw h K hK
    obtain ⟨hk, hwa⟩ := hw
    obtain ⟨kb, off, ar, te, fr, c, rfl, hb, hkid⟩ := hK.view2 (by simp [Tr.kids])
    obtain ⟨KA, hA, hatA⟩ := hkid 0 a rfl
    have ca := ia hwa
    rcases hk with rfl | rfl | rfl
    all_goals (
      refine FnV.enter Tryd.func12 rfl rfl rfl rfl fun w hg => ?_
      simp only [TrV, fl, Tr.kind, Tr.s, Tr.n]
      repeat' (first | (refine SL.isSL ?_; first | (refine SL.isIdx ?_; first | (refine SL.isN ?_; refine SL.n (NOp.idx rfl rfl (by simp [Tr.kids])) rfl ?_) | (refine SL.isG ?_; refine SL.gT rfl rfl (NOp.idx rfl rfl (by simp [Tr.kids])) rfl ?_)) | (refine SL.isLd ?_; first | (refine SL.isN ?_; refine SL.n (NOp.ldHA (vs := fl a.kind a.s a.n KA) rfl hb rfl hatA) rfl ?_) | (refine SL.isG ?_; refine SL.gT rfl rfl (NOp.ldHA (vs := fl a.kind a.s a.n KA) rfl hb rfl hatA) rfl ?_)) | (refine SL.isCallF 12 ?_; first | (refine SL.isN ?_; refine SL.callV rfl (ca _ _ hA) rfl ?_) | (refine SL.isG ?_; refine SL.callVT rfl rfl rfl (ca _ _ hA) rfl ?_)) | (refine SL.isN ?_; first | refine SL.nA ?_ | refine SL.alloc rfl rfl (fun b => ?_) | refine SL.box rfl rfl rfl (fun b => ?_)) | (refine SL.isG ?_; first | refine SL.gF rfl rfl rfl ?_ | refine SL.gU rfl rfl rfl ?_ | refine SL.gA ?_) | (refine SL.isSt ?_; refine SL.stA ?_) | refine SL.nil ?_ | (refine SL.isG ?_; first | refine SL.gCase rfl rfl (fun e => ?_) (fun e => ?_) | refine SL.gCaseN rfl rfl (fun e => ?_) (fun e => ?_))) | (refine St.isSt ?_; first | refine St.seq ?_ | refine St.region ?_ | refine St.block ?_ | refine St.ret ?_ | refine St.skip ?_ | refine St.exit ?_ | refine St.condT rfl ?_ | refine St.condF rfl ?_ | refine St.condY rfl (by omega) ?_ | refine St.condZ rfl (by omega) ?_) | (refine Qs.isQs ?_; first | refine Qs.then_normal ?_ | refine Qs.then_rounds ?_ | refine Qs.then_ret ?_ | refine Qs.then_exit ?_ | refine Qs.block_normal ?_ | refine Qs.block_ret ?_ | refine Qs.block_here ?_ | refine Qs.block_other rfl ?_) | refine RS.step ?_)
      first
      | exact Qs.retV rfl rfl rfl
      | (skip
         refine St.drawV' 10 [2] rfl rfl rfl rfl rfl ?_
         repeat (first | (refine TK.isTK ?_; first | (refine TK.isIdx ?_; first | (refine TK.isN ?_; first | refine TK.cons rfl rfl (Ob.n rfl (NOp.idx rfl rfl (by simp [Tr.kids]))) rfl ?_ | refine TK.consF rfl rfl rfl (NOp.idx rfl rfl (by simp [Tr.kids])) rfl ?_) | (refine TK.isG ?_; refine TK.cons rfl rfl (Ob.gT rfl rfl rfl (NOp.idx rfl rfl (by simp [Tr.kids]))) rfl ?_)) | (refine TK.isLd ?_; first | (refine TK.isN ?_; first | refine TK.cons rfl rfl (Ob.n rfl (NOp.ldHA (vs := fl a.kind a.s a.n KA) rfl hb rfl hatA)) rfl ?_ | refine TK.consF rfl rfl rfl (NOp.ldHA (vs := fl a.kind a.s a.n KA) rfl hb rfl hatA) rfl ?_) | (refine TK.isG ?_; refine TK.cons rfl rfl (Ob.gT rfl rfl rfl (NOp.ldHA (vs := fl a.kind a.s a.n KA) rfl hb rfl hatA)) rfl ?_)) | (refine TK.isCallF 12 ?_; first | (refine TK.isN ?_; refine TK.cons rfl rfl (Ob.callV rfl rfl (fun h' hle => ca _ _ (hA.le hle))) rfl ?_) | (refine TK.isG ?_; refine TK.cons rfl rfl (Ob.callVT rfl rfl rfl rfl (fun h' hle => ca _ _ (hA.le hle))) rfl ?_)) | (refine TK.isHead rfl ?_; first | (refine TK.isN ?_; first | refine TK.nA ?_ | refine TK.litA ?_) | (refine TK.isG ?_; first | refine TK.cons rfl rfl (Ob.gF rfl rfl rfl) rfl ?_ | refine TK.cons rfl rfl (Ob.gU rfl rfl rfl) rfl ?_ | refine TK.gA ?_)) | (refine TK.isTail rfl ?_; first | refine TK.consS rfl rfl ?_ | refine TK.fA ?_) | refine TK.nilV rfl rfl ?_) | (refine SQ.isSQ ?_; first | refine SQ.nil ?_ | refine SQ.stA ?_))
         repeat' (first | (refine SL.isSL ?_; first | (refine SL.isN ?_; first | refine SL.nA ?_ | refine SL.alloc rfl rfl (fun b => ?_) | refine SL.box rfl rfl rfl (fun b => ?_)) | (refine SL.isG ?_; first | refine SL.gF rfl rfl rfl ?_ | refine SL.gU rfl rfl rfl ?_ | refine SL.gA ?_) | (refine SL.isSt ?_; refine SL.stA ?_) | refine SL.nil ?_ | (refine SL.isG ?_; first | refine SL.gCase rfl rfl (fun e => ?_) (fun e => ?_) | refine SL.gCaseN rfl rfl (fun e => ?_) (fun e => ?_))) | (refine St.isSt ?_; first | refine St.seq ?_ | refine St.region ?_ | refine St.block ?_ | refine St.ret ?_ | refine St.skip ?_ | refine St.exit ?_ | refine St.condT rfl ?_ | refine St.condF rfl ?_ | refine St.condY rfl (by omega) ?_ | refine St.condZ rfl (by omega) ?_) | (refine Qs.isQs ?_; first | refine Qs.then_normal ?_ | refine Qs.then_rounds ?_ | refine Qs.then_ret ?_ | refine Qs.then_exit ?_ | refine Qs.block_normal ?_ | refine Qs.block_ret ?_ | refine Qs.block_here ?_ | refine Qs.block_other rfl ?_) | refine RS.step ?_)
         exact Qs.retV rfl rfl rfl))
  | t2 k s n a tb ia ib =>
    intro hw h K hK
    obtain ⟨hk, hwa, hwb⟩ := hw
    obtain ⟨kb, off, ar, te, fr, c, rfl, hb, hkid⟩ := hK.view2 (by simp [Tr.kids])
    obtain ⟨KA, hA, hatA⟩ := hkid 0 a rfl
    obtain ⟨KB, hB, hatB⟩ := hkid 1 tb rfl
    have ca := ia hwa
    have cb := ib hwb
    have co := Obs_v a hwa
    rcases hk with rfl | rfl | rfl | rfl | rfl | rfl
    all_goals (
      refine FnV.enter Tryd.func12 rfl rfl rfl rfl fun w hg => ?_
      simp only [TrV, fl, Tr.kind, Tr.s, Tr.n]
      repeat' (first | (refine SL.isSL ?_; first | (refine SL.isN ?_; first | refine SL.nA ?_ | refine SL.alloc rfl rfl (fun b => ?_) | refine SL.box rfl rfl rfl (fun b => ?_)) | (refine SL.isG ?_; first | refine SL.gF rfl rfl rfl ?_ | refine SL.gU rfl rfl rfl ?_ | refine SL.gA ?_) | (refine SL.isSt ?_; refine SL.stA ?_) | refine SL.nil ?_ | (refine SL.isG ?_; first | refine SL.gCase rfl rfl (fun e => ?_) (fun e => ?_) | refine SL.gCaseN rfl rfl (fun e => ?_) (fun e => ?_))) | (refine St.isSt ?_; first | refine St.seq ?_ | refine St.region ?_ | refine St.block ?_ | refine St.ret ?_ | refine St.skip ?_ | refine St.exit ?_ | refine St.condT rfl ?_ | refine St.condF rfl ?_ | refine St.condY rfl (by omega) ?_ | refine St.condZ rfl (by omega) ?_) | (refine Qs.isQs ?_; first | refine Qs.then_normal ?_ | refine Qs.then_rounds ?_ | refine Qs.then_ret ?_ | refine Qs.then_exit ?_ | refine Qs.block_normal ?_ | refine Qs.block_ret ?_ | refine Qs.block_here ?_ | refine Qs.block_other rfl ?_) | refine RS.step ?_)
      first
      | exact Qs.retV rfl rfl rfl
      | (skip
         refine St.drawV' 13 [2] rfl rfl rfl rfl rfl ?_
         repeat (first | (refine TK.isTK ?_; first | (refine TK.isIdx ?_; first | (refine TK.isN ?_; first | refine TK.cons rfl rfl (Ob.n rfl (NOp.idx rfl rfl (by simp [Tr.kids]))) rfl ?_ | refine TK.consF rfl rfl rfl (NOp.idx rfl rfl (by simp [Tr.kids])) rfl ?_) | (refine TK.isG ?_; refine TK.cons rfl rfl (Ob.gT rfl rfl rfl (NOp.idx rfl rfl (by simp [Tr.kids]))) rfl ?_)) | (refine TK.isLd ?_; first | (refine TK.isN ?_; first | refine TK.cons rfl rfl (Ob.n rfl (NOp.ldHA (vs := fl a.kind a.s a.n KA) rfl hb rfl hatA)) rfl ?_ | refine TK.consF rfl rfl rfl (NOp.ldHA (vs := fl a.kind a.s a.n KA) rfl hb rfl hatA) rfl ?_) | (refine TK.isG ?_; refine TK.cons rfl rfl (Ob.gT rfl rfl rfl (NOp.ldHA (vs := fl a.kind a.s a.n KA) rfl hb rfl hatA)) rfl ?_)) | (refine TK.isLd ?_; first | (refine TK.isN ?_; first | refine TK.cons rfl rfl (Ob.n rfl (NOp.ldHA (vs := fl tb.kind tb.s tb.n KB) rfl hb rfl hatB)) rfl ?_ | refine TK.consF rfl rfl rfl (NOp.ldHA (vs := fl tb.kind tb.s tb.n KB) rfl hb rfl hatB) rfl ?_) | (refine TK.isG ?_; refine TK.cons rfl rfl (Ob.gT rfl rfl rfl (NOp.ldHA (vs := fl tb.kind tb.s tb.n KB) rfl hb rfl hatB)) rfl ?_)) | (refine TK.isCallF 12 ?_; first | (refine TK.isN ?_; refine TK.cons rfl rfl (Ob.callV rfl rfl (fun h' hle => ca _ _ (hA.le hle))) rfl ?_) | (refine TK.isG ?_; refine TK.cons rfl rfl (Ob.callVT rfl rfl rfl rfl (fun h' hle => ca _ _ (hA.le hle))) rfl ?_)) | (refine TK.isCallF 12 ?_; first | (refine TK.isN ?_; refine TK.cons rfl rfl (Ob.callV rfl rfl (fun h' hle => cb _ _ (hB.le hle))) rfl ?_) | (refine TK.isG ?_; refine TK.cons rfl rfl (Ob.callVT rfl rfl rfl rfl (fun h' hle => cb _ _ (hB.le hle))) rfl ?_)) | (refine TK.isCallF 17 ?_; first | (refine TK.isN ?_; refine TK.cons rfl rfl (Ob.callV rfl rfl (fun h' hle => co _ _ (hA.le hle))) rfl ?_) | (refine TK.isG ?_; refine TK.cons rfl rfl (Ob.callVT rfl rfl rfl rfl (fun h' hle => co _ _ (hA.le hle))) rfl ?_)) | (refine TK.isHead rfl ?_; first | (refine TK.isN ?_; first | refine TK.nA ?_ | refine TK.litA ?_) | (refine TK.isG ?_; first | refine TK.cons rfl rfl (Ob.gF rfl rfl rfl) rfl ?_ | refine TK.cons rfl rfl (Ob.gU rfl rfl rfl) rfl ?_ | refine TK.gA ?_)) | (refine TK.isTail rfl ?_; first | refine TK.consS rfl rfl ?_ | refine TK.fA ?_) | refine TK.nilV rfl rfl ?_) | (refine SQ.isSQ ?_; first | refine SQ.nil ?_ | refine SQ.stA ?_))
         repeat' (first | (refine SL.isSL ?_; first | (refine SL.isN ?_; first | refine SL.nA ?_ | refine SL.alloc rfl rfl (fun b => ?_) | refine SL.box rfl rfl rfl (fun b => ?_)) | (refine SL.isG ?_; first | refine SL.gF rfl rfl rfl ?_ | refine SL.gU rfl rfl rfl ?_ | refine SL.gA ?_) | (refine SL.isSt ?_; refine SL.stA ?_) | refine SL.nil ?_ | (refine SL.isG ?_; first | refine SL.gCase rfl rfl (fun e => ?_) (fun e => ?_) | refine SL.gCaseN rfl rfl (fun e => ?_) (fun e => ?_))) | (refine St.isSt ?_; first | refine St.seq ?_ | refine St.region ?_ | refine St.block ?_ | refine St.ret ?_ | refine St.skip ?_ | refine St.exit ?_ | refine St.condT rfl ?_ | refine St.condF rfl ?_ | refine St.condY rfl (by omega) ?_ | refine St.condZ rfl (by omega) ?_) | (refine Qs.isQs ?_; first | refine Qs.then_normal ?_ | refine Qs.then_rounds ?_ | refine Qs.then_ret ?_ | refine Qs.then_exit ?_ | refine Qs.block_normal ?_ | refine Qs.block_ret ?_ | refine Qs.block_here ?_ | refine Qs.block_other rfl ?_) | refine RS.step ?_)
         exact Qs.retV rfl rfl rfl)
      | (skip
         refine St.drawV' 15 [2] rfl rfl rfl rfl rfl ?_
         repeat (first | (refine TK.isTK ?_; first | (refine TK.isIdx ?_; first | (refine TK.isN ?_; first | refine TK.cons rfl rfl (Ob.n rfl (NOp.idx rfl rfl (by simp [Tr.kids]))) rfl ?_ | refine TK.consF rfl rfl rfl (NOp.idx rfl rfl (by simp [Tr.kids])) rfl ?_) | (refine TK.isG ?_; refine TK.cons rfl rfl (Ob.gT rfl rfl rfl (NOp.idx rfl rfl (by simp [Tr.kids]))) rfl ?_)) | (refine TK.isLd ?_; first | (refine TK.isN ?_; first | refine TK.cons rfl rfl (Ob.n rfl (NOp.ldHA (vs := fl a.kind a.s a.n KA) rfl hb rfl hatA)) rfl ?_ | refine TK.consF rfl rfl rfl (NOp.ldHA (vs := fl a.kind a.s a.n KA) rfl hb rfl hatA) rfl ?_) | (refine TK.isG ?_; refine TK.cons rfl rfl (Ob.gT rfl rfl rfl (NOp.ldHA (vs := fl a.kind a.s a.n KA) rfl hb rfl hatA)) rfl ?_)) | (refine TK.isLd ?_; first | (refine TK.isN ?_; first | refine TK.cons rfl rfl (Ob.n rfl (NOp.ldHA (vs := fl tb.kind tb.s tb.n KB) rfl hb rfl hatB)) rfl ?_ | refine TK.consF rfl rfl rfl (NOp.ldHA (vs := fl tb.kind tb.s tb.n KB) rfl hb rfl hatB) rfl ?_) | (refine TK.isG ?_; refine TK.cons rfl rfl (Ob.gT rfl rfl rfl (NOp.ldHA (vs := fl tb.kind tb.s tb.n KB) rfl hb rfl hatB)) rfl ?_)) | (refine TK.isCallF 12 ?_; first | (refine TK.isN ?_; refine TK.cons rfl rfl (Ob.callV rfl rfl (fun h' hle => ca _ _ (hA.le hle))) rfl ?_) | (refine TK.isG ?_; refine TK.cons rfl rfl (Ob.callVT rfl rfl rfl rfl (fun h' hle => ca _ _ (hA.le hle))) rfl ?_)) | (refine TK.isCallF 12 ?_; first | (refine TK.isN ?_; refine TK.cons rfl rfl (Ob.callV rfl rfl (fun h' hle => cb _ _ (hB.le hle))) rfl ?_) | (refine TK.isG ?_; refine TK.cons rfl rfl (Ob.callVT rfl rfl rfl rfl (fun h' hle => cb _ _ (hB.le hle))) rfl ?_)) | (refine TK.isCallF 17 ?_; first | (refine TK.isN ?_; refine TK.cons rfl rfl (Ob.callV rfl rfl (fun h' hle => co _ _ (hA.le hle))) rfl ?_) | (refine TK.isG ?_; refine TK.cons rfl rfl (Ob.callVT rfl rfl rfl rfl (fun h' hle => co _ _ (hA.le hle))) rfl ?_)) | (refine TK.isHead rfl ?_; first | (refine TK.isN ?_; first | refine TK.nA ?_ | refine TK.litA ?_) | (refine TK.isG ?_; first | refine TK.cons rfl rfl (Ob.gF rfl rfl rfl) rfl ?_ | refine TK.cons rfl rfl (Ob.gU rfl rfl rfl) rfl ?_ | refine TK.gA ?_)) | (refine TK.isTail rfl ?_; first | refine TK.consS rfl rfl ?_ | refine TK.fA ?_) | refine TK.nilV rfl rfl ?_) | (refine SQ.isSQ ?_; first | refine SQ.nil ?_ | refine SQ.stA ?_))
         repeat' (first | (refine SL.isSL ?_; first | (refine SL.isN ?_; first | refine SL.nA ?_ | refine SL.alloc rfl rfl (fun b => ?_) | refine SL.box rfl rfl rfl (fun b => ?_)) | (refine SL.isG ?_; first | refine SL.gF rfl rfl rfl ?_ | refine SL.gU rfl rfl rfl ?_ | refine SL.gA ?_) | (refine SL.isSt ?_; refine SL.stA ?_) | refine SL.nil ?_ | (refine SL.isG ?_; first | refine SL.gCase rfl rfl (fun e => ?_) (fun e => ?_) | refine SL.gCaseN rfl rfl (fun e => ?_) (fun e => ?_))) | (refine St.isSt ?_; first | refine St.seq ?_ | refine St.region ?_ | refine St.block ?_ | refine St.ret ?_ | refine St.skip ?_ | refine St.exit ?_ | refine St.condT rfl ?_ | refine St.condF rfl ?_ | refine St.condY rfl (by omega) ?_ | refine St.condZ rfl (by omega) ?_) | (refine Qs.isQs ?_; first | refine Qs.then_normal ?_ | refine Qs.then_rounds ?_ | refine Qs.then_ret ?_ | refine Qs.then_exit ?_ | refine Qs.block_normal ?_ | refine Qs.block_ret ?_ | refine Qs.block_here ?_ | refine Qs.block_other rfl ?_) | refine RS.step ?_)
         exact Qs.retV rfl rfl rfl))
  | t3 k s n a tb c0 ia ib ic =>
    intro hw h K hK
    obtain ⟨rfl, hwa, hwb, hwc⟩ := hw
    obtain ⟨kb, off, ar, te, fr, c, rfl, hb, hkid⟩ := hK.view2 (by simp [Tr.kids])
    obtain ⟨KA, hA, hatA⟩ := hkid 0 a rfl
    obtain ⟨KB, hB, hatB⟩ := hkid 1 tb rfl
    obtain ⟨KC, hC, hatC⟩ := hkid 2 c0 rfl
    have co := Obs_v a hwa
    have cb := ib hwb
    have cc := ic hwc
    refine FnV.enter Tryd.func12 rfl rfl rfl rfl fun w hg => ?_
    simp only [TrV, fl, Tr.kind, Tr.s, Tr.n]
    repeat' (first | (refine SL.isSL ?_; first | (refine SL.isN ?_; first | refine SL.nA ?_ | refine SL.alloc rfl rfl (fun b => ?_) | refine SL.box rfl rfl rfl (fun b => ?_)) | (refine SL.isG ?_; first | refine SL.gF rfl rfl rfl ?_ | refine SL.gU rfl rfl rfl ?_ | refine SL.gA ?_) | (refine SL.isSt ?_; refine SL.stA ?_) | refine SL.nil ?_ | (refine SL.isG ?_; first | refine SL.gCase rfl rfl (fun e => ?_) (fun e => ?_) | refine SL.gCaseN rfl rfl (fun e => ?_) (fun e => ?_))) | (refine St.isSt ?_; first | refine St.seq ?_ | refine St.region ?_ | refine St.block ?_ | refine St.ret ?_ | refine St.skip ?_ | refine St.exit ?_ | refine St.condT rfl ?_ | refine St.condF rfl ?_ | refine St.condY rfl (by omega) ?_ | refine St.condZ rfl (by omega) ?_) | (refine Qs.isQs ?_; first | refine Qs.then_normal ?_ | refine Qs.then_rounds ?_ | refine Qs.then_ret ?_ | refine Qs.then_exit ?_ | refine Qs.block_normal ?_ | refine Qs.block_ret ?_ | refine Qs.block_here ?_ | refine Qs.block_other rfl ?_) | refine RS.step ?_)
    refine St.drawV' 18 [2] rfl rfl rfl rfl rfl ?_
    repeat (first | (refine TK.isTK ?_; first | (refine TK.isIdx ?_; first | (refine TK.isN ?_; first | refine TK.cons rfl rfl (Ob.n rfl (NOp.idx rfl rfl (by simp [Tr.kids]))) rfl ?_ | refine TK.consF rfl rfl rfl (NOp.idx rfl rfl (by simp [Tr.kids])) rfl ?_) | (refine TK.isG ?_; refine TK.cons rfl rfl (Ob.gT rfl rfl rfl (NOp.idx rfl rfl (by simp [Tr.kids]))) rfl ?_)) | (refine TK.isLd ?_; first | (refine TK.isN ?_; first | refine TK.cons rfl rfl (Ob.n rfl (NOp.ldHA (vs := fl a.kind a.s a.n KA) rfl hb rfl hatA)) rfl ?_ | refine TK.consF rfl rfl rfl (NOp.ldHA (vs := fl a.kind a.s a.n KA) rfl hb rfl hatA) rfl ?_) | (refine TK.isG ?_; refine TK.cons rfl rfl (Ob.gT rfl rfl rfl (NOp.ldHA (vs := fl a.kind a.s a.n KA) rfl hb rfl hatA)) rfl ?_)) | (refine TK.isLd ?_; first | (refine TK.isN ?_; first | refine TK.cons rfl rfl (Ob.n rfl (NOp.ldHA (vs := fl tb.kind tb.s tb.n KB) rfl hb rfl hatB)) rfl ?_ | refine TK.consF rfl rfl rfl (NOp.ldHA (vs := fl tb.kind tb.s tb.n KB) rfl hb rfl hatB) rfl ?_) | (refine TK.isG ?_; refine TK.cons rfl rfl (Ob.gT rfl rfl rfl (NOp.ldHA (vs := fl tb.kind tb.s tb.n KB) rfl hb rfl hatB)) rfl ?_)) | (refine TK.isLd ?_; first | (refine TK.isN ?_; first | refine TK.cons rfl rfl (Ob.n rfl (NOp.ldHA (vs := fl c0.kind c0.s c0.n KC) rfl hb rfl hatC)) rfl ?_ | refine TK.consF rfl rfl rfl (NOp.ldHA (vs := fl c0.kind c0.s c0.n KC) rfl hb rfl hatC) rfl ?_) | (refine TK.isG ?_; refine TK.cons rfl rfl (Ob.gT rfl rfl rfl (NOp.ldHA (vs := fl c0.kind c0.s c0.n KC) rfl hb rfl hatC)) rfl ?_)) | (refine TK.isCallF 12 ?_; first | (refine TK.isN ?_; refine TK.cons rfl rfl (Ob.callV rfl rfl (fun h' hle => cb _ _ (hB.le hle))) rfl ?_) | (refine TK.isG ?_; refine TK.cons rfl rfl (Ob.callVT rfl rfl rfl rfl (fun h' hle => cb _ _ (hB.le hle))) rfl ?_)) | (refine TK.isCallF 12 ?_; first | (refine TK.isN ?_; refine TK.cons rfl rfl (Ob.callV rfl rfl (fun h' hle => cc _ _ (hC.le hle))) rfl ?_) | (refine TK.isG ?_; refine TK.cons rfl rfl (Ob.callVT rfl rfl rfl rfl (fun h' hle => cc _ _ (hC.le hle))) rfl ?_)) | (refine TK.isCallF 17 ?_; first | (refine TK.isN ?_; refine TK.cons rfl rfl (Ob.callV rfl rfl (fun h' hle => co _ _ (hA.le hle))) rfl ?_) | (refine TK.isG ?_; refine TK.cons rfl rfl (Ob.callVT rfl rfl rfl rfl (fun h' hle => co _ _ (hA.le hle))) rfl ?_)) | (refine TK.isHead rfl ?_; first | (refine TK.isN ?_; first | refine TK.nA ?_ | refine TK.litA ?_) | (refine TK.isG ?_; first | refine TK.cons rfl rfl (Ob.gF rfl rfl rfl) rfl ?_ | refine TK.cons rfl rfl (Ob.gU rfl rfl rfl) rfl ?_ | refine TK.gA ?_)) | (refine TK.isTail rfl ?_; first | refine TK.consS rfl rfl ?_ | refine TK.fA ?_) | refine TK.nilV rfl rfl ?_) | (refine SQ.isSQ ?_; first | refine SQ.nil ?_ | refine SQ.stA ?_))
    repeat' (first | (refine SL.isSL ?_; first | (refine SL.isN ?_; first | refine SL.nA ?_ | refine SL.alloc rfl rfl (fun b => ?_) | refine SL.box rfl rfl rfl (fun b => ?_)) | (refine SL.isG ?_; first | refine SL.gF rfl rfl rfl ?_ | refine SL.gU rfl rfl rfl ?_ | refine SL.gA ?_) | (refine SL.isSt ?_; refine SL.stA ?_) | refine SL.nil ?_ | (refine SL.isG ?_; first | refine SL.gCase rfl rfl (fun e => ?_) (fun e => ?_) | refine SL.gCaseN rfl rfl (fun e => ?_) (fun e => ?_))) | (refine St.isSt ?_; first | refine St.seq ?_ | refine St.region ?_ | refine St.block ?_ | refine St.ret ?_ | refine St.skip ?_ | refine St.exit ?_ | refine St.condT rfl ?_ | refine St.condF rfl ?_ | refine St.condY rfl (by omega) ?_ | refine St.condZ rfl (by omega) ?_) | (refine Qs.isQs ?_; first | refine Qs.then_normal ?_ | refine Qs.then_rounds ?_ | refine Qs.then_ret ?_ | refine Qs.then_exit ?_ | refine Qs.block_normal ?_ | refine Qs.block_ret ?_ | refine Qs.block_here ?_ | refine Qs.block_other rfl ?_) | refine RS.step ?_)
    exact Qs.retV rfl rfl rfl
end Go.Proofs.YtfookachkcgdpaaDoor
