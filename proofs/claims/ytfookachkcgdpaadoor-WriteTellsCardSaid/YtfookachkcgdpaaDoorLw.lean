/- The law: whatever the input, it returns true. Plain theorems; no condition. -/
import Derived.Test.YtfookachkcgdpaaDoorSo
import Derived.Test.YtfookachkcgdpaaDoorCh
set_option linter.unusedVariables false
set_option linter.unusedSimpArgs false
set_option maxRecDepth 100000
set_option maxHeartbeats 8000000
namespace Go.Proofs.YtfookachkcgdpaaDoor
open Go.RowKit
theorem bitoa_100 : bitoa 100 = ⟨#[49, 48, 48]⟩ := by decide +kernel
theorem wakes_text : wterm (.s (.c 100) (.o ⟨#[117, 115, 100]⟩)) = (⟨#[115, 99, 97, 108, 101, 40, 49, 48, 48, 44, 111, 110, 101, 40, 117, 115, 100, 41, 41]⟩, 0) := by
  have hn : nameB ⟨#[117, 115, 100]⟩ = true := by
    have e : runesOf ⟨#[117, 115, 100]⟩ = [117, 115, 100] := by decide +kernel
    have hp : NameP (runesOf ⟨#[117, 115, 100]⟩) := by
      rw [e]
      exact ⟨by decide, by decide, by decide, by intro r hr; simp at hr; subst hr; decide⟩
    have := nameB_true hp
    injection this with this
    exact this.symm
  have hf : tform (.s (.c 100) (.o ⟨#[117, 115, 100]⟩)) = true := by simp [tform, oform, hn, validP]
  have hc : tcheck (.s (.c 100) (.o ⟨#[117, 115, 100]⟩)) = 0 := by simp [tcheck, hf, tsize, osize, join, add1, mx, labels, twice]
  have ht : ttxt (.s (.c 100) (.o ⟨#[117, 115, 100]⟩)) = ⟨#[115, 99, 97, 108, 101, 40, 49, 48, 48, 44, 111, 110, 101, 40, 117, 115, 100, 41, 41]⟩ := by
    simp only [ttxt, onum, bitoa_100]
    decide +kernel
  simp only [wterm, hc, if_true, ht, told]
  decide
attribute [local irreducible] St SL Qs NOp TK SQ RS Fn FnV FnP TX TA

theorem Wakes_v (h : GH) (ht : TabG h) : FnV Tryd.prog h 9 [].toArray (.bool true) := by
  have c := WTerm_v (.s (.c 100) (.o ⟨#[117, 115, 100]⟩)) (by decide) (by decide) h ht
  rw [wakes_text] at c
  refine FnV.enter Tryd.func9 rfl rfl rfl rfl fun w hg => ?_
  repeat' (first | (refine SL.isSL ?_; first | (refine SL.isCallF 6 ?_; first | (refine SL.isN ?_; refine SL.callV rfl (c) rfl ?_) | (refine SL.isG ?_; refine SL.callVT rfl rfl rfl (c) rfl ?_)) | (refine SL.isN ?_; first | refine SL.nA ?_ | refine SL.alloc rfl rfl (fun b => ?_) | refine SL.box rfl rfl rfl (fun b => ?_)) | (refine SL.isG ?_; first | refine SL.gF rfl rfl rfl ?_ | refine SL.gU rfl rfl rfl ?_ | refine SL.gA ?_) | (refine SL.isSt ?_; refine SL.stA ?_) | refine SL.nil ?_ | (refine SL.isG ?_; first | refine SL.gCase rfl rfl (fun e => ?_) (fun e => ?_) | refine SL.gCaseN rfl rfl (fun e => ?_) (fun e => ?_))) | (refine St.isSt ?_; first | refine St.seq ?_ | refine St.region ?_ | refine St.block ?_ | refine St.ret ?_ | refine St.skip ?_ | refine St.exit ?_ | refine St.condT rfl ?_ | refine St.condF rfl ?_ | refine St.condY rfl (by omega) ?_ | refine St.condZ rfl (by omega) ?_) | (refine Qs.isQs ?_; first | refine Qs.then_normal ?_ | refine Qs.then_rounds ?_ | refine Qs.then_ret ?_ | refine Qs.then_exit ?_ | refine Qs.block_normal ?_ | refine Qs.block_ret ?_ | refine Qs.block_here ?_ | refine Qs.block_other rfl ?_) | refine RS.step ?_)
  exact Qs.retV rfl rfl rfl
theorem Law_v (A : Option Addr) (c : Nat) (wv : Value) (ns : List Int) (ws : List ByteArray) (a0 what vv odd : Int) (s : ByteArray) (h : GH) (pl : PlanAt h A c wv ns ws) (ht : TabG h) :
    FnV Tryd.prog h 3 [.agg [.slice A ns.length c, wv].toArray, .int .i64 a0, .int .i64 what, .int .i64 vv, .string s, .int .i64 odd].toArray (.bool true) := by
  obtain ⟨WA, wc, rfl, hwc, hwr⟩ := id pl.words
  refine FnV.enter Tryd.func3 rfl rfl rfl rfl fun w hg => ?_
  repeat' (first | (refine SL.isSL ?_; first | (refine SL.isN ?_; first | refine SL.nA ?_ | refine SL.alloc rfl rfl (fun b => ?_) | refine SL.box rfl rfl rfl (fun b => ?_)) | (refine SL.isG ?_; first | refine SL.gF rfl rfl rfl ?_ | refine SL.gU rfl rfl rfl ?_ | refine SL.gA ?_) | (refine SL.isSt ?_; refine SL.stA ?_) | refine SL.nil ?_ | (refine SL.isG ?_; first | refine SL.gCase rfl rfl (fun e => ?_) (fun e => ?_) | refine SL.gCaseN rfl rfl (fun e => ?_) (fun e => ?_))) | (refine St.isSt ?_; first | refine St.seq ?_ | refine St.region ?_ | refine St.block ?_ | refine St.ret ?_ | refine St.skip ?_ | refine St.exit ?_ | refine St.condT rfl ?_ | refine St.condF rfl ?_ | refine St.condY rfl (by omega) ?_ | refine St.condZ rfl (by omega) ?_) | (refine Qs.isQs ?_; first | refine Qs.then_normal ?_ | refine Qs.then_rounds ?_ | refine Qs.then_ret ?_ | refine Qs.then_exit ?_ | refine Qs.block_normal ?_ | refine Qs.block_ret ?_ | refine Qs.block_here ?_ | refine Qs.block_other rfl ?_) | refine RS.step ?_)
  refine SL.callP rfl (SomeT_p A c _ ns ws a0 what vv odd s _ pl) rfl (fun v1 h1 hle1 hv1 => ?_)
  obtain ⟨x, K1, rfl, hK1, hm1⟩ := hv1
  obtain ⟨A1, n1, c1, rfl⟩ := hK1.slice
  repeat' (first | (refine SL.isSL ?_; first | (refine SL.isN ?_; first | refine SL.nA ?_ | refine SL.alloc rfl rfl (fun b => ?_) | refine SL.box rfl rfl rfl (fun b => ?_)) | (refine SL.isG ?_; first | refine SL.gF rfl rfl rfl ?_ | refine SL.gU rfl rfl rfl ?_ | refine SL.gA ?_) | (refine SL.isSt ?_; refine SL.stA ?_) | refine SL.nil ?_ | (refine SL.isG ?_; first | refine SL.gCase rfl rfl (fun e => ?_) (fun e => ?_) | refine SL.gCaseN rfl rfl (fun e => ?_) (fun e => ?_))) | (refine St.isSt ?_; first | refine St.seq ?_ | refine St.region ?_ | refine St.block ?_ | refine St.ret ?_ | refine St.skip ?_ | refine St.exit ?_ | refine St.condT rfl ?_ | refine St.condF rfl ?_ | refine St.condY rfl (by omega) ?_ | refine St.condZ rfl (by omega) ?_) | (refine Qs.isQs ?_; first | refine Qs.then_normal ?_ | refine Qs.then_rounds ?_ | refine Qs.then_ret ?_ | refine Qs.then_exit ?_ | refine Qs.block_normal ?_ | refine Qs.block_ret ?_ | refine Qs.block_here ?_ | refine Qs.block_other rfl ?_) | refine RS.step ?_)
  refine SL.callP rfl (SomeO_p A c _ ns ws a0 what vv odd s _ (pl.le hle1)) rfl (fun v2 h2 hle2 hv2 => ?_)
  obtain ⟨y, K2, rfl, hK2, hm2⟩ := hv2
  obtain ⟨A2, n2, c2, rfl⟩ := hK2.slice
  have b1 := msz_b x
  have b2 := msz_b y
  have r1 := rsz_t x
  have r2 := rsz_o y
  have q1 := rcnt_rsz (plainT x)
  have q2 := rcnt_rsz (plainO y)
  have ht2 := ht.le (hle1.trans hle2)
  have w1 := WTerm_v x (by omega) (by omega) h2 ht2
  have w2 := WObs_v y (by omega) (by omega) h2 ht2
  have u1 := RWrite_v (plainT x) false (by omega) (by rw [rtsz_rsz]; omega) h2 _ (hK1.le hle2)
  have u2 := RWrite_v (plainO y) true (by omega) (by rw [rtsz_rsz]; omega) h2 _ hK2
  rw [rwrite_t] at u1
  rw [rwrite_o] at u2
  simp only [TrV, fl] at u1 u2
  have cw := Wakes_v h2 ht2
  repeat' (first | (refine SL.isSL ?_; first | (refine SL.isCallF 6 ?_; first | (refine SL.isN ?_; refine SL.callV rfl (w1) rfl ?_) | (refine SL.isG ?_; refine SL.callVT rfl rfl rfl (w1) rfl ?_)) | (refine SL.isCallF 8 ?_; first | (refine SL.isN ?_; refine SL.callV rfl (w2) rfl ?_) | (refine SL.isG ?_; refine SL.callVT rfl rfl rfl (w2) rfl ?_)) | (refine SL.isCallF 7 ?_; first | (refine SL.isN ?_; refine SL.callV rfl (u1) rfl ?_) | (refine SL.isG ?_; refine SL.callVT rfl rfl rfl (u1) rfl ?_)) | (refine SL.isCallF 7 ?_; first | (refine SL.isN ?_; refine SL.callV rfl (u2) rfl ?_) | (refine SL.isG ?_; refine SL.callVT rfl rfl rfl (u2) rfl ?_)) | (refine SL.isCallF 9 ?_; first | (refine SL.isN ?_; refine SL.callV rfl (cw) rfl ?_) | (refine SL.isG ?_; refine SL.callVT rfl rfl rfl (cw) rfl ?_)) | (refine SL.isBin ?_; first | (refine SL.isN ?_; refine SL.n (NOp.eqlST rfl rfl rfl) rfl ?_) | (refine SL.isG ?_; refine SL.gT rfl rfl (NOp.eqlST rfl rfl rfl) rfl ?_)) | (refine SL.isBin ?_; first | (refine SL.isN ?_; refine SL.n (NOp.eqlT rfl rfl rfl) rfl ?_) | (refine SL.isG ?_; refine SL.gT rfl rfl (NOp.eqlT rfl rfl rfl) rfl ?_)) | (refine SL.isN ?_; first | refine SL.nA ?_ | refine SL.alloc rfl rfl (fun b => ?_) | refine SL.box rfl rfl rfl (fun b => ?_)) | (refine SL.isG ?_; first | refine SL.gF rfl rfl rfl ?_ | refine SL.gU rfl rfl rfl ?_ | refine SL.gA ?_) | (refine SL.isSt ?_; refine SL.stA ?_) | refine SL.nil ?_ | (refine SL.isG ?_; first | refine SL.gCase rfl rfl (fun e => ?_) (fun e => ?_) | refine SL.gCaseN rfl rfl (fun e => ?_) (fun e => ?_))) | (refine St.isSt ?_; first | refine St.seq ?_ | refine St.region ?_ | refine St.block ?_ | refine St.ret ?_ | refine St.skip ?_ | refine St.exit ?_ | refine St.condT rfl ?_ | refine St.condF rfl ?_ | refine St.condY rfl (by omega) ?_ | refine St.condZ rfl (by omega) ?_) | (refine Qs.isQs ?_; first | refine Qs.then_normal ?_ | refine Qs.then_rounds ?_ | refine Qs.then_ret ?_ | refine Qs.then_exit ?_ | refine Qs.block_normal ?_ | refine Qs.block_ret ?_ | refine Qs.block_here ?_ | refine Qs.block_other rfl ?_) | refine RS.step ?_)
  exact Qs.retV rfl rfl rfl
end Go.Proofs.YtfookachkcgdpaaDoor
