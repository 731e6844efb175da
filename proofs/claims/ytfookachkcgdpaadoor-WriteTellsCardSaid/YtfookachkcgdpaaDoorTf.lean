/- Contracts: is all of one right. Plain theorems; no condition. -/
import Derived.Test.YtfookachkcgdpaaDoorTe
set_option linter.unusedVariables false
set_option linter.unusedSimpArgs false
set_option maxRecDepth 100000
set_option maxHeartbeats 4000000
namespace Go.Proofs.YtfookachkcgdpaaDoor
open Go.RowKit
attribute [local irreducible] St SL Qs NOp TK SQ RS Fn FnV FnP

noncomputable def tform : Tm → Bool
  | .z => true
  | .o s => nameB s
  | .g a => tform a
  | .a l r => tform l && tform r
  | .r s l r => nameB s && (tform l && tform r)
  | .s o t => oform o && tform t
  | .w d t => decide (0 ≤ d ∧ d ≤ 10000) && tform t
  | .i o l r => oform o && (tform l && tform r)
  | _ => false
noncomputable def tok (t : Tm) : Bool := decide (tkind t = 0) || ((decide (tkind t = 2) || decide (tkind t = 5)) && !nameB (town t).1) || decide ((town t).2 < 0) || decide (10000 < (town t).2)
theorem tform_kids (t : Tm) : tform t = (!tok t && (match tnum t with | some o => oform o | none => true) && !(kids t).any (fun k => !tform k)) := by
  cases t <;> simp [tform, tok, tkind, town, tnum, kids, Bool.and_assoc]
  · rename_i d t
    by_cases h1 : 0 ≤ d <;> by_cases h2 : d ≤ 10000 <;> simp [h1, h2, Int.not_lt, Int.not_le.symm]
theorem ocheck_2 (o : Tm) : decide (ocheck o = 2) = !oform o := by
  unfold ocheck; cases oform o <;> simp; split <;> simp

theorem TFormC_v (t : Tm) (ih : ∀ h : GH, FnV Tryd.prog h 31 [enc t].toArray (.bool (tform t))) (h : GH) : FnV Tryd.prog h 52 [enc t].toArray (.bool (!tform t)) := by
  refine FnV.enter Tryd.func52 rfl rfl rfl rfl fun w hg => ?_
  repeat' (first | refine SL.callV rfl (ih _) rfl ?_ | (refine SL.isSL ?_; first | (refine SL.isN ?_; first | refine SL.nA ?_ | refine SL.alloc rfl rfl (fun b => ?_) | refine SL.box rfl rfl rfl (fun b => ?_)) | (refine SL.isG ?_; first | refine SL.gF rfl rfl rfl ?_ | refine SL.gU rfl rfl rfl ?_ | refine SL.gA ?_) | (refine SL.isSt ?_; refine SL.stA ?_) | refine SL.nil ?_ | (refine SL.isG ?_; first | refine SL.gCase rfl rfl (fun e => ?_) (fun e => ?_) | refine SL.gCaseN rfl rfl (fun e => ?_) (fun e => ?_))) | (refine St.isSt ?_; first | refine St.seq ?_ | refine St.region ?_ | refine St.block ?_ | refine St.ret ?_ | refine St.skip ?_ | refine St.exit ?_ | refine St.condT rfl ?_ | refine St.condF rfl ?_ | refine St.condY rfl (by omega) ?_ | refine St.condZ rfl (by omega) ?_) | (refine Qs.isQs ?_; first | refine Qs.then_normal ?_ | refine Qs.then_rounds ?_ | refine Qs.then_ret ?_ | refine Qs.then_exit ?_ | refine Qs.block_normal ?_ | refine Qs.block_ret ?_ | refine Qs.block_here ?_ | refine Qs.block_other rfl ?_) | refine RS.step ?_)
  exact Qs.retV rfl rfl rfl
theorem TForm_v : ∀ n (t : Tm), n ≤ 1000000 → cnt t ≤ n → ∀ h : GH, FnV Tryd.prog h 31 [enc t].toArray (.bool (tform t)) := by
  intro n
  induction n with
  | zero => intro t _ ht; exfalso; cases t <;> simp only [cnt] at ht <;> omega
  | succ n ih =>
    intro t hn6 ht h
    have hc := TContains_v 52 (fun k => !tform k)
    have hk : ∀ k ∈ kids t, ∀ h : GH, FnV Tryd.prog h 52 [enc k].toArray (.bool (!tform k)) := fun k hk h => TFormC_v k (ih k (by omega) (by have := kids_cnt hk; omega)) h
    have hn := Number_v h t
    have ho : ∀ o, tnum t = some o → ∀ h, _ := fun o e => OCheck_v o (by have := tnum_cnt e; omega)
    refine FnV.enter Tryd.func31 rfl rfl rfl rfl fun w hg => ?_
    have fin : ∀ b, b = (!tok t && (match tnum t with | some o => oform o | none => true) && !(kids t).any (fun k => !tform k)) → Value.bool b = Value.bool (tform t) := fun b e => by rw [e, tform_kids]
    have kO : ∀ h, FnV Tryd.prog h 47 [enc (.o ByteArray.empty)].toArray (.int .i64 2) := fun h => Kind_v h (.o ByteArray.empty)
    have kR : ∀ h, FnV Tryd.prog h 47 [enc (.r ByteArray.empty (.v ⟨.nilIface, .inl rfl⟩) (.v ⟨.nilIface, .inl rfl⟩))].toArray (.int .i64 5) := fun h => Kind_v h (.r ByteArray.empty (.v ⟨.nilIface, .inl rfl⟩) (.v ⟨.nilIface, .inl rfl⟩))
    repeat' (first | refine SL.callV rfl (Kind_v _ t) rfl ?_ | refine SL.callV rfl (kO _) rfl ?_ | refine SL.callVT rfl rfl rfl (Kind_v _ t) rfl ?_ | refine SL.callVT rfl rfl rfl (kR _) rfl ?_ | refine SL.callV rfl (Own_v _ _) rfl ?_ | refine SL.callVT rfl rfl rfl (Name_v _ _) rfl ?_ | (refine SL.isSL ?_; first | (refine SL.isN ?_; first | refine SL.nA ?_ | refine SL.alloc rfl rfl (fun b => ?_) | refine SL.box rfl rfl rfl (fun b => ?_)) | (refine SL.isG ?_; first | refine SL.gF rfl rfl rfl ?_ | refine SL.gU rfl rfl rfl ?_ | refine SL.gA ?_) | (refine SL.isSt ?_; refine SL.stA ?_) | refine SL.nil ?_ | (refine SL.isG ?_; first | refine SL.gCase rfl rfl (fun e => ?_) (fun e => ?_) | refine SL.gCaseN rfl rfl (fun e => ?_) (fun e => ?_))) | (refine St.isSt ?_; first | refine St.seq ?_ | refine St.region ?_ | refine St.block ?_ | refine St.ret ?_ | refine St.skip ?_ | refine St.exit ?_ | refine St.condT rfl ?_ | refine St.condF rfl ?_ | refine St.condY rfl (by omega) ?_ | refine St.condZ rfl (by omega) ?_) | (refine Qs.isQs ?_; first | refine Qs.then_normal ?_ | refine Qs.then_rounds ?_ | refine Qs.then_ret ?_ | refine Qs.then_exit ?_ | refine Qs.block_normal ?_ | refine Qs.block_ret ?_ | refine Qs.block_here ?_ | refine Qs.block_other rfl ?_) | refine RS.step ?_)
    all_goals first
    | (exfalso; omega)
    | (refine Qs.retVe rfl rfl rfl (fin _ ?_)
       have tk : tok t = true := by clear fin hc hk hn ho ih; simp [tok, *]
       rw [tk]; rfl)
    | (refine St.condD rfl (fun e9 => ?_) (fun e9 => ?_)
       · repeat' (first | (refine SL.isSL ?_; first | (refine SL.isN ?_; first | refine SL.nA ?_ | refine SL.alloc rfl rfl (fun b => ?_) | refine SL.box rfl rfl rfl (fun b => ?_)) | (refine SL.isG ?_; first | refine SL.gF rfl rfl rfl ?_ | refine SL.gU rfl rfl rfl ?_ | refine SL.gA ?_) | (refine SL.isSt ?_; refine SL.stA ?_) | refine SL.nil ?_ | (refine SL.isG ?_; first | refine SL.gCase rfl rfl (fun e => ?_) (fun e => ?_) | refine SL.gCaseN rfl rfl (fun e => ?_) (fun e => ?_))) | (refine St.isSt ?_; first | refine St.seq ?_ | refine St.region ?_ | refine St.block ?_ | refine St.ret ?_ | refine St.skip ?_ | refine St.exit ?_ | refine St.condT rfl ?_ | refine St.condF rfl ?_ | refine St.condY rfl (by omega) ?_ | refine St.condZ rfl (by omega) ?_) | (refine Qs.isQs ?_; first | refine Qs.then_normal ?_ | refine Qs.then_rounds ?_ | refine Qs.then_ret ?_ | refine Qs.then_exit ?_ | refine Qs.block_normal ?_ | refine Qs.block_ret ?_ | refine Qs.block_here ?_ | refine Qs.block_other rfl ?_) | refine RS.step ?_)
         refine Qs.retVe rfl rfl rfl (fin _ ?_)
         have tk : tok t = true := by clear fin hc hk hn ho ih; simp [tok, *]
         rw [tk]; rfl
       · have tk : tok t = false := by clear fin hc hk hn ho ih; simp [tok, *]; try omega
         rw [tk] at fin
         cases hnum : tnum t with
         | none =>
           rw [hnum] at hn fin
           repeat' (first | refine SL.callV rfl hn rfl ?_ | (refine SL.isSL ?_; first | (refine SL.isN ?_; first | refine SL.nA ?_ | refine SL.alloc rfl rfl (fun b => ?_) | refine SL.box rfl rfl rfl (fun b => ?_)) | (refine SL.isG ?_; first | refine SL.gF rfl rfl rfl ?_ | refine SL.gU rfl rfl rfl ?_ | refine SL.gA ?_) | (refine SL.isSt ?_; refine SL.stA ?_) | refine SL.nil ?_ | (refine SL.isG ?_; first | refine SL.gCase rfl rfl (fun e => ?_) (fun e => ?_) | refine SL.gCaseN rfl rfl (fun e => ?_) (fun e => ?_))) | (refine St.isSt ?_; first | refine St.seq ?_ | refine St.region ?_ | refine St.block ?_ | refine St.ret ?_ | refine St.skip ?_ | refine St.exit ?_ | refine St.condT rfl ?_ | refine St.condF rfl ?_ | refine St.condY rfl (by omega) ?_ | refine St.condZ rfl (by omega) ?_) | (refine Qs.isQs ?_; first | refine Qs.then_normal ?_ | refine Qs.then_rounds ?_ | refine Qs.then_ret ?_ | refine Qs.then_exit ?_ | refine Qs.block_normal ?_ | refine Qs.block_ret ?_ | refine Qs.block_here ?_ | refine Qs.block_other rfl ?_) | refine RS.step ?_)
           refine SL.callP rfl (Kids _ _) rfl (fun v h' hle hv => ?_)
           refine SL.callV rfl (hc _ v _ (kids_le t) hv hk) rfl ?_
           repeat' (first | (refine SL.isSL ?_; first | (refine SL.isN ?_; first | refine SL.nA ?_ | refine SL.alloc rfl rfl (fun b => ?_) | refine SL.box rfl rfl rfl (fun b => ?_)) | (refine SL.isG ?_; first | refine SL.gF rfl rfl rfl ?_ | refine SL.gU rfl rfl rfl ?_ | refine SL.gA ?_) | (refine SL.isSt ?_; refine SL.stA ?_) | refine SL.nil ?_ | (refine SL.isG ?_; first | refine SL.gCase rfl rfl (fun e => ?_) (fun e => ?_) | refine SL.gCaseN rfl rfl (fun e => ?_) (fun e => ?_))) | (refine St.isSt ?_; first | refine St.seq ?_ | refine St.region ?_ | refine St.block ?_ | refine St.ret ?_ | refine St.skip ?_ | refine St.exit ?_ | refine St.condT rfl ?_ | refine St.condF rfl ?_ | refine St.condY rfl (by omega) ?_ | refine St.condZ rfl (by omega) ?_) | (refine Qs.isQs ?_; first | refine Qs.then_normal ?_ | refine Qs.then_rounds ?_ | refine Qs.then_ret ?_ | refine Qs.then_exit ?_ | refine Qs.block_normal ?_ | refine Qs.block_ret ?_ | refine Qs.block_here ?_ | refine Qs.block_other rfl ?_) | refine RS.step ?_)
           exact Qs.retVe rfl rfl rfl (fin _ (by simp))
         | some o =>
           rw [hnum] at hn fin
           have hoo := ho o hnum
           have o2 := ocheck_2 o
           repeat' (first | refine SL.callV rfl hn rfl ?_ | refine SL.callVT rfl rfl rfl (hoo _) rfl ?_ | (refine SL.isSL ?_; first | (refine SL.isN ?_; first | refine SL.nA ?_ | refine SL.alloc rfl rfl (fun b => ?_) | refine SL.box rfl rfl rfl (fun b => ?_)) | (refine SL.isG ?_; first | refine SL.gF rfl rfl rfl ?_ | refine SL.gU rfl rfl rfl ?_ | refine SL.gA ?_) | (refine SL.isSt ?_; refine SL.stA ?_) | refine SL.nil ?_ | (refine SL.isG ?_; first | refine SL.gCase rfl rfl (fun e => ?_) (fun e => ?_) | refine SL.gCaseN rfl rfl (fun e => ?_) (fun e => ?_))) | (refine St.isSt ?_; first | refine St.seq ?_ | refine St.region ?_ | refine St.block ?_ | refine St.ret ?_ | refine St.skip ?_ | refine St.exit ?_ | refine St.condT rfl ?_ | refine St.condF rfl ?_ | refine St.condY rfl (by omega) ?_ | refine St.condZ rfl (by omega) ?_) | (refine Qs.isQs ?_; first | refine Qs.then_normal ?_ | refine Qs.then_rounds ?_ | refine Qs.then_ret ?_ | refine Qs.then_exit ?_ | refine Qs.block_normal ?_ | refine Qs.block_ret ?_ | refine Qs.block_here ?_ | refine Qs.block_other rfl ?_) | refine RS.step ?_)
           refine St.condD rfl (fun e9 => ?_) (fun e9 => ?_)
           · rw [decide_eq_true e9] at o2
             repeat' (first | (refine SL.isSL ?_; first | (refine SL.isN ?_; first | refine SL.nA ?_ | refine SL.alloc rfl rfl (fun b => ?_) | refine SL.box rfl rfl rfl (fun b => ?_)) | (refine SL.isG ?_; first | refine SL.gF rfl rfl rfl ?_ | refine SL.gU rfl rfl rfl ?_ | refine SL.gA ?_) | (refine SL.isSt ?_; refine SL.stA ?_) | refine SL.nil ?_ | (refine SL.isG ?_; first | refine SL.gCase rfl rfl (fun e => ?_) (fun e => ?_) | refine SL.gCaseN rfl rfl (fun e => ?_) (fun e => ?_))) | (refine St.isSt ?_; first | refine St.seq ?_ | refine St.region ?_ | refine St.block ?_ | refine St.ret ?_ | refine St.skip ?_ | refine St.exit ?_ | refine St.condT rfl ?_ | refine St.condF rfl ?_ | refine St.condY rfl (by omega) ?_ | refine St.condZ rfl (by omega) ?_) | (refine Qs.isQs ?_; first | refine Qs.then_normal ?_ | refine Qs.then_rounds ?_ | refine Qs.then_ret ?_ | refine Qs.then_exit ?_ | refine Qs.block_normal ?_ | refine Qs.block_ret ?_ | refine Qs.block_here ?_ | refine Qs.block_other rfl ?_) | refine RS.step ?_)
             exact Qs.retVe rfl rfl rfl (fin _ (by simp at o2; simp [o2]))
           · rw [decide_eq_false e9] at o2
             repeat' (first | (refine SL.isSL ?_; first | (refine SL.isN ?_; first | refine SL.nA ?_ | refine SL.alloc rfl rfl (fun b => ?_) | refine SL.box rfl rfl rfl (fun b => ?_)) | (refine SL.isG ?_; first | refine SL.gF rfl rfl rfl ?_ | refine SL.gU rfl rfl rfl ?_ | refine SL.gA ?_) | (refine SL.isSt ?_; refine SL.stA ?_) | refine SL.nil ?_ | (refine SL.isG ?_; first | refine SL.gCase rfl rfl (fun e => ?_) (fun e => ?_) | refine SL.gCaseN rfl rfl (fun e => ?_) (fun e => ?_))) | (refine St.isSt ?_; first | refine St.seq ?_ | refine St.region ?_ | refine St.block ?_ | refine St.ret ?_ | refine St.skip ?_ | refine St.exit ?_ | refine St.condT rfl ?_ | refine St.condF rfl ?_ | refine St.condY rfl (by omega) ?_ | refine St.condZ rfl (by omega) ?_) | (refine Qs.isQs ?_; first | refine Qs.then_normal ?_ | refine Qs.then_rounds ?_ | refine Qs.then_ret ?_ | refine Qs.then_exit ?_ | refine Qs.block_normal ?_ | refine Qs.block_ret ?_ | refine Qs.block_here ?_ | refine Qs.block_other rfl ?_) | refine RS.step ?_)
             refine SL.callP rfl (Kids _ _) rfl (fun v h' hle hv => ?_)
             refine SL.callV rfl (hc _ v _ (kids_le t) hv hk) rfl ?_
             repeat' (first | (refine SL.isSL ?_; first | (refine SL.isN ?_; first | refine SL.nA ?_ | refine SL.alloc rfl rfl (fun b => ?_) | refine SL.box rfl rfl rfl (fun b => ?_)) | (refine SL.isG ?_; first | refine SL.gF rfl rfl rfl ?_ | refine SL.gU rfl rfl rfl ?_ | refine SL.gA ?_) | (refine SL.isSt ?_; refine SL.stA ?_) | refine SL.nil ?_ | (refine SL.isG ?_; first | refine SL.gCase rfl rfl (fun e => ?_) (fun e => ?_) | refine SL.gCaseN rfl rfl (fun e => ?_) (fun e => ?_))) | (refine St.isSt ?_; first | refine St.seq ?_ | refine St.region ?_ | refine St.block ?_ | refine St.ret ?_ | refine St.skip ?_ | refine St.exit ?_ | refine St.condT rfl ?_ | refine St.condF rfl ?_ | refine St.condY rfl (by omega) ?_ | refine St.condZ rfl (by omega) ?_) | (refine Qs.isQs ?_; first | refine Qs.then_normal ?_ | refine Qs.then_rounds ?_ | refine Qs.then_ret ?_ | refine Qs.then_exit ?_ | refine Qs.block_normal ?_ | refine Qs.block_ret ?_ | refine Qs.block_here ?_ | refine Qs.block_other rfl ?_) | refine RS.step ?_)
             exact Qs.retVe rfl rfl rfl (fin _ (by simp at o2; simp [o2])))
end Go.Proofs.YtfookachkcgdpaaDoor
