/- Names: the program's test and the document's. Plain theorems; no condition. -/
import Derived.Test.YtfookachkcgdpaaDoorA
set_option linter.unusedVariables false
set_option linter.unusedSimpArgs false
set_option maxRecDepth 100000
set_option maxHeartbeats 1000000
namespace Go.Proofs.YtfookachkcgdpaaDoor
open Go.RowKit
attribute [local irreducible] St SL Qs NOp TK SQ RS Fn FnV FnP

/-- May a text of these runes be a name? -/
def NameP (l : List Int) : Prop := 1 ≤ l.length ∧ l.length ≤ 12 ∧ (∀ r ∈ l, letP r) ∧ ∀ r, l.head? = some r → ¬ digP r
open Classical in
noncomputable def nameB (s : ByteArray) : Bool := decide (NameP (runesOf s))
theorem nameB_true {s : ByteArray} (h : NameP (runesOf s)) : Value.bool true = Value.bool (nameB s) := by unfold nameB; simp [h]
theorem nameB_false {s : ByteArray} (h : ¬ NameP (runesOf s)) : Value.bool false = Value.bool (nameB s) := by unfold nameB; simp [h]
theorem name_bad {pre rest : List Int} {r : Int} (h : ¬ letP r ∨ (pre.length = 0 ∧ digP r) ∨ 12 < pre.length + 1) : ¬ NameP (pre ++ r :: rest) := by
  rintro ⟨h1, h2, h3, h4⟩
  rcases h with h | ⟨h5, h6⟩ | h
  · exact h (h3 r (by simp))
  · have := List.eq_nil_of_length_eq_zero h5
    subst this
    exact h4 r (by simp) h6
  · simp at h2; omega
theorem Name_v (h : GH) (s : ByteArray) : FnV Tryd.prog h 48 [.string s].toArray (.bool (nameB s)) := by
  refine FnV.enter Tryd.func48 rfl rfl rfl rfl fun w hg => ?_
  repeat' (first | (refine SL.isSL ?_; first | (refine SL.isN ?_; first | refine SL.nA ?_ | refine SL.alloc rfl rfl (fun b => ?_) | refine SL.box rfl rfl rfl (fun b => ?_)) | (refine SL.isG ?_; first | refine SL.gF rfl rfl rfl ?_ | refine SL.gU rfl rfl rfl ?_ | refine SL.gA ?_) | (refine SL.isSt ?_; refine SL.stA ?_) | refine SL.nil ?_ | (refine SL.isG ?_; first | refine SL.gCase rfl rfl (fun e => ?_) (fun e => ?_) | refine SL.gCaseN rfl rfl (fun e => ?_) (fun e => ?_))) | (refine St.isSt ?_; first | refine St.seq ?_ | refine St.region ?_ | refine St.block ?_ | refine St.ret ?_ | refine St.skip ?_ | refine St.exit ?_ | refine St.condT rfl ?_ | refine St.condF rfl ?_ | refine St.condY rfl (by omega) ?_ | refine St.condZ rfl (by omega) ?_) | (refine Qs.isQs ?_; first | refine Qs.then_normal ?_ | refine Qs.then_rounds ?_ | refine Qs.then_ret ?_ | refine Qs.then_exit ?_ | refine Qs.block_normal ?_ | refine Qs.block_ret ?_ | refine Qs.block_here ?_ | refine Qs.block_other rfl ?_) | refine RS.step ?_)
  refine SL.range rfl rfl (fun b => ?_)
  repeat' (first | (refine SL.isSL ?_; first | (refine SL.isN ?_; first | refine SL.nA ?_ | refine SL.alloc rfl rfl (fun b => ?_) | refine SL.box rfl rfl rfl (fun b => ?_)) | (refine SL.isG ?_; first | refine SL.gF rfl rfl rfl ?_ | refine SL.gU rfl rfl rfl ?_ | refine SL.gA ?_) | (refine SL.isSt ?_; refine SL.stA ?_) | refine SL.nil ?_ | (refine SL.isG ?_; first | refine SL.gCase rfl rfl (fun e => ?_) (fun e => ?_) | refine SL.gCaseN rfl rfl (fun e => ?_) (fun e => ?_))) | (refine St.isSt ?_; first | refine St.seq ?_ | refine St.region ?_ | refine St.block ?_ | refine St.ret ?_ | refine St.skip ?_ | refine St.exit ?_ | refine St.condT rfl ?_ | refine St.condF rfl ?_ | refine St.condY rfl (by omega) ?_ | refine St.condZ rfl (by omega) ?_) | (refine Qs.isQs ?_; first | refine Qs.then_normal ?_ | refine Qs.then_rounds ?_ | refine Qs.then_ret ?_ | refine Qs.then_exit ?_ | refine Qs.block_normal ?_ | refine Qs.block_ret ?_ | refine Qs.block_here ?_ | refine Qs.block_other rfl ?_) | refine RS.step ?_)
  refine St.loop (α := Nat × List Int) (fun x => [(3, .int .i64 x.2.length), (7, .pointer (some ⟨b, 0, none⟩))]) (fun _ => h) (fun x => [(b, .stringIter s x.1)])
    (fun x => runesOf s = x.2 ++ runesAt s x.1 ∧ x.2.length ≤ 12 ∧ (∀ r ∈ x.2, letP r) ∧ ∀ r, x.2.head? = some r → ¬ digP r) (fun x => s.size - x.1) (0, []) ⟨rfl, by simp, by simp, by simp⟩ rfl rfl (by repeat (first | exact trivial | refine ⟨rfl, ?_⟩)) ?_
  rintro ⟨p, pre⟩ ⟨hrun, hlen, hall, hhd⟩
  dsimp only at hrun hlen hall hhd ⊢
  by_cases hlt : p < s.size
  · have hstep := runesAt_step hlt
    have hw := decode_width s p
    rw [hstep] at hrun
    repeat' (first | (refine SL.isSL ?_; first | (refine SL.isN ?_; first | refine SL.nA ?_ | refine SL.alloc rfl rfl (fun b => ?_) | refine SL.box rfl rfl rfl (fun b => ?_)) | (refine SL.isG ?_; first | refine SL.gF rfl rfl rfl ?_ | refine SL.gU rfl rfl rfl ?_ | refine SL.gA ?_) | (refine SL.isSt ?_; refine SL.stA ?_) | refine SL.nil ?_ | (refine SL.isG ?_; first | refine SL.gCase rfl rfl (fun e => ?_) (fun e => ?_) | refine SL.gCaseN rfl rfl (fun e => ?_) (fun e => ?_))) | (refine St.isSt ?_; first | refine St.seq ?_ | refine St.region ?_ | refine St.block ?_ | refine St.ret ?_ | refine St.skip ?_ | refine St.exit ?_ | refine St.condT rfl ?_ | refine St.condF rfl ?_ | refine St.condY rfl (by omega) ?_ | refine St.condZ rfl (by omega) ?_) | (refine Qs.isQs ?_; first | refine Qs.then_normal ?_ | refine Qs.then_rounds ?_ | refine Qs.then_ret ?_ | refine Qs.then_exit ?_ | refine Qs.block_normal ?_ | refine Qs.block_ret ?_ | refine Qs.block_here ?_ | refine Qs.block_other rfl ?_) | refine RS.step ?_)
    refine SL.nextS 0 rfl rfl hlt rfl rfl ?_
    generalize hr : ((Utf8.decode s p).1 : Int) = r at hrun ⊢
    repeat' (first | refine SL.callV rfl (Letter_v _ _) rfl ?_ | refine SL.callVT rfl rfl rfl (digit_v _ _) rfl ?_ | (refine SL.isSL ?_; first | (refine SL.isN ?_; first | refine SL.nA ?_ | refine SL.alloc rfl rfl (fun b => ?_) | refine SL.box rfl rfl rfl (fun b => ?_)) | (refine SL.isG ?_; first | refine SL.gF rfl rfl rfl ?_ | refine SL.gU rfl rfl rfl ?_ | refine SL.gA ?_) | (refine SL.isSt ?_; refine SL.stA ?_) | refine SL.nil ?_ | (refine SL.isG ?_; first | refine SL.gCase rfl rfl (fun e => ?_) (fun e => ?_) | refine SL.gCaseN rfl rfl (fun e => ?_) (fun e => ?_))) | (refine St.isSt ?_; first | refine St.seq ?_ | refine St.region ?_ | refine St.block ?_ | refine St.ret ?_ | refine St.skip ?_ | refine St.exit ?_ | refine St.condT rfl ?_ | refine St.condF rfl ?_ | refine St.condY rfl (by omega) ?_ | refine St.condZ rfl (by omega) ?_) | (refine Qs.isQs ?_; first | refine Qs.then_normal ?_ | refine Qs.then_rounds ?_ | refine Qs.then_ret ?_ | refine Qs.then_exit ?_ | refine Qs.block_normal ?_ | refine Qs.block_ret ?_ | refine Qs.block_here ?_ | refine Qs.block_other rfl ?_) | refine RS.step ?_)
    all_goals (try refine St.condD rfl (fun e => ?_) (fun e => ?_))
    all_goals (
      repeat' (first | (refine SL.isSL ?_; first | (refine SL.isN ?_; first | refine SL.nA ?_ | refine SL.alloc rfl rfl (fun b => ?_) | refine SL.box rfl rfl rfl (fun b => ?_)) | (refine SL.isG ?_; first | refine SL.gF rfl rfl rfl ?_ | refine SL.gU rfl rfl rfl ?_ | refine SL.gA ?_) | (refine SL.isSt ?_; refine SL.stA ?_) | refine SL.nil ?_ | (refine SL.isG ?_; first | refine SL.gCase rfl rfl (fun e => ?_) (fun e => ?_) | refine SL.gCaseN rfl rfl (fun e => ?_) (fun e => ?_))) | (refine St.isSt ?_; first | refine St.seq ?_ | refine St.region ?_ | refine St.block ?_ | refine St.ret ?_ | refine St.skip ?_ | refine St.exit ?_ | refine St.condT rfl ?_ | refine St.condF rfl ?_ | refine St.condY rfl (by omega) ?_ | refine St.condZ rfl (by omega) ?_) | (refine Qs.isQs ?_; first | refine Qs.then_normal ?_ | refine Qs.then_rounds ?_ | refine Qs.then_ret ?_ | refine Qs.then_exit ?_ | refine Qs.block_normal ?_ | refine Qs.block_ret ?_ | refine Qs.block_here ?_ | refine Qs.block_other rfl ?_) | refine RS.step ?_)
      first
      | (refine Qs.retVe rfl rfl rfl (nameB_false ?_)
         rw [hrun]
         refine name_bad ?_
         simp only [Bool.not_eq_true', Bool.not_eq_false', decide_eq_true_eq, decide_eq_false_iff_not] at *
         omega)
      | (refine Some_.intro (p + (Utf8.decode s p).2, pre ++ [r]) ⟨⟨by rw [hrun]; simp, by simp; omega, ?_, ?_⟩, by dsimp only; omega⟩ (fun _ _ x => x) rfl rfl ?_
         · refine ⟨lk_eq rfl ?_, rfl, trivial⟩
           simp
         · intro q hq
           rcases List.mem_append.1 hq with hq | hq
           · exact hall q hq
           · simp only [List.mem_singleton] at hq
             subst hq
             simp only [Bool.not_eq_true', Bool.not_eq_false', decide_eq_true_eq, decide_eq_false_iff_not] at *
             assumption
         · intro q hq
           cases pre with
           | nil =>
             simp at hq
             subst hq
             simp only [Bool.not_eq_true', Bool.not_eq_false', decide_eq_true_eq, decide_eq_false_iff_not, List.length_nil] at *
             omega
           | cons z pre => exact hhd q (by simpa using hq)
    )
      )
  · rw [runesAt_end hlt, List.append_nil] at hrun
    repeat' (first | (refine SL.isSL ?_; first | (refine SL.isN ?_; first | refine SL.nA ?_ | refine SL.alloc rfl rfl (fun b => ?_) | refine SL.box rfl rfl rfl (fun b => ?_)) | (refine SL.isG ?_; first | refine SL.gF rfl rfl rfl ?_ | refine SL.gU rfl rfl rfl ?_ | refine SL.gA ?_) | (refine SL.isSt ?_; refine SL.stA ?_) | refine SL.nil ?_ | (refine SL.isG ?_; first | refine SL.gCase rfl rfl (fun e => ?_) (fun e => ?_) | refine SL.gCaseN rfl rfl (fun e => ?_) (fun e => ?_))) | (refine St.isSt ?_; first | refine St.seq ?_ | refine St.region ?_ | refine St.block ?_ | refine St.ret ?_ | refine St.skip ?_ | refine St.exit ?_ | refine St.condT rfl ?_ | refine St.condF rfl ?_ | refine St.condY rfl (by omega) ?_ | refine St.condZ rfl (by omega) ?_) | (refine Qs.isQs ?_; first | refine Qs.then_normal ?_ | refine Qs.then_rounds ?_ | refine Qs.then_ret ?_ | refine Qs.then_exit ?_ | refine Qs.block_normal ?_ | refine Qs.block_ret ?_ | refine Qs.block_here ?_ | refine Qs.block_other rfl ?_) | refine RS.step ?_)
    refine SL.nextE 0 rfl rfl hlt rfl ?_
    repeat' (first | (refine SL.isSL ?_; first | (refine SL.isN ?_; first | refine SL.nA ?_ | refine SL.alloc rfl rfl (fun b => ?_) | refine SL.box rfl rfl rfl (fun b => ?_)) | (refine SL.isG ?_; first | refine SL.gF rfl rfl rfl ?_ | refine SL.gU rfl rfl rfl ?_ | refine SL.gA ?_) | (refine SL.isSt ?_; refine SL.stA ?_) | refine SL.nil ?_ | (refine SL.isG ?_; first | refine SL.gCase rfl rfl (fun e => ?_) (fun e => ?_) | refine SL.gCaseN rfl rfl (fun e => ?_) (fun e => ?_))) | (refine St.isSt ?_; first | refine St.seq ?_ | refine St.region ?_ | refine St.block ?_ | refine St.ret ?_ | refine St.skip ?_ | refine St.exit ?_ | refine St.condT rfl ?_ | refine St.condF rfl ?_ | refine St.condY rfl (by omega) ?_ | refine St.condZ rfl (by omega) ?_) | (refine Qs.isQs ?_; first | refine Qs.then_normal ?_ | refine Qs.then_rounds ?_ | refine Qs.then_ret ?_ | refine Qs.then_exit ?_ | refine Qs.block_normal ?_ | refine Qs.block_ret ?_ | refine Qs.block_here ?_ | refine Qs.block_other rfl ?_) | refine RS.step ?_)
    refine Qs.retVe rfl rfl rfl ?_
    by_cases h0 : pre.length = 0
    · have hne : ¬ NameP (runesOf s) := by rintro ⟨h1, _⟩; rw [hrun] at h1; omega
      rw [← nameB_false hne]
      simp [h0]
    · have hok : NameP (runesOf s) := by rw [hrun]; exact ⟨by omega, hlen, hall, hhd⟩
      rw [← nameB_true hok]
      simp; omega
end Go.Proofs.YtfookachkcgdpaaDoor
