/- The reference's names. Plain theorems; no condition. -/
import Derived.Test.YtfookachkcgdpaaDoorRn
set_option linter.unusedVariables false
set_option linter.unusedSimpArgs false
set_option maxRecDepth 100000
set_option maxHeartbeats 8000000
namespace Go.Proofs.YtfookachkcgdpaaDoor
open Go.RowKit
theorem runesAt_length (s : ByteArray) : ∀ (m p : Nat), s.size - p ≤ m → (runesAt s p).length ≤ s.size - p := by
  intro m
  induction m with
  | zero => intro p hp; rw [runesAt_end (by omega)]; simp
  | succ m ih =>
    intro p hp
    by_cases h : p < s.size
    · rw [runesAt_step h]
      have hw := decode_width s p
      have := ih (p + (Utf8.decode s p).2) (by omega)
      simp only [List.length_cons]
      omega
    · rw [runesAt_end h]; simp
theorem runesOf_length (s : ByteArray) : (runesOf s).length ≤ s.size := by
  have := runesAt_length s _ 0 (Nat.le_refl _)
  simpa [runesOf] using this
attribute [local irreducible] St SL Qs NOp TK SQ RS Fn FnV FnP

theorem RName_v (h : GH) (s : ByteArray) (hs : s.size ≤ 1000000) : FnV Tryd.prog h 56 [.string s].toArray (.bool (nameB s)) := by
  refine FnV.enter Tryd.func56 rfl rfl rfl rfl fun w hg => ?_
  have hlen := runesOf_length s
  repeat' (first | (refine SL.isSL ?_; first | (refine SL.isN ?_; first | refine SL.nA ?_ | refine SL.alloc rfl rfl (fun b => ?_) | refine SL.box rfl rfl rfl (fun b => ?_)) | (refine SL.isG ?_; first | refine SL.gF rfl rfl rfl ?_ | refine SL.gU rfl rfl rfl ?_ | refine SL.gA ?_) | (refine SL.isSt ?_; refine SL.stA ?_) | refine SL.nil ?_ | (refine SL.isG ?_; first | refine SL.gCase rfl rfl (fun e => ?_) (fun e => ?_) | refine SL.gCaseN rfl rfl (fun e => ?_) (fun e => ?_))) | (refine St.isSt ?_; first | refine St.seq ?_ | refine St.region ?_ | refine St.block ?_ | refine St.ret ?_ | refine St.skip ?_ | refine St.exit ?_ | refine St.condT rfl ?_ | refine St.condF rfl ?_ | refine St.condY rfl (by omega) ?_ | refine St.condZ rfl (by omega) ?_) | (refine Qs.isQs ?_; first | refine Qs.then_normal ?_ | refine Qs.then_rounds ?_ | refine Qs.then_ret ?_ | refine Qs.then_exit ?_ | refine Qs.block_normal ?_ | refine Qs.block_ret ?_ | refine Qs.block_here ?_ | refine Qs.block_other rfl ?_) | refine RS.step ?_)
  refine SL.callP rfl (RRunes _ s hs) rfl (fun v g hle hv => ?_)
  obtain ⟨A, c, rfl, hc, hr⟩ := hv
  generalize hl : runesOf s = l at hlen hc hr ⊢
  repeat' (first | (refine SL.isSL ?_; first | (refine SL.isN ?_; first | refine SL.nA ?_ | refine SL.alloc rfl rfl (fun b => ?_) | refine SL.box rfl rfl rfl (fun b => ?_)) | (refine SL.isG ?_; first | refine SL.gF rfl rfl rfl ?_ | refine SL.gU rfl rfl rfl ?_ | refine SL.gA ?_) | (refine SL.isSt ?_; refine SL.stA ?_) | refine SL.nil ?_ | (refine SL.isG ?_; first | refine SL.gCase rfl rfl (fun e => ?_) (fun e => ?_) | refine SL.gCaseN rfl rfl (fun e => ?_) (fun e => ?_))) | (refine St.isSt ?_; first | refine St.seq ?_ | refine St.region ?_ | refine St.block ?_ | refine St.ret ?_ | refine St.skip ?_ | refine St.exit ?_ | refine St.condT rfl ?_ | refine St.condF rfl ?_ | refine St.condY rfl (by omega) ?_ | refine St.condZ rfl (by omega) ?_) | (refine Qs.isQs ?_; first | refine Qs.then_normal ?_ | refine Qs.then_rounds ?_ | refine Qs.then_ret ?_ | refine Qs.then_exit ?_ | refine Qs.block_normal ?_ | refine Qs.block_ret ?_ | refine Qs.block_here ?_ | refine Qs.block_other rfl ?_) | refine RS.step ?_)
  refine St.loop (α := List Int × List Int) (fun p => [(3, .slice A l.length c), (8, .int .i64 l.length), (9, .int .i64 p.1.length)]) (fun _ => g) (fun _ => []) (fun p => l = p.1 ++ p.2 ∧ (∀ r ∈ p.1, letP r) ∧ ∀ r, p.1.head? = some r → ¬ digP r) (fun p => p.2.length) ([], l) ⟨rfl, by simp, by simp⟩ rfl (by rfl) (by repeat (first | exact trivial | refine ⟨rfl, ?_⟩)) ?_
  rintro ⟨pre, rest⟩ ⟨el, hall, hhd⟩
  dsimp only at el hall hhd ⊢
  have hpl : l.length = pre.length + rest.length := by rw [el]; simp
  cases rest with
  | nil =>
    simp only [List.length_nil, List.append_nil] at hpl el
    repeat' (first | (refine SL.isSL ?_; first | (refine SL.isN ?_; first | refine SL.nA ?_ | refine SL.alloc rfl rfl (fun b => ?_) | refine SL.box rfl rfl rfl (fun b => ?_)) | (refine SL.isG ?_; first | refine SL.gF rfl rfl rfl ?_ | refine SL.gU rfl rfl rfl ?_ | refine SL.gA ?_) | (refine SL.isSt ?_; refine SL.stA ?_) | refine SL.nil ?_ | (refine SL.isG ?_; first | refine SL.gCase rfl rfl (fun e => ?_) (fun e => ?_) | refine SL.gCaseN rfl rfl (fun e => ?_) (fun e => ?_))) | (refine St.isSt ?_; first | refine St.seq ?_ | refine St.region ?_ | refine St.block ?_ | refine St.ret ?_ | refine St.skip ?_ | refine St.exit ?_ | refine St.condT rfl ?_ | refine St.condF rfl ?_ | refine St.condY rfl (by omega) ?_ | refine St.condZ rfl (by omega) ?_) | (refine Qs.isQs ?_; first | refine Qs.then_normal ?_ | refine Qs.then_rounds ?_ | refine Qs.then_ret ?_ | refine Qs.then_exit ?_ | refine Qs.block_normal ?_ | refine Qs.block_ret ?_ | refine Qs.block_here ?_ | refine Qs.block_other rfl ?_) | refine RS.step ?_)
    · refine Qs.retVe rfl rfl rfl ?_
      by_cases h12 : (l.length : Int) ≤ 12
      · have hok : NameP (runesOf s) := by rw [hl]; subst el; exact ⟨by omega, by omega, hall, hhd⟩
        rw [← nameB_true hok]
        simp; omega
      · have hno : ¬ NameP (runesOf s) := by rw [hl]; rintro ⟨_, h2, _⟩; omega
        rw [← nameB_false hno]
        simp; omega
    · refine Qs.retVe rfl rfl rfl (nameB_false ?_)
      rw [hl]; rintro ⟨h1, _⟩; omega
  | cons a rest =>
    simp only [List.length_cons] at hpl
    obtain ⟨kb, off, ar, te, fr, rfl, hb, hat⟩ := hr (by rw [el]; simp)
    have k0 : ar[off + (pre.length : Int).toNat * 1]? = some (.int .i32 a) := by
      have := hat pre.length (.int .i32 a) (by rw [el]; simp [rnv])
      simpa using this
    repeat' (first | refine SL.n (NOp.idx rfl rfl (by omega)) rfl ?_ | refine SL.n (NOp.ldH rfl hb k0) rfl ?_ | refine SL.gT rfl rfl (NOp.idx rfl rfl (by omega)) rfl ?_ | refine SL.gT rfl rfl (NOp.ldH rfl hb k0) rfl ?_ | refine SL.callV rfl (RLetter_v _ _) rfl ?_ | (refine SL.isSL ?_; first | (refine SL.isN ?_; first | refine SL.nA ?_ | refine SL.alloc rfl rfl (fun b => ?_) | refine SL.box rfl rfl rfl (fun b => ?_)) | (refine SL.isG ?_; first | refine SL.gF rfl rfl rfl ?_ | refine SL.gU rfl rfl rfl ?_ | refine SL.gA ?_) | (refine SL.isSt ?_; refine SL.stA ?_) | refine SL.nil ?_ | (refine SL.isG ?_; first | refine SL.gCase rfl rfl (fun e => ?_) (fun e => ?_) | refine SL.gCaseN rfl rfl (fun e => ?_) (fun e => ?_))) | (refine St.isSt ?_; first | refine St.seq ?_ | refine St.region ?_ | refine St.block ?_ | refine St.ret ?_ | refine St.skip ?_ | refine St.exit ?_ | refine St.condT rfl ?_ | refine St.condF rfl ?_ | refine St.condY rfl (by omega) ?_ | refine St.condZ rfl (by omega) ?_) | (refine Qs.isQs ?_; first | refine Qs.then_normal ?_ | refine Qs.then_rounds ?_ | refine Qs.then_ret ?_ | refine Qs.then_exit ?_ | refine Qs.block_normal ?_ | refine Qs.block_ret ?_ | refine Qs.block_here ?_ | refine Qs.block_other rfl ?_) | refine RS.step ?_)
    all_goals (try refine St.condD rfl (fun e => ?_) (fun e => ?_))
    all_goals (
      repeat' (first | (refine SL.isSL ?_; first | (refine SL.isN ?_; first | refine SL.nA ?_ | refine SL.alloc rfl rfl (fun b => ?_) | refine SL.box rfl rfl rfl (fun b => ?_)) | (refine SL.isG ?_; first | refine SL.gF rfl rfl rfl ?_ | refine SL.gU rfl rfl rfl ?_ | refine SL.gA ?_) | (refine SL.isSt ?_; refine SL.stA ?_) | refine SL.nil ?_ | (refine SL.isG ?_; first | refine SL.gCase rfl rfl (fun e => ?_) (fun e => ?_) | refine SL.gCaseN rfl rfl (fun e => ?_) (fun e => ?_))) | (refine St.isSt ?_; first | refine St.seq ?_ | refine St.region ?_ | refine St.block ?_ | refine St.ret ?_ | refine St.skip ?_ | refine St.exit ?_ | refine St.condT rfl ?_ | refine St.condF rfl ?_ | refine St.condY rfl (by omega) ?_ | refine St.condZ rfl (by omega) ?_) | (refine Qs.isQs ?_; first | refine Qs.then_normal ?_ | refine Qs.then_rounds ?_ | refine Qs.then_ret ?_ | refine Qs.then_exit ?_ | refine Qs.block_normal ?_ | refine Qs.block_ret ?_ | refine Qs.block_here ?_ | refine Qs.block_other rfl ?_) | refine RS.step ?_)
      simp only [decide_eq_true_eq, decide_eq_false_iff_not] at *
      first
      | (refine Qs.retVe rfl rfl rfl (nameB_false ?_)
         rw [hl, el]
         rintro ⟨_, h2, h3, h4⟩
         first
         | (have := h3 a (by simp); omega)
         | (have h5 : pre = [] := List.eq_nil_of_length_eq_zero (by omega)
            subst h5
            have := h4 a (by simp)
            omega))
      | (refine Some_.intro (pre ++ [a], rest) ⟨⟨by rw [el]; simp, ?_, ?_⟩, by dsimp only; simp⟩ (fun _ _ x => x) rfl rfl ?_
         · refine ⟨rfl, rfl, lk_eq rfl ?_, trivial⟩
           simp
         · intro q hq
           rcases List.mem_append.1 hq with hq | hq
           · exact hall q hq
           · simp only [List.mem_singleton] at hq
             subst hq
             assumption
         · intro q hq
           cases pre with
           | nil =>
             simp at hq
             subst hq
             simp only [List.length_nil] at *
             omega
           | cons z pre => exact hhd q (by simpa using hq)))
end Go.Proofs.YtfookachkcgdpaaDoor
