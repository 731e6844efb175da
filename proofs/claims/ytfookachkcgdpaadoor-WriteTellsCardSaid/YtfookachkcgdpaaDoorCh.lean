/- The reference's check of a tree, and its writer: the walks. Plain theorems; no condition. -/
import Derived.Test.YtfookachkcgdpaaDoorFo
import Derived.Test.YtfookachkcgdpaaDoorRx
set_option linter.unusedVariables false
set_option linter.unusedSimpArgs false
set_option maxRecDepth 100000
set_option maxHeartbeats 8000000
namespace Go.Proofs.YtfookachkcgdpaaDoor
open Go.RowKit
attribute [local irreducible] St SL Qs NOp TK SQ RS Fn FnV FnP

theorem RCheck_v (t : Tr) (u : Bool) (hc : rcnt t ≤ 1000000) (hz : rtsz t ≤ 1000000) (h : GH) (K : Value) (hK : TK_ h t K) : FnV Tryd.prog h 22 [TrV t K, .bool u].toArray (.int .i64 (rcheck t u)) := by
  have hf := fun h (K : Value) (hK : TK_ h t K) => RForm_v _ t (Nat.le_refl _) hz u h K hK
  have hs := fun h (K : Value) (hK : TK_ h t K) => RSize_v _ t hc (Nat.le_refl _) h K hK
  have hl := fun h (K : Value) (hK : TK_ h t K) => RLabels _ t hc (Nat.le_refl _) h K hK
  have hlc := rlabels_cnt t
  refine FnV.enter Tryd.func22 rfl rfl rfl rfl fun w hg => ?_
  simp only [TrV, fl] at hf hs hl ⊢
  cases h1 : rform t u <;> rw [h1] at hf
  · repeat' (first | (refine SL.isSL ?_; first | (refine SL.isCallF 37 ?_; first | (refine SL.isN ?_; refine SL.callV rfl (hf _ _ hK) rfl ?_) | (refine SL.isG ?_; refine SL.callVT rfl rfl rfl (hf _ _ hK) rfl ?_)) | (refine SL.isN ?_; first | refine SL.nA ?_ | refine SL.alloc rfl rfl (fun b => ?_) | refine SL.box rfl rfl rfl (fun b => ?_)) | (refine SL.isG ?_; first | refine SL.gF rfl rfl rfl ?_ | refine SL.gU rfl rfl rfl ?_ | refine SL.gA ?_) | (refine SL.isSt ?_; refine SL.stA ?_) | refine SL.nil ?_ | (refine SL.isG ?_; first | refine SL.gCase rfl rfl (fun e => ?_) (fun e => ?_) | refine SL.gCaseN rfl rfl (fun e => ?_) (fun e => ?_))) | (refine St.isSt ?_; first | refine St.seq ?_ | refine St.region ?_ | refine St.block ?_ | refine St.ret ?_ | refine St.skip ?_ | refine St.exit ?_ | refine St.condT rfl ?_ | refine St.condF rfl ?_ | refine St.condY rfl (by omega) ?_ | refine St.condZ rfl (by omega) ?_) | (refine Qs.isQs ?_; first | refine Qs.then_normal ?_ | refine Qs.then_rounds ?_ | refine Qs.then_ret ?_ | refine Qs.then_exit ?_ | refine Qs.block_normal ?_ | refine Qs.block_ret ?_ | refine Qs.block_here ?_ | refine Qs.block_other rfl ?_) | refine RS.step ?_)
    refine Qs.retVe rfl rfl rfl ?_
    simp [rcheck, h1]
  · repeat' (first | (refine SL.isSL ?_; first | (refine SL.isCallF 37 ?_; first | (refine SL.isN ?_; refine SL.callV rfl (hf _ _ hK) rfl ?_) | (refine SL.isG ?_; refine SL.callVT rfl rfl rfl (hf _ _ hK) rfl ?_)) | (refine SL.isCallF 27 ?_; first | (refine SL.isN ?_; refine SL.callV rfl (hs _ _ hK) rfl ?_) | (refine SL.isG ?_; refine SL.callVT rfl rfl rfl (hs _ _ hK) rfl ?_)) | (refine SL.isN ?_; first | refine SL.nA ?_ | refine SL.alloc rfl rfl (fun b => ?_) | refine SL.box rfl rfl rfl (fun b => ?_)) | (refine SL.isG ?_; first | refine SL.gF rfl rfl rfl ?_ | refine SL.gU rfl rfl rfl ?_ | refine SL.gA ?_) | (refine SL.isSt ?_; refine SL.stA ?_) | refine SL.nil ?_ | (refine SL.isG ?_; first | refine SL.gCase rfl rfl (fun e => ?_) (fun e => ?_) | refine SL.gCaseN rfl rfl (fun e => ?_) (fun e => ?_))) | (refine St.isSt ?_; first | refine St.seq ?_ | refine St.region ?_ | refine St.block ?_ | refine St.ret ?_ | refine St.skip ?_ | refine St.exit ?_ | refine St.condT rfl ?_ | refine St.condF rfl ?_ | refine St.condY rfl (by omega) ?_ | refine St.condZ rfl (by omega) ?_) | (refine Qs.isQs ?_; first | refine Qs.then_normal ?_ | refine Qs.then_rounds ?_ | refine Qs.then_ret ?_ | refine Qs.then_exit ?_ | refine Qs.block_normal ?_ | refine Qs.block_ret ?_ | refine Qs.block_here ?_ | refine Qs.block_other rfl ?_) | refine RS.step ?_)
    · refine Qs.retVe rfl rfl rfl ?_
      simp [rcheck, h1, e]
    · have e0 := e
      refine St.condD rfl (fun e => ?_) (fun e => ?_)
      · repeat' (first | (refine SL.isSL ?_; first | (refine SL.isN ?_; first | refine SL.nA ?_ | refine SL.alloc rfl rfl (fun b => ?_) | refine SL.box rfl rfl rfl (fun b => ?_)) | (refine SL.isG ?_; first | refine SL.gF rfl rfl rfl ?_ | refine SL.gU rfl rfl rfl ?_ | refine SL.gA ?_) | (refine SL.isSt ?_; refine SL.stA ?_) | refine SL.nil ?_ | (refine SL.isG ?_; first | refine SL.gCase rfl rfl (fun e => ?_) (fun e => ?_) | refine SL.gCaseN rfl rfl (fun e => ?_) (fun e => ?_))) | (refine St.isSt ?_; first | refine St.seq ?_ | refine St.region ?_ | refine St.block ?_ | refine St.ret ?_ | refine St.skip ?_ | refine St.exit ?_ | refine St.condT rfl ?_ | refine St.condF rfl ?_ | refine St.condY rfl (by omega) ?_ | refine St.condZ rfl (by omega) ?_) | (refine Qs.isQs ?_; first | refine Qs.then_normal ?_ | refine Qs.then_rounds ?_ | refine Qs.then_ret ?_ | refine Qs.then_exit ?_ | refine Qs.block_normal ?_ | refine Qs.block_ret ?_ | refine Qs.block_here ?_ | refine Qs.block_other rfl ?_) | refine RS.step ?_)
        refine Qs.retVe rfl rfl rfl ?_
        simp [rcheck, h1, e]
      · repeat' (first | (refine SL.isSL ?_; first | (refine SL.isN ?_; first | refine SL.nA ?_ | refine SL.alloc rfl rfl (fun b => ?_) | refine SL.box rfl rfl rfl (fun b => ?_)) | (refine SL.isG ?_; first | refine SL.gF rfl rfl rfl ?_ | refine SL.gU rfl rfl rfl ?_ | refine SL.gA ?_) | (refine SL.isSt ?_; refine SL.stA ?_) | refine SL.nil ?_ | (refine SL.isG ?_; first | refine SL.gCase rfl rfl (fun e => ?_) (fun e => ?_) | refine SL.gCaseN rfl rfl (fun e => ?_) (fun e => ?_))) | (refine St.isSt ?_; first | refine St.seq ?_ | refine St.region ?_ | refine St.block ?_ | refine St.ret ?_ | refine St.skip ?_ | refine St.exit ?_ | refine St.condT rfl ?_ | refine St.condF rfl ?_ | refine St.condY rfl (by omega) ?_ | refine St.condZ rfl (by omega) ?_) | (refine Qs.isQs ?_; first | refine Qs.then_normal ?_ | refine Qs.then_rounds ?_ | refine Qs.then_ret ?_ | refine Qs.then_exit ?_ | refine Qs.block_normal ?_ | refine Qs.block_ret ?_ | refine Qs.block_here ?_ | refine Qs.block_other rfl ?_) | refine RS.step ?_)
        refine SL.callP rfl (hl _ _ hK) rfl (fun v h' hle hv => ?_)
        obtain ⟨A, c, rfl, hc, hr⟩ := hv
        have fin : ∀ x, (if twice [] (rlabels t) then (4 : Int) else 0) = x → Value.int .i64 x = Value.int .i64 (rcheck t u) := fun x hx => by
          rw [← hx]; simp [rcheck, h1, e, e0]
        generalize rlabels t = ss at hlc hc hr fin ⊢
        repeat' (first | (refine SL.isSL ?_; first | (refine SL.isN ?_; first | refine SL.nA ?_ | refine SL.alloc rfl rfl (fun b => ?_) | refine SL.box rfl rfl rfl (fun b => ?_)) | (refine SL.isG ?_; first | refine SL.gF rfl rfl rfl ?_ | refine SL.gU rfl rfl rfl ?_ | refine SL.gA ?_) | (refine SL.isSt ?_; refine SL.stA ?_) | refine SL.nil ?_ | (refine SL.isG ?_; first | refine SL.gCase rfl rfl (fun e => ?_) (fun e => ?_) | refine SL.gCaseN rfl rfl (fun e => ?_) (fun e => ?_))) | (refine St.isSt ?_; first | refine St.seq ?_ | refine St.region ?_ | refine St.block ?_ | refine St.ret ?_ | refine St.skip ?_ | refine St.exit ?_ | refine St.condT rfl ?_ | refine St.condF rfl ?_ | refine St.condY rfl (by omega) ?_ | refine St.condZ rfl (by omega) ?_) | (refine Qs.isQs ?_; first | refine Qs.then_normal ?_ | refine Qs.then_rounds ?_ | refine Qs.then_ret ?_ | refine Qs.then_exit ?_ | refine Qs.block_normal ?_ | refine Qs.block_ret ?_ | refine Qs.block_here ?_ | refine Qs.block_other rfl ?_) | refine RS.step ?_)
        refine St.loop (α := List ByteArray × List ByteArray) (fun p => [(7, .slice A ss.length c), (28, .int .i64 ss.length), (29, .int .i64 p.1.length)]) (fun _ => h') (fun _ => [(b, cel [.int .i64 t.kind, .string t.s, .int .i64 t.n, K] 29)]) (fun p => ss = p.1 ++ p.2 ∧ twice [] ss = twice p.1 p.2) (fun p => p.2.length) ([], ss) ⟨rfl, rfl⟩ rfl (by rfl) (by repeat (first | exact trivial | refine ⟨rfl, ?_⟩)) ?_
        rintro ⟨pre, rest⟩ ⟨e1, hφ⟩
        dsimp only at e1 hφ ⊢
        have hpl : ss.length = pre.length + rest.length := by rw [e1]; simp
        cases rest with
        | nil =>
          simp only [List.length_nil] at hpl
          repeat' (first | (refine SL.isSL ?_; first | (refine SL.isN ?_; first | refine SL.nA ?_ | refine SL.alloc rfl rfl (fun b => ?_) | refine SL.box rfl rfl rfl (fun b => ?_)) | (refine SL.isG ?_; first | refine SL.gF rfl rfl rfl ?_ | refine SL.gU rfl rfl rfl ?_ | refine SL.gA ?_) | (refine SL.isSt ?_; refine SL.stA ?_) | refine SL.nil ?_ | (refine SL.isG ?_; first | refine SL.gCase rfl rfl (fun e => ?_) (fun e => ?_) | refine SL.gCaseN rfl rfl (fun e => ?_) (fun e => ?_))) | (refine St.isSt ?_; first | refine St.seq ?_ | refine St.region ?_ | refine St.block ?_ | refine St.ret ?_ | refine St.skip ?_ | refine St.exit ?_ | refine St.condT rfl ?_ | refine St.condF rfl ?_ | refine St.condY rfl (by omega) ?_ | refine St.condZ rfl (by omega) ?_) | (refine Qs.isQs ?_; first | refine Qs.then_normal ?_ | refine Qs.then_rounds ?_ | refine Qs.then_ret ?_ | refine Qs.then_exit ?_ | refine Qs.block_normal ?_ | refine Qs.block_ret ?_ | refine Qs.block_here ?_ | refine Qs.block_other rfl ?_) | refine RS.step ?_)
          refine Qs.retVe rfl rfl rfl (fin _ ?_)
          rw [hφ]; rfl
        | cons a rest =>
          simp only [List.length_cons] at hpl
          obtain ⟨kb, off, ar, te, fr, rfl, hb, hat⟩ := hr (by rw [e1]; simp)
          have k0 : ar[off + (pre.length : Int).toNat * 1]? = some (.string a) := by
            have := hat pre.length (.string a) (by rw [e1]; simp)
            simpa using this
          repeat' (first | (refine SL.isSL ?_; first | (refine SL.isN ?_; first | refine SL.nA ?_ | refine SL.alloc rfl rfl (fun b => ?_) | refine SL.box rfl rfl rfl (fun b => ?_)) | (refine SL.isG ?_; first | refine SL.gF rfl rfl rfl ?_ | refine SL.gU rfl rfl rfl ?_ | refine SL.gA ?_) | (refine SL.isSt ?_; refine SL.stA ?_) | refine SL.nil ?_ | (refine SL.isG ?_; first | refine SL.gCase rfl rfl (fun e => ?_) (fun e => ?_) | refine SL.gCaseN rfl rfl (fun e => ?_) (fun e => ?_))) | (refine St.isSt ?_; first | refine St.seq ?_ | refine St.region ?_ | refine St.block ?_ | refine St.ret ?_ | refine St.skip ?_ | refine St.exit ?_ | refine St.condT rfl ?_ | refine St.condF rfl ?_ | refine St.condY rfl (by omega) ?_ | refine St.condZ rfl (by omega) ?_) | (refine Qs.isQs ?_; first | refine Qs.then_normal ?_ | refine Qs.then_rounds ?_ | refine Qs.then_ret ?_ | refine Qs.then_exit ?_ | refine Qs.block_normal ?_ | refine Qs.block_ret ?_ | refine Qs.block_here ?_ | refine Qs.block_other rfl ?_) | refine RS.step ?_)
          refine St.loop (α := List ByteArray × List ByteArray) (fun p => [(7, .slice (some ⟨kb, off, none⟩) ss.length c), (28, .int .i64 ss.length), (29, .int .i64 pre.length), (8, .int .i64 pre.length), (9, .int .i64 p.1.length)]) (fun _ => h') (fun _ => [(b, cel [.int .i64 t.kind, .string t.s, .int .i64 t.n, K] 29)]) (fun p => pre = p.1 ++ p.2 ∧ sIn a p.1 = false) (fun p => p.2.length) ([], pre) ⟨rfl, rfl⟩ rfl (by rfl) (by repeat (first | exact trivial | refine ⟨rfl, ?_⟩)) ?_
          rintro ⟨p1, p2⟩ ⟨e2, hno⟩
          dsimp only at e2 hno ⊢
          have hpl2 : pre.length = p1.length + p2.length := by rw [e2]; simp
          cases p2 with
          | nil =>
            simp only [List.length_nil, List.append_nil] at hpl2 e2
            repeat' (first | (refine SL.isSL ?_; first | (refine SL.isN ?_; first | refine SL.nA ?_ | refine SL.alloc rfl rfl (fun b => ?_) | refine SL.box rfl rfl rfl (fun b => ?_)) | (refine SL.isG ?_; first | refine SL.gF rfl rfl rfl ?_ | refine SL.gU rfl rfl rfl ?_ | refine SL.gA ?_) | (refine SL.isSt ?_; refine SL.stA ?_) | refine SL.nil ?_ | (refine SL.isG ?_; first | refine SL.gCase rfl rfl (fun e => ?_) (fun e => ?_) | refine SL.gCaseN rfl rfl (fun e => ?_) (fun e => ?_))) | (refine St.isSt ?_; first | refine St.seq ?_ | refine St.region ?_ | refine St.block ?_ | refine St.ret ?_ | refine St.skip ?_ | refine St.exit ?_ | refine St.condT rfl ?_ | refine St.condF rfl ?_ | refine St.condY rfl (by omega) ?_ | refine St.condZ rfl (by omega) ?_) | (refine Qs.isQs ?_; first | refine Qs.then_normal ?_ | refine Qs.then_rounds ?_ | refine Qs.then_ret ?_ | refine Qs.then_exit ?_ | refine Qs.block_normal ?_ | refine Qs.block_ret ?_ | refine Qs.block_here ?_ | refine Qs.block_other rfl ?_) | refine RS.step ?_)
            refine Some_.intro (pre ++ [a], rest) ⟨⟨by rw [e1]; simp, by rw [hφ]; simp [twice, e2, hno]⟩, by dsimp only; simp⟩ (fun _ _ x => x) rfl rfl ?_
            refine ⟨rfl, rfl, lk_eq rfl ?_, trivial⟩
            simp
          | cons x p2 =>
            simp only [List.length_cons] at hpl2
            have k1 : ar[off + (p1.length : Int).toNat * 1]? = some (.string x) := by
              have := hat p1.length (.string x) (by rw [e1, e2]; simp)
              simpa using this
            repeat' (first | (refine SL.isSL ?_; first | (refine SL.isN ?_; first | refine SL.nA ?_ | refine SL.alloc rfl rfl (fun b => ?_) | refine SL.box rfl rfl rfl (fun b => ?_)) | (refine SL.isG ?_; first | refine SL.gF rfl rfl rfl ?_ | refine SL.gU rfl rfl rfl ?_ | refine SL.gA ?_) | (refine SL.isSt ?_; refine SL.stA ?_) | refine SL.nil ?_ | (refine SL.isG ?_; first | refine SL.gCase rfl rfl (fun e => ?_) (fun e => ?_) | refine SL.gCaseN rfl rfl (fun e => ?_) (fun e => ?_))) | (refine St.isSt ?_; first | refine St.seq ?_ | refine St.region ?_ | refine St.block ?_ | refine St.ret ?_ | refine St.skip ?_ | refine St.exit ?_ | refine St.condT rfl ?_ | refine St.condF rfl ?_ | refine St.condY rfl (by omega) ?_ | refine St.condZ rfl (by omega) ?_) | (refine Qs.isQs ?_; first | refine Qs.then_normal ?_ | refine Qs.then_rounds ?_ | refine Qs.then_ret ?_ | refine Qs.then_exit ?_ | refine Qs.block_normal ?_ | refine Qs.block_ret ?_ | refine Qs.block_here ?_ | refine Qs.block_other rfl ?_) | refine RS.step ?_)
            refine St.drawV' 9 [45] rfl rfl rfl rfl rfl ?_
            repeat (first | (refine TK.isTK ?_; first | (refine TK.isIdx ?_; first | (refine TK.isN ?_; first | refine TK.cons rfl rfl (Ob.n rfl (NOp.idx rfl rfl (by omega))) rfl ?_ | refine TK.consF rfl rfl rfl (NOp.idx rfl rfl (by omega)) rfl ?_) | (refine TK.isG ?_; refine TK.cons rfl rfl (Ob.gT rfl rfl rfl (NOp.idx rfl rfl (by omega))) rfl ?_)) | (refine TK.isLd ?_; first | (refine TK.isN ?_; first | refine TK.cons rfl rfl (Ob.n rfl (NOp.ldH rfl hb k0)) rfl ?_ | refine TK.consF rfl rfl rfl (NOp.ldH rfl hb k0) rfl ?_) | (refine TK.isG ?_; refine TK.cons rfl rfl (Ob.gT rfl rfl rfl (NOp.ldH rfl hb k0)) rfl ?_)) | (refine TK.isLd ?_; first | (refine TK.isN ?_; first | refine TK.cons rfl rfl (Ob.n rfl (NOp.ldH rfl hb k1)) rfl ?_ | refine TK.consF rfl rfl rfl (NOp.ldH rfl hb k1) rfl ?_) | (refine TK.isG ?_; refine TK.cons rfl rfl (Ob.gT rfl rfl rfl (NOp.ldH rfl hb k1)) rfl ?_)) | (refine TK.isHead rfl ?_; first | (refine TK.isN ?_; first | refine TK.nA ?_ | refine TK.litA ?_) | (refine TK.isG ?_; first | refine TK.cons rfl rfl (Ob.gF rfl rfl rfl) rfl ?_ | refine TK.cons rfl rfl (Ob.gU rfl rfl rfl) rfl ?_ | refine TK.gA ?_)) | (refine TK.isTail rfl ?_; first | refine TK.consS rfl rfl ?_ | refine TK.fA ?_) | refine TK.nilV rfl rfl ?_) | (refine SQ.isSQ ?_; first | refine SQ.nil ?_ | refine SQ.stA ?_))
            repeat' (first | (refine SL.isSL ?_; first | (refine SL.isN ?_; first | refine SL.nA ?_ | refine SL.alloc rfl rfl (fun b => ?_) | refine SL.box rfl rfl rfl (fun b => ?_)) | (refine SL.isG ?_; first | refine SL.gF rfl rfl rfl ?_ | refine SL.gU rfl rfl rfl ?_ | refine SL.gA ?_) | (refine SL.isSt ?_; refine SL.stA ?_) | refine SL.nil ?_ | (refine SL.isG ?_; first | refine SL.gCase rfl rfl (fun e => ?_) (fun e => ?_) | refine SL.gCaseN rfl rfl (fun e => ?_) (fun e => ?_))) | (refine St.isSt ?_; first | refine St.seq ?_ | refine St.region ?_ | refine St.block ?_ | refine St.ret ?_ | refine St.skip ?_ | refine St.exit ?_ | refine St.condT rfl ?_ | refine St.condF rfl ?_ | refine St.condY rfl (by omega) ?_ | refine St.condZ rfl (by omega) ?_) | (refine Qs.isQs ?_; first | refine Qs.then_normal ?_ | refine Qs.then_rounds ?_ | refine Qs.then_ret ?_ | refine Qs.then_exit ?_ | refine Qs.block_normal ?_ | refine Qs.block_ret ?_ | refine Qs.block_here ?_ | refine Qs.block_other rfl ?_) | refine RS.step ?_)
            refine St.condD rfl (fun e => ?_) (fun e => ?_)
            · repeat' (first | (refine SL.isSL ?_; first | (refine SL.isN ?_; first | refine SL.nA ?_ | refine SL.alloc rfl rfl (fun b => ?_) | refine SL.box rfl rfl rfl (fun b => ?_)) | (refine SL.isG ?_; first | refine SL.gF rfl rfl rfl ?_ | refine SL.gU rfl rfl rfl ?_ | refine SL.gA ?_) | (refine SL.isSt ?_; refine SL.stA ?_) | refine SL.nil ?_ | (refine SL.isG ?_; first | refine SL.gCase rfl rfl (fun e => ?_) (fun e => ?_) | refine SL.gCaseN rfl rfl (fun e => ?_) (fun e => ?_))) | (refine St.isSt ?_; first | refine St.seq ?_ | refine St.region ?_ | refine St.block ?_ | refine St.ret ?_ | refine St.skip ?_ | refine St.exit ?_ | refine St.condT rfl ?_ | refine St.condF rfl ?_ | refine St.condY rfl (by omega) ?_ | refine St.condZ rfl (by omega) ?_) | (refine Qs.isQs ?_; first | refine Qs.then_normal ?_ | refine Qs.then_rounds ?_ | refine Qs.then_ret ?_ | refine Qs.then_exit ?_ | refine Qs.block_normal ?_ | refine Qs.block_ret ?_ | refine Qs.block_here ?_ | refine Qs.block_other rfl ?_) | refine RS.step ?_)
              refine Qs.retVe rfl rfl rfl (fin _ ?_)
              rw [hφ]
              have : sIn a pre = true := by rw [e2]; simp [sIn, ← e]
              simp [twice, this]
            · repeat' (first | (refine SL.isSL ?_; first | (refine SL.isN ?_; first | refine SL.nA ?_ | refine SL.alloc rfl rfl (fun b => ?_) | refine SL.box rfl rfl rfl (fun b => ?_)) | (refine SL.isG ?_; first | refine SL.gF rfl rfl rfl ?_ | refine SL.gU rfl rfl rfl ?_ | refine SL.gA ?_) | (refine SL.isSt ?_; refine SL.stA ?_) | refine SL.nil ?_ | (refine SL.isG ?_; first | refine SL.gCase rfl rfl (fun e => ?_) (fun e => ?_) | refine SL.gCaseN rfl rfl (fun e => ?_) (fun e => ?_))) | (refine St.isSt ?_; first | refine St.seq ?_ | refine St.region ?_ | refine St.block ?_ | refine St.ret ?_ | refine St.skip ?_ | refine St.exit ?_ | refine St.condT rfl ?_ | refine St.condF rfl ?_ | refine St.condY rfl (by omega) ?_ | refine St.condZ rfl (by omega) ?_) | (refine Qs.isQs ?_; first | refine Qs.then_normal ?_ | refine Qs.then_rounds ?_ | refine Qs.then_ret ?_ | refine Qs.then_exit ?_ | refine Qs.block_normal ?_ | refine Qs.block_ret ?_ | refine Qs.block_here ?_ | refine Qs.block_other rfl ?_) | refine RS.step ?_)
              refine Some_.intro (p1 ++ [x], p2) ⟨⟨by rw [e2]; simp, ?_⟩, by dsimp only; simp⟩ (fun _ _ x => x) rfl rfl ?_
              · refine ⟨rfl, rfl, rfl, rfl, lk_eq rfl ?_, trivial⟩
                simp
              · unfold sIn at hno ⊢
                rw [List.any_append, hno]
                simpa using e
theorem rcheck_form {t : Tr} {u : Bool} (h : rcheck t u = 0) : rform t u = true := by
  unfold rcheck at h
  cases e : rform t u
  · simp [e] at h
  · rfl
theorem rkd_node {k : Int} {s : ByteArray} {n : Int} (h : rkd k s n = true) : nodeP k n := by
  unfold rkd at h
  unfold nodeP i64Q
  split at h
  · omega
  · split at h
    · omega
    · split at h
      · simp at h; omega
      · split at h
        · unfold validP at h; simp at h; omega
        · cases h
theorem rform_ok (t : Tr) : ∀ u, rform t u = true → rokT t := by
  induction t with
  | t0 k s n => intro u h; simp only [rform, rnode, Bool.and_eq_true] at h; exact rkd_node h.1
  | t1 k s n a i1 => intro u h; simp only [rform, rnode, Bool.and_eq_true] at h; exact ⟨rkd_node h.1.1, i1 _ h.2⟩
  | t2 k s n a b i1 i2 => intro u h; simp only [rform, rnode, Bool.and_eq_true] at h; exact ⟨rkd_node h.1.1, i1 _ h.2.1, i2 _ h.2.2⟩
  | t3 k s n a b c i1 i2 i3 => intro u h; simp only [rform, rnode, Bool.and_eq_true] at h; exact ⟨rkd_node h.1.1, i1 _ h.2.1, i2 _ h.2.2.1, i3 _ h.2.2.2⟩
theorem RWrite_v (t : Tr) (u : Bool) (hc : rcnt t ≤ 1000000) (hz : rtsz t ≤ 1000000) (h : GH) (K : Value) (hK : TK_ h t K) : FnV Tryd.prog h 7 [TrV t K, .bool u].toArray (.tuple #[.string (rwrite t u).1, .int .i64 (rwrite t u).2]) := by
  have hk := RCheck_v t u hc hz h K hK
  simp only [TrV, fl] at hk ⊢
  refine FnV.enter Tryd.func7 rfl rfl rfl rfl fun w hg => ?_
  repeat' (first | (refine SL.isSL ?_; first | (refine SL.isCallF 22 ?_; first | (refine SL.isN ?_; refine SL.callV rfl (hk) rfl ?_) | (refine SL.isG ?_; refine SL.callVT rfl rfl rfl (hk) rfl ?_)) | (refine SL.isN ?_; first | refine SL.nA ?_ | refine SL.alloc rfl rfl (fun b => ?_) | refine SL.box rfl rfl rfl (fun b => ?_)) | (refine SL.isG ?_; first | refine SL.gF rfl rfl rfl ?_ | refine SL.gU rfl rfl rfl ?_ | refine SL.gA ?_) | (refine SL.isSt ?_; refine SL.stA ?_) | refine SL.nil ?_ | (refine SL.isG ?_; first | refine SL.gCase rfl rfl (fun e => ?_) (fun e => ?_) | refine SL.gCaseN rfl rfl (fun e => ?_) (fun e => ?_))) | (refine St.isSt ?_; first | refine St.seq ?_ | refine St.region ?_ | refine St.block ?_ | refine St.ret ?_ | refine St.skip ?_ | refine St.exit ?_ | refine St.condT rfl ?_ | refine St.condF rfl ?_ | refine St.condY rfl (by omega) ?_ | refine St.condZ rfl (by omega) ?_) | (refine Qs.isQs ?_; first | refine Qs.then_normal ?_ | refine Qs.then_rounds ?_ | refine Qs.then_ret ?_ | refine Qs.then_exit ?_ | refine Qs.block_normal ?_ | refine Qs.block_ret ?_ | refine Qs.block_here ?_ | refine Qs.block_other rfl ?_) | refine RS.step ?_)
  refine St.condN rfl (fun e => ?_) (fun e => ?_)
  · repeat' (first | (refine SL.isSL ?_; first | (refine SL.isN ?_; first | refine SL.nA ?_ | refine SL.alloc rfl rfl (fun b => ?_) | refine SL.box rfl rfl rfl (fun b => ?_)) | (refine SL.isG ?_; first | refine SL.gF rfl rfl rfl ?_ | refine SL.gU rfl rfl rfl ?_ | refine SL.gA ?_) | (refine SL.isSt ?_; refine SL.stA ?_) | refine SL.nil ?_ | (refine SL.isG ?_; first | refine SL.gCase rfl rfl (fun e => ?_) (fun e => ?_) | refine SL.gCaseN rfl rfl (fun e => ?_) (fun e => ?_))) | (refine St.isSt ?_; first | refine St.seq ?_ | refine St.region ?_ | refine St.block ?_ | refine St.ret ?_ | refine St.skip ?_ | refine St.exit ?_ | refine St.condT rfl ?_ | refine St.condF rfl ?_ | refine St.condY rfl (by omega) ?_ | refine St.condZ rfl (by omega) ?_) | (refine Qs.isQs ?_; first | refine Qs.then_normal ?_ | refine Qs.then_rounds ?_ | refine Qs.then_ret ?_ | refine Qs.then_exit ?_ | refine Qs.block_normal ?_ | refine Qs.block_ret ?_ | refine Qs.block_here ?_ | refine Qs.block_other rfl ?_) | refine RS.step ?_)
    refine Qs.retV2 rfl rfl (lk_eq rfl ?_) (lk_eq rfl ?_)
    · simp only [rwrite, e, if_false]; rfl
    · simp only [rwrite, e, if_false]
  · have e0 := e
    have ht := RText_v _ t (Nat.le_refl _) (rform_ok t u (rcheck_form e)) (by omega) h K hK
    simp only [TrV, fl] at ht
    repeat' (first | (refine SL.isSL ?_; first | (refine SL.isCallF 23 ?_; first | (refine SL.isN ?_; refine SL.callV rfl (ht) rfl ?_) | (refine SL.isG ?_; refine SL.callVT rfl rfl rfl (ht) rfl ?_)) | (refine SL.isN ?_; first | refine SL.nA ?_ | refine SL.alloc rfl rfl (fun b => ?_) | refine SL.box rfl rfl rfl (fun b => ?_)) | (refine SL.isG ?_; first | refine SL.gF rfl rfl rfl ?_ | refine SL.gU rfl rfl rfl ?_ | refine SL.gA ?_) | (refine SL.isSt ?_; refine SL.stA ?_) | refine SL.nil ?_ | (refine SL.isG ?_; first | refine SL.gCase rfl rfl (fun e => ?_) (fun e => ?_) | refine SL.gCaseN rfl rfl (fun e => ?_) (fun e => ?_))) | (refine St.isSt ?_; first | refine St.seq ?_ | refine St.region ?_ | refine St.block ?_ | refine St.ret ?_ | refine St.skip ?_ | refine St.exit ?_ | refine St.condT rfl ?_ | refine St.condF rfl ?_ | refine St.condY rfl (by omega) ?_ | refine St.condZ rfl (by omega) ?_) | (refine Qs.isQs ?_; first | refine Qs.then_normal ?_ | refine Qs.then_rounds ?_ | refine Qs.then_ret ?_ | refine Qs.then_exit ?_ | refine Qs.block_normal ?_ | refine Qs.block_ret ?_ | refine Qs.block_here ?_ | refine Qs.block_other rfl ?_) | refine RS.step ?_)
    refine St.condD rfl (fun e => ?_) (fun e => ?_)
    · repeat' (first | (refine SL.isSL ?_; first | (refine SL.isN ?_; first | refine SL.nA ?_ | refine SL.alloc rfl rfl (fun b => ?_) | refine SL.box rfl rfl rfl (fun b => ?_)) | (refine SL.isG ?_; first | refine SL.gF rfl rfl rfl ?_ | refine SL.gU rfl rfl rfl ?_ | refine SL.gA ?_) | (refine SL.isSt ?_; refine SL.stA ?_) | refine SL.nil ?_ | (refine SL.isG ?_; first | refine SL.gCase rfl rfl (fun e => ?_) (fun e => ?_) | refine SL.gCaseN rfl rfl (fun e => ?_) (fun e => ?_))) | (refine St.isSt ?_; first | refine St.seq ?_ | refine St.region ?_ | refine St.block ?_ | refine St.ret ?_ | refine St.skip ?_ | refine St.exit ?_ | refine St.condT rfl ?_ | refine St.condF rfl ?_ | refine St.condY rfl (by omega) ?_ | refine St.condZ rfl (by omega) ?_) | (refine Qs.isQs ?_; first | refine Qs.then_normal ?_ | refine Qs.then_rounds ?_ | refine Qs.then_ret ?_ | refine Qs.then_exit ?_ | refine Qs.block_normal ?_ | refine Qs.block_ret ?_ | refine Qs.block_here ?_ | refine Qs.block_other rfl ?_) | refine RS.step ?_)
      refine Qs.retV2 rfl rfl (lk_eq rfl ?_) (lk_eq rfl ?_)
      · simp only [rwrite, e0, e, if_true]; rfl
      · simp only [rwrite, e0, e, if_true]
    · repeat' (first | (refine SL.isSL ?_; first | (refine SL.isN ?_; first | refine SL.nA ?_ | refine SL.alloc rfl rfl (fun b => ?_) | refine SL.box rfl rfl rfl (fun b => ?_)) | (refine SL.isG ?_; first | refine SL.gF rfl rfl rfl ?_ | refine SL.gU rfl rfl rfl ?_ | refine SL.gA ?_) | (refine SL.isSt ?_; refine SL.stA ?_) | refine SL.nil ?_ | (refine SL.isG ?_; first | refine SL.gCase rfl rfl (fun e => ?_) (fun e => ?_) | refine SL.gCaseN rfl rfl (fun e => ?_) (fun e => ?_))) | (refine St.isSt ?_; first | refine St.seq ?_ | refine St.region ?_ | refine St.block ?_ | refine St.ret ?_ | refine St.skip ?_ | refine St.exit ?_ | refine St.condT rfl ?_ | refine St.condF rfl ?_ | refine St.condY rfl (by omega) ?_ | refine St.condZ rfl (by omega) ?_) | (refine Qs.isQs ?_; first | refine Qs.then_normal ?_ | refine Qs.then_rounds ?_ | refine Qs.then_ret ?_ | refine Qs.then_exit ?_ | refine Qs.block_normal ?_ | refine Qs.block_ret ?_ | refine Qs.block_here ?_ | refine Qs.block_other rfl ?_) | refine RS.step ?_)
      refine Qs.retV2 rfl rfl (lk_eq rfl ?_) (lk_eq rfl ?_)
      · simp only [rwrite, e0, e, if_true, if_false]
      · simp only [rwrite, e0, e, if_true, if_false]
end Go.Proofs.YtfookachkcgdpaaDoor
