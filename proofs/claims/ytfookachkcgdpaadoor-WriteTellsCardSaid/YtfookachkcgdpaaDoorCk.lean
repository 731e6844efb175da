/- May a contract be? Plain theorems; no condition. -/
import Derived.Test.YtfookachkcgdpaaDoorLc
set_option linter.unusedVariables false
set_option linter.unusedSimpArgs false
set_option maxRecDepth 100000
set_option maxHeartbeats 4000000
namespace Go.Proofs.YtfookachkcgdpaaDoor
open Go.RowKit
theorem NOp.sliceLH {P : Program} {h : GH} {M : Blks} {l : Fr} {d : Option Nat} {ty : TypeId} {pos : String} {aft : Array Edge} {g : Option (Nat × Bool)} {t e : TypeId} {x hi : Operand} {A : Option Addr} {n c : Nat} {k2 : IntKind} {b : Int} {de : TypeDesc} {s1 sz : Nat} {z1 z2 : Value} {a1 a2 : Bool} [TI P t (.slice e) s1 z1 a1] [TI P e de sz z2 a2] (hx : lko l x = some (.slice A n c)) (hhi : lko l hi = some (.int k2 b)) (h1 : 0 ≤ b) (h3 : b ≤ c) :
    NOp P h M l ⟨d, .slice t x none (some hi) none, ty, pos, aft, g⟩ (.slice A b.toNat c) := NOp.slH hx hhi fun w => by
  have hA : (if c = 0 then A else A.map (·.add 0)) = A := by
    split
    · rfl
    · cases A <;> simp [Addr.add]
  simp [Instr.sliceAt, Instr.slice, Instr.sliceBounds, Instr.sliceBound, asIntOf, run_underlying (TI.und (P := P) (t := t)), TI.size (P := P) (t := e), h1, h3, Nat.zero_mul, hA]
theorem Rd.pre {h : GH} {A : Option Addr} {xs ys : List Value} (k : Rd h A (xs ++ ys)) : Rd h A xs := fun hn => by
  obtain ⟨b, off, ar, e, fr, h1, h2, h3⟩ := k (by simp [hn])
  refine ⟨b, off, ar, e, fr, h1, h2, fun j v hj => h3 j v ?_⟩
  rw [List.getElem?_append_left (by have := List.getElem?_eq_some_iff.1 hj; exact this.1)]
  exact hj
attribute [local irreducible] St SL Qs NOp TK SQ RS Fn FnV FnP

/-- Does a text stand twice in a list, of which some are gone over? -/
def twice (pre : List ByteArray) : List ByteArray → Bool
  | [] => false
  | s :: l => sIn s pre || twice (pre ++ [s]) l
noncomputable def tcheck (t : Tm) : Int := if tform t = false then 2 else if 60 < (tsize t).1 ∨ 12 < (tsize t).2 then 5 else if twice [] (labels t) then 4 else 0
theorem Check_v (t : Tm) (ht : cnt t ≤ 1000000) (h : GH) : FnV Tryd.prog h 19 [enc t].toArray (.int .i64 (tcheck t)) := by
  have hf := TForm_v _ t ht (Nat.le_refl _) h
  have hlc := labels_cnt t
  refine FnV.enter Tryd.func19 rfl rfl rfl rfl fun w hg => ?_
  cases h1 : tform t <;> rw [h1] at hf
  · repeat' (first | refine SL.callV rfl hf rfl ?_ | (refine SL.isSL ?_; first | (refine SL.isN ?_; first | refine SL.nA ?_ | refine SL.alloc rfl rfl (fun b => ?_) | refine SL.box rfl rfl rfl (fun b => ?_)) | (refine SL.isG ?_; first | refine SL.gF rfl rfl rfl ?_ | refine SL.gU rfl rfl rfl ?_ | refine SL.gA ?_) | (refine SL.isSt ?_; refine SL.stA ?_) | refine SL.nil ?_ | (refine SL.isG ?_; first | refine SL.gCase rfl rfl (fun e => ?_) (fun e => ?_) | refine SL.gCaseN rfl rfl (fun e => ?_) (fun e => ?_))) | (refine St.isSt ?_; first | refine St.seq ?_ | refine St.region ?_ | refine St.block ?_ | refine St.ret ?_ | refine St.skip ?_ | refine St.exit ?_ | refine St.condT rfl ?_ | refine St.condF rfl ?_ | refine St.condY rfl (by omega) ?_ | refine St.condZ rfl (by omega) ?_) | (refine Qs.isQs ?_; first | refine Qs.then_normal ?_ | refine Qs.then_rounds ?_ | refine Qs.then_ret ?_ | refine Qs.then_exit ?_ | refine Qs.block_normal ?_ | refine Qs.block_ret ?_ | refine Qs.block_here ?_ | refine Qs.block_other rfl ?_) | refine RS.step ?_)
    refine Qs.retVe rfl rfl rfl ?_
    simp [tcheck, h1]
  · repeat' (first | refine SL.callV rfl hf rfl ?_ | refine SL.callV rfl (Size_v t ht _) rfl ?_ | (refine SL.isSL ?_; first | (refine SL.isN ?_; first | refine SL.nA ?_ | refine SL.alloc rfl rfl (fun b => ?_) | refine SL.box rfl rfl rfl (fun b => ?_)) | (refine SL.isG ?_; first | refine SL.gF rfl rfl rfl ?_ | refine SL.gU rfl rfl rfl ?_ | refine SL.gA ?_) | (refine SL.isSt ?_; refine SL.stA ?_) | refine SL.nil ?_ | (refine SL.isG ?_; first | refine SL.gCase rfl rfl (fun e => ?_) (fun e => ?_) | refine SL.gCaseN rfl rfl (fun e => ?_) (fun e => ?_))) | (refine St.isSt ?_; first | refine St.seq ?_ | refine St.region ?_ | refine St.block ?_ | refine St.ret ?_ | refine St.skip ?_ | refine St.exit ?_ | refine St.condT rfl ?_ | refine St.condF rfl ?_ | refine St.condY rfl (by omega) ?_ | refine St.condZ rfl (by omega) ?_) | (refine Qs.isQs ?_; first | refine Qs.then_normal ?_ | refine Qs.then_rounds ?_ | refine Qs.then_ret ?_ | refine Qs.then_exit ?_ | refine Qs.block_normal ?_ | refine Qs.block_ret ?_ | refine Qs.block_here ?_ | refine Qs.block_other rfl ?_) | refine RS.step ?_)
    · refine Qs.retVe rfl rfl rfl ?_
      simp [tcheck, h1, e]
    · have e0 := e
      refine St.condD rfl (fun e => ?_) (fun e => ?_)
      · repeat' (first | (refine SL.isSL ?_; first | (refine SL.isN ?_; first | refine SL.nA ?_ | refine SL.alloc rfl rfl (fun b => ?_) | refine SL.box rfl rfl rfl (fun b => ?_)) | (refine SL.isG ?_; first | refine SL.gF rfl rfl rfl ?_ | refine SL.gU rfl rfl rfl ?_ | refine SL.gA ?_) | (refine SL.isSt ?_; refine SL.stA ?_) | refine SL.nil ?_ | (refine SL.isG ?_; first | refine SL.gCase rfl rfl (fun e => ?_) (fun e => ?_) | refine SL.gCaseN rfl rfl (fun e => ?_) (fun e => ?_))) | (refine St.isSt ?_; first | refine St.seq ?_ | refine St.region ?_ | refine St.block ?_ | refine St.ret ?_ | refine St.skip ?_ | refine St.exit ?_ | refine St.condT rfl ?_ | refine St.condF rfl ?_ | refine St.condY rfl (by omega) ?_ | refine St.condZ rfl (by omega) ?_) | (refine Qs.isQs ?_; first | refine Qs.then_normal ?_ | refine Qs.then_rounds ?_ | refine Qs.then_ret ?_ | refine Qs.then_exit ?_ | refine Qs.block_normal ?_ | refine Qs.block_ret ?_ | refine Qs.block_here ?_ | refine Qs.block_other rfl ?_) | refine RS.step ?_)
        refine Qs.retVe rfl rfl rfl ?_
        simp [tcheck, h1, e]
      · repeat' (first | (refine SL.isSL ?_; first | (refine SL.isN ?_; first | refine SL.nA ?_ | refine SL.alloc rfl rfl (fun b => ?_) | refine SL.box rfl rfl rfl (fun b => ?_)) | (refine SL.isG ?_; first | refine SL.gF rfl rfl rfl ?_ | refine SL.gU rfl rfl rfl ?_ | refine SL.gA ?_) | (refine SL.isSt ?_; refine SL.stA ?_) | refine SL.nil ?_ | (refine SL.isG ?_; first | refine SL.gCase rfl rfl (fun e => ?_) (fun e => ?_) | refine SL.gCaseN rfl rfl (fun e => ?_) (fun e => ?_))) | (refine St.isSt ?_; first | refine St.seq ?_ | refine St.region ?_ | refine St.block ?_ | refine St.ret ?_ | refine St.skip ?_ | refine St.exit ?_ | refine St.condT rfl ?_ | refine St.condF rfl ?_ | refine St.condY rfl (by omega) ?_ | refine St.condZ rfl (by omega) ?_) | (refine Qs.isQs ?_; first | refine Qs.then_normal ?_ | refine Qs.then_rounds ?_ | refine Qs.then_ret ?_ | refine Qs.then_exit ?_ | refine Qs.block_normal ?_ | refine Qs.block_ret ?_ | refine Qs.block_here ?_ | refine Qs.block_other rfl ?_) | refine RS.step ?_)
        refine SL.callP rfl (Labels t ht _) rfl (fun v h' hle hv => ?_)
        obtain ⟨A, c, rfl, hc, hr⟩ := hv
        have fin : ∀ x, (if twice [] (labels t) then (4 : Int) else 0) = x → Value.int .i64 x = Value.int .i64 (tcheck t) := fun x hx => by
          rw [← hx]; simp [tcheck, h1, e, e0]
        generalize hn : (labels t).length = n at hlc hc ⊢
        generalize labels t = ss at hn hr fin ⊢
        repeat' (first | (refine SL.isSL ?_; first | (refine SL.isN ?_; first | refine SL.nA ?_ | refine SL.alloc rfl rfl (fun b => ?_) | refine SL.box rfl rfl rfl (fun b => ?_)) | (refine SL.isG ?_; first | refine SL.gF rfl rfl rfl ?_ | refine SL.gU rfl rfl rfl ?_ | refine SL.gA ?_) | (refine SL.isSt ?_; refine SL.stA ?_) | refine SL.nil ?_ | (refine SL.isG ?_; first | refine SL.gCase rfl rfl (fun e => ?_) (fun e => ?_) | refine SL.gCaseN rfl rfl (fun e => ?_) (fun e => ?_))) | (refine St.isSt ?_; first | refine St.seq ?_ | refine St.region ?_ | refine St.block ?_ | refine St.ret ?_ | refine St.skip ?_ | refine St.exit ?_ | refine St.condT rfl ?_ | refine St.condF rfl ?_ | refine St.condY rfl (by omega) ?_ | refine St.condZ rfl (by omega) ?_) | (refine Qs.isQs ?_; first | refine Qs.then_normal ?_ | refine Qs.then_rounds ?_ | refine Qs.then_ret ?_ | refine Qs.then_exit ?_ | refine Qs.block_normal ?_ | refine Qs.block_ret ?_ | refine Qs.block_here ?_ | refine Qs.block_other rfl ?_) | refine RS.step ?_)
        refine St.loop (α := List ByteArray × List ByteArray) (fun p => [(5, .slice A n c), (24, .slice A n c), (25, .int .i64 n), (26, .int .i64 p.1.length)]) (fun _ => h') (fun _ => []) (fun p => ss = p.1 ++ p.2 ∧ twice [] ss = twice p.1 p.2) (fun p => p.2.length) ([], ss) ⟨rfl, rfl⟩ rfl (by rfl) (by repeat (first | exact trivial | refine ⟨rfl, ?_⟩)) ?_
        rintro ⟨pre, rest⟩ ⟨e, hφ⟩
        dsimp only at e hφ ⊢
        cases rest with
        | nil =>
          have hl : n = pre.length := by rw [← hn, e]; simp
          repeat' (first | (refine SL.isSL ?_; first | (refine SL.isN ?_; first | refine SL.nA ?_ | refine SL.alloc rfl rfl (fun b => ?_) | refine SL.box rfl rfl rfl (fun b => ?_)) | (refine SL.isG ?_; first | refine SL.gF rfl rfl rfl ?_ | refine SL.gU rfl rfl rfl ?_ | refine SL.gA ?_) | (refine SL.isSt ?_; refine SL.stA ?_) | refine SL.nil ?_ | (refine SL.isG ?_; first | refine SL.gCase rfl rfl (fun e => ?_) (fun e => ?_) | refine SL.gCaseN rfl rfl (fun e => ?_) (fun e => ?_))) | (refine St.isSt ?_; first | refine St.seq ?_ | refine St.region ?_ | refine St.block ?_ | refine St.ret ?_ | refine St.skip ?_ | refine St.exit ?_ | refine St.condT rfl ?_ | refine St.condF rfl ?_ | refine St.condY rfl (by omega) ?_ | refine St.condZ rfl (by omega) ?_) | (refine Qs.isQs ?_; first | refine Qs.then_normal ?_ | refine Qs.then_rounds ?_ | refine Qs.then_ret ?_ | refine Qs.then_exit ?_ | refine Qs.block_normal ?_ | refine Qs.block_ret ?_ | refine Qs.block_here ?_ | refine Qs.block_other rfl ?_) | refine RS.step ?_)
          refine Qs.retVe rfl rfl rfl (fin _ ?_)
          rw [hφ]; rfl
        | cons a rest =>
          have hl : n = pre.length + 1 + rest.length := by rw [← hn, e]; simp; omega
          obtain ⟨kb, off, ar, te, fr, rfl, hb, hat⟩ := hr (by rw [e]; simp)
          have k0 : ar[off + (pre.length : Int).toNat * 1]? = some (.string a) := by
            have := hat pre.length (.string a) (by rw [e]; simp)
            simpa using this
          have hsub : Sl h' (.slice (some ⟨kb, off, none⟩) (pre.length : Int).toNat c) pre.length (pre.map Value.string) := ⟨some ⟨kb, off, none⟩, c, by simp, by omega, by rw [e, List.map_append] at hr; exact hr.pre⟩
          have hcv := fun s => SContains_v h' _ pre.length pre s hsub rfl (by omega)
          repeat' (first | refine SL.n (NOp.idx rfl rfl (by simp; omega)) rfl ?_ | refine SL.n (NOp.ldH rfl hb k0) rfl ?_ | refine SL.n (NOp.sliceLH rfl rfl (by omega) (by omega)) rfl ?_ | refine SL.callV rfl (hcv _) rfl ?_ | (refine SL.isSL ?_; first | (refine SL.isN ?_; first | refine SL.nA ?_ | refine SL.alloc rfl rfl (fun b => ?_) | refine SL.box rfl rfl rfl (fun b => ?_)) | (refine SL.isG ?_; first | refine SL.gF rfl rfl rfl ?_ | refine SL.gU rfl rfl rfl ?_ | refine SL.gA ?_) | (refine SL.isSt ?_; refine SL.stA ?_) | refine SL.nil ?_ | (refine SL.isG ?_; first | refine SL.gCase rfl rfl (fun e => ?_) (fun e => ?_) | refine SL.gCaseN rfl rfl (fun e => ?_) (fun e => ?_))) | (refine St.isSt ?_; first | refine St.seq ?_ | refine St.region ?_ | refine St.block ?_ | refine St.ret ?_ | refine St.skip ?_ | refine St.exit ?_ | refine St.condT rfl ?_ | refine St.condF rfl ?_ | refine St.condY rfl (by omega) ?_ | refine St.condZ rfl (by omega) ?_) | (refine Qs.isQs ?_; first | refine Qs.then_normal ?_ | refine Qs.then_rounds ?_ | refine Qs.then_ret ?_ | refine Qs.then_exit ?_ | refine Qs.block_normal ?_ | refine Qs.block_ret ?_ | refine Qs.block_here ?_ | refine Qs.block_other rfl ?_) | refine RS.step ?_)
          refine St.condB rfl (fun e9 => ?_) (fun e9 => ?_)
          · repeat' (first | (refine SL.isSL ?_; first | (refine SL.isN ?_; first | refine SL.nA ?_ | refine SL.alloc rfl rfl (fun b => ?_) | refine SL.box rfl rfl rfl (fun b => ?_)) | (refine SL.isG ?_; first | refine SL.gF rfl rfl rfl ?_ | refine SL.gU rfl rfl rfl ?_ | refine SL.gA ?_) | (refine SL.isSt ?_; refine SL.stA ?_) | refine SL.nil ?_ | (refine SL.isG ?_; first | refine SL.gCase rfl rfl (fun e => ?_) (fun e => ?_) | refine SL.gCaseN rfl rfl (fun e => ?_) (fun e => ?_))) | (refine St.isSt ?_; first | refine St.seq ?_ | refine St.region ?_ | refine St.block ?_ | refine St.ret ?_ | refine St.skip ?_ | refine St.exit ?_ | refine St.condT rfl ?_ | refine St.condF rfl ?_ | refine St.condY rfl (by omega) ?_ | refine St.condZ rfl (by omega) ?_) | (refine Qs.isQs ?_; first | refine Qs.then_normal ?_ | refine Qs.then_rounds ?_ | refine Qs.then_ret ?_ | refine Qs.then_exit ?_ | refine Qs.block_normal ?_ | refine Qs.block_ret ?_ | refine Qs.block_here ?_ | refine Qs.block_other rfl ?_) | refine RS.step ?_)
            refine Qs.retVe rfl rfl rfl (fin _ ?_)
            rw [hφ]; simp [twice, e9]
          · repeat' (first | (refine SL.isSL ?_; first | (refine SL.isN ?_; first | refine SL.nA ?_ | refine SL.alloc rfl rfl (fun b => ?_) | refine SL.box rfl rfl rfl (fun b => ?_)) | (refine SL.isG ?_; first | refine SL.gF rfl rfl rfl ?_ | refine SL.gU rfl rfl rfl ?_ | refine SL.gA ?_) | (refine SL.isSt ?_; refine SL.stA ?_) | refine SL.nil ?_ | (refine SL.isG ?_; first | refine SL.gCase rfl rfl (fun e => ?_) (fun e => ?_) | refine SL.gCaseN rfl rfl (fun e => ?_) (fun e => ?_))) | (refine St.isSt ?_; first | refine St.seq ?_ | refine St.region ?_ | refine St.block ?_ | refine St.ret ?_ | refine St.skip ?_ | refine St.exit ?_ | refine St.condT rfl ?_ | refine St.condF rfl ?_ | refine St.condY rfl (by omega) ?_ | refine St.condZ rfl (by omega) ?_) | (refine Qs.isQs ?_; first | refine Qs.then_normal ?_ | refine Qs.then_rounds ?_ | refine Qs.then_ret ?_ | refine Qs.then_exit ?_ | refine Qs.block_normal ?_ | refine Qs.block_ret ?_ | refine Qs.block_here ?_ | refine Qs.block_other rfl ?_) | refine RS.step ?_)
            refine Some_.intro (pre ++ [a], rest) ⟨⟨by rw [e]; simp, by rw [hφ]; simp [twice, e9]⟩, by dsimp only; simp⟩ (fun _ _ x => x) rfl rfl ?_
            refine ⟨rfl, rfl, rfl, lk_eq rfl ?_, trivial⟩
            simp
end Go.Proofs.YtfookachkcgdpaaDoor
