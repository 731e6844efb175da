/- The maker's numbers and words. Plain theorems; no condition. -/
import Derived.Test.YtfookachkcgdpaaDoorM5
import Derived.Test.YtfookachkcgdpaaDoorMk
set_option linter.unusedVariables false
set_option linter.unusedSimpArgs false
set_option maxRecDepth 100000
set_option maxHeartbeats 8000000
namespace Go.Proofs.YtfookachkcgdpaaDoor
open Go.RowKit
attribute [local irreducible] St SL Qs NOp TK SQ RS Fn FnV FnP

/-- What a plan is: its numbers, its words. -/
structure PlanAt (h : GH) (A : Option Addr) (c : Nat) (wv : Value) (ns : List Int) (ws : List ByteArray) : Prop where
  nums : Rd h A (ns.map (Value.int .i64))
  len : ns.length < 9223372036854775808
  words : Sl h wv ws.length (ws.map Value.string)
  wlen : ws.length < 9223372036854775808
theorem PlanAt.le {h h' : GH} {A : Option Addr} {c : Nat} {wv : Value} {ns : List Int} {ws : List ByteArray} (p : PlanAt h A c wv ns ws) (hle : GH.le h h') : PlanAt h' A c wv ns ws := ⟨p.nums.le hle, p.len, p.words.le hle, p.wlen⟩
theorem mk_nR {h : GH} {b : Nat} {A : Option Addr} {c : Nat} {wv : Value} {ns : List Int} {ws : List ByteArray} (pl : PlanAt h A c wv ns ws) (i : Nat) (left label of : Int) (hof : 1 ≤ of) (hof2 : of ≤ 1000000) (hi : i < 1000000000) :
    Fn Tryd.prog h [(b, mkO (.slice A ns.length c) wv i left label)] 43 [Value.pointer (some ⟨b, 0, none⟩), .int .i64 of].toArray
      fun v h' M' => ∃ o', M' = [(b, o')] ∧ ((∃ x, v = .int .i64 x ∧ 0 ≤ x ∧ x < of) ∧ h' = h ∧ o' = mkO (.slice A ns.length c) wv (i + 1) left label) :=
  (mk_n h b A c wv ns i left label of hof (by omega) pl.nums hi pl.len).mono fun v h' M' _ ⟨h1, h2, h3⟩ => ⟨_, h3, ⟨_, h1, Int.emod_nonneg _ (by omega), Int.emod_lt_of_pos _ (by omega)⟩, h2, rfl⟩
theorem text_small (s : ByteArray) (n : Int) (hn : 0 ≤ n) : (s.extract 0 (if n < s.size then n else s.size : Int).toNat).size ≤ n.toNat := by
  rw [ByteArray.size_extract]
  split <;> omega
theorem NOp.remP {P : Program} {h : GH} {M : Blks} {l : Fr} {d : Option Nat} {ty xt yt : TypeId} {pos : String} {aft : Array Edge} {g : Option (Nat × Bool)} {x y : Operand} {m q : Int} (hx : lko l x = some (.int .i64 m)) (hy : lko l y = some (.int .i64 q)) (hm : 0 ≤ m) (hq : 0 < q) : NOp P h M l ⟨d, .binOp .rem xt x y yt, ty, pos, aft, g⟩ (.int .i64 (m % q)) := by
  have e : m.tmod q = m % q := Int.tmod_eq_emod_of_nonneg hm
  exact e ▸ NOp.rem hx hy (by omega)
theorem emod_in (m q : Int) (hq : 0 < q) : 0 ≤ m % q ∧ m % q < q := ⟨Int.emod_nonneg _ (by omega), Int.emod_lt_of_pos _ hq⟩
theorem Mk_word {h : GH} {b : Nat} {A : Option Addr} {c : Nat} {wv : Value} {ns : List Int} {ws : List ByteArray} (pl : PlanAt h A c wv ns ws) (i : Nat) (left label : Int) (hi : i < 1000000000) (lv : Value) (ss : List ByteArray) (hl : Sl h lv 3 (ss.map Value.string)) (h3 : ss.length = 3) (hss : ∀ s ∈ ss, s.size ≤ 14) :
    Fn Tryd.prog h [(b, mkO (.slice A ns.length c) wv i left label)] 44 [Value.pointer (some ⟨b, 0, none⟩), lv].toArray
      fun v h' M' => ∃ o', M' = [(b, o')] ∧ ((∃ s, v = .string s ∧ s.size ≤ 14) ∧ h' = h ∧ o' = mkO (.slice A ns.length c) wv (i + 1) left label) := by
  obtain ⟨LA, lc, rfl, hlc, hlr⟩ := hl
  obtain ⟨lb, loff, lar, lte, lfr, rfl, hlb, hlat⟩ := hlr (by intro e; have := congrArg List.length e; simp [h3] at this)
  obtain ⟨WA, wc, rfl, hwc, hwr⟩ := pl.words
  refine Fn.enter Tryd.func44 rfl rfl rfl rfl fun w hg => ?_
  repeat' (first | (refine SL.isSL ?_; first | (refine SL.isN ?_; first | refine SL.nA ?_ | refine SL.alloc rfl rfl (fun b => ?_) | refine SL.box rfl rfl rfl (fun b => ?_)) | (refine SL.isG ?_; first | refine SL.gF rfl rfl rfl ?_ | refine SL.gU rfl rfl rfl ?_ | refine SL.gA ?_) | (refine SL.isSt ?_; refine SL.stA ?_) | refine SL.nil ?_ | (refine SL.isG ?_; first | refine SL.gCase rfl rfl (fun e => ?_) (fun e => ?_) | refine SL.gCaseN rfl rfl (fun e => ?_) (fun e => ?_))) | (refine St.isSt ?_; first | refine St.seq ?_ | refine St.region ?_ | refine St.block ?_ | refine St.ret ?_ | refine St.skip ?_ | refine St.exit ?_ | refine St.condT rfl ?_ | refine St.condF rfl ?_ | refine St.condY rfl (by omega) ?_ | refine St.condZ rfl (by omega) ?_) | (refine Qs.isQs ?_; first | refine Qs.then_normal ?_ | refine Qs.then_rounds ?_ | refine Qs.then_ret ?_ | refine Qs.then_exit ?_ | refine Qs.block_normal ?_ | refine Qs.block_ret ?_ | refine Qs.block_here ?_ | refine Qs.block_other rfl ?_) | refine RS.step ?_)
  refine SL.callR 0 rfl rfl (mk_nR pl i left label _ (by omega) (by omega) hi) rfl (fun v h9 o9 hle9 hp9 => ?_)
  obtain ⟨⟨k, rfl, hk0, hk9⟩, rfl, rfl⟩ := hp9
  unfold mkO
  simp only [setM]
  have hr7 := emod_in k 7 (by omega)
  have fin : ∀ j : Nat, j < 3 → ∃ s, lar[loff + j * 1]? = some (.string s) ∧ s.size ≤ 14 := fun j hj => by
    have hj3 : j < ss.length := by omega
    exact ⟨ss[j], by simpa using hlat j (.string ss[j]) (by simp [hj3]), hss _ (List.getElem_mem hj3)⟩
  obtain ⟨s3, hs3, hz3⟩ := fin (k % ((3 : Nat) : Int)).toNat (by have := emod_in k 3 (by omega); omega)
  have hk3 := emod_in k ((3 : Nat) : Int) (by omega)
  repeat' (first | (refine St.isSt ?_; first | refine St.condT rfl ?_ | refine St.condF rfl ?_ | refine St.condY rfl (by omega) ?_ | refine St.condZ rfl (by omega) ?_ | refine St.condD rfl (fun e => ?_) (fun e => ?_) | refine St.condN rfl (fun e => ?_) (fun e => ?_)) | (refine SL.isSL ?_; first | (refine SL.isBin ?_; first | (refine SL.isN ?_; refine SL.n (NOp.remP rfl rfl (by omega) (by omega)) rfl ?_) | (refine SL.isG ?_; refine SL.gT rfl rfl (NOp.remP rfl rfl (by omega) (by omega)) rfl ?_)) | (refine SL.isIdx ?_; first | (refine SL.isN ?_; refine SL.n (NOp.idx rfl rfl hk3) rfl ?_) | (refine SL.isG ?_; refine SL.gT rfl rfl (NOp.idx rfl rfl hk3) rfl ?_)) | (refine SL.isLd ?_; first | (refine SL.isN ?_; refine SL.n (NOp.ldH rfl hlb hs3) rfl ?_) | (refine SL.isG ?_; refine SL.gT rfl rfl (NOp.ldH rfl hlb hs3) rfl ?_)) | (refine SL.isN ?_; first | refine SL.nA ?_ | refine SL.alloc rfl rfl (fun b => ?_) | refine SL.box rfl rfl rfl (fun b => ?_)) | (refine SL.isG ?_; first | refine SL.gF rfl rfl rfl ?_ | refine SL.gU rfl rfl rfl ?_ | refine SL.gA ?_) | (refine SL.isSt ?_; refine SL.stA ?_) | refine SL.nil ?_ | (refine SL.isG ?_; first | refine SL.gCase rfl rfl (fun e => ?_) (fun e => ?_) | refine SL.gCaseN rfl rfl (fun e => ?_) (fun e => ?_))) | (refine St.isSt ?_; first | refine St.seq ?_ | refine St.region ?_ | refine St.block ?_ | refine St.ret ?_ | refine St.skip ?_ | refine St.exit ?_ | refine St.condT rfl ?_ | refine St.condF rfl ?_ | refine St.condY rfl (by omega) ?_ | refine St.condZ rfl (by omega) ?_) | (refine Qs.isQs ?_; first | refine Qs.then_normal ?_ | refine Qs.then_rounds ?_ | refine Qs.then_ret ?_ | refine Qs.then_exit ?_ | refine Qs.block_normal ?_ | refine Qs.block_ret ?_ | refine Qs.block_here ?_ | refine Qs.block_other rfl ?_) | refine RS.step ?_)
  all_goals first
    | exact Qs.ret1 (.inl rfl) rfl rfl _ (List.Sublist.refl _) ⟨_, rfl, ⟨_, rfl, hz3⟩, rfl, rfl⟩
    | (have hw0 : 0 < ws.length := by omega
       obtain ⟨wb, woff, war, wte, wfr, rfl, hwb, hwat⟩ := hwr (by intro e; have := congrArg List.length e; simp at this; simp [this] at hw0)
       have hkw := emod_in k ws.length (by omega)
       have hjw : (k % (ws.length : Int)).toNat < ws.length := by omega
       have hv : war[woff + (k % (ws.length : Int)).toNat * 1]? = some (.string ws[(k % (ws.length : Int)).toNat]) := by simpa using hwat _ (.string ws[(k % (ws.length : Int)).toNat]) (by simp [hjw])
       refine St.drawV' 17 [4] rfl rfl rfl rfl rfl ?_
       repeat (first | (refine TK.isTK ?_; first | (refine TK.isBin ?_; first | (refine TK.isN ?_; first | refine TK.cons rfl rfl (Ob.n rfl (NOp.remP rfl rfl (by omega) (by omega))) rfl ?_ | refine TK.consF rfl rfl rfl (NOp.remP rfl rfl (by omega) (by omega)) rfl ?_) | (refine TK.isG ?_; refine TK.cons rfl rfl (Ob.gT rfl rfl rfl (NOp.remP rfl rfl (by omega) (by omega))) rfl ?_)) | (refine TK.isIdx ?_; first | (refine TK.isN ?_; first | refine TK.cons rfl rfl (Ob.n rfl (NOp.idx rfl rfl hkw)) rfl ?_ | refine TK.consF rfl rfl rfl (NOp.idx rfl rfl hkw) rfl ?_) | (refine TK.isG ?_; refine TK.cons rfl rfl (Ob.gT rfl rfl rfl (NOp.idx rfl rfl hkw)) rfl ?_)) | (refine TK.isLd ?_; first | (refine TK.isN ?_; first | refine TK.cons rfl rfl (Ob.n rfl (NOp.ldH rfl hwb hv)) rfl ?_ | refine TK.consF rfl rfl rfl (NOp.ldH rfl hwb hv) rfl ?_) | (refine TK.isG ?_; refine TK.cons rfl rfl (Ob.gT rfl rfl rfl (NOp.ldH rfl hwb hv)) rfl ?_)) | (refine TK.isCallF 45 ?_; first | (refine TK.isN ?_; refine TK.cons rfl rfl (Ob.callV rfl rfl (fun h' hle => Text_v h' _ _ (by omega))) rfl ?_) | (refine TK.isG ?_; refine TK.cons rfl rfl (Ob.callVT rfl rfl rfl rfl (fun h' hle => Text_v h' _ _ (by omega))) rfl ?_)) | (refine TK.isHead rfl ?_; first | (refine TK.isN ?_; first | refine TK.nA ?_ | refine TK.litA ?_) | (refine TK.isG ?_; first | refine TK.cons rfl rfl (Ob.gF rfl rfl rfl) rfl ?_ | refine TK.cons rfl rfl (Ob.gU rfl rfl rfl) rfl ?_ | refine TK.gA ?_)) | (refine TK.isTail rfl ?_; first | refine TK.consS rfl rfl ?_ | refine TK.fA ?_) | refine TK.nilV rfl rfl ?_) | (refine SQ.isSQ ?_; first | refine SQ.nil ?_ | refine SQ.stA ?_))
       repeat' (first | (refine SL.isSL ?_; first | (refine SL.isN ?_; first | refine SL.nA ?_ | refine SL.alloc rfl rfl (fun b => ?_) | refine SL.box rfl rfl rfl (fun b => ?_)) | (refine SL.isG ?_; first | refine SL.gF rfl rfl rfl ?_ | refine SL.gU rfl rfl rfl ?_ | refine SL.gA ?_) | (refine SL.isSt ?_; refine SL.stA ?_) | refine SL.nil ?_ | (refine SL.isG ?_; first | refine SL.gCase rfl rfl (fun e => ?_) (fun e => ?_) | refine SL.gCaseN rfl rfl (fun e => ?_) (fun e => ?_))) | (refine St.isSt ?_; first | refine St.seq ?_ | refine St.region ?_ | refine St.block ?_ | refine St.ret ?_ | refine St.skip ?_ | refine St.exit ?_ | refine St.condT rfl ?_ | refine St.condF rfl ?_ | refine St.condY rfl (by omega) ?_ | refine St.condZ rfl (by omega) ?_) | (refine Qs.isQs ?_; first | refine Qs.then_normal ?_ | refine Qs.then_rounds ?_ | refine Qs.then_ret ?_ | refine Qs.then_exit ?_ | refine Qs.block_normal ?_ | refine Qs.block_ret ?_ | refine Qs.block_here ?_ | refine Qs.block_other rfl ?_) | refine RS.step ?_)
       exact Qs.ret1 (.inl rfl) rfl rfl _ (List.Sublist.refl _) ⟨_, rfl, ⟨_, rfl, text_small _ 14 (by omega)⟩, rfl, rfl⟩)
end Go.Proofs.YtfookachkcgdpaaDoor
