/- Some contract, some number: the walks. Plain theorems; no condition. -/
import Derived.Test.YtfookachkcgdpaaDoorSp
set_option linter.unusedVariables false
set_option linter.unusedSimpArgs false
set_option maxRecDepth 100000
set_option maxHeartbeats 8000000
namespace Go.Proofs.YtfookachkcgdpaaDoor
open Go.RowKit
theorem SL.mkMap {P : Program} {nn : Nat} {E : Env} {Q : Exit → Act → World → Prop} {l : Fr} {h : GH} {M : Blks} {ops : Array Oper} {rest : List Oper} {ty : TypeId} {pos : String} {aft : Array Edge} {d : Nat} {t : TypeId} (hd : Nat.blt d nn = true)
    (k : ∀ b, SL P nn E ops Q rest ((d, .map (some b)) :: l) h ((b, .map #[] 0) :: M)) : SL P nn E ops Q (⟨some d, .makeMap t none, ty, pos, aft, none⟩ :: rest) l h M :=
  SL.e hd fun a w ha hi => ⟨_, w.alloc (.map #[] 0), h, _, by
    simp only [execOp, Instr.makeMap, Sem.run_bind]; rfl, hi.next (hi.good.new _) (Step.new _), k _⟩
def msz : Tm → Nat
  | .z => 50
  | .o s => s.size + 50
  | .g a => msz a + 50
  | .a l r => msz l + msz r + 50
  | .r s l r => s.size + msz l + msz r + 50
  | .s o t => msz o + msz t + 50
  | .w _ t => msz t + 50
  | .i o l r => msz o + msz l + msz r + 50
  | .c _ => 50
  | .f s => s.size + 50
  | .p l r => msz l + msz r + 50
  | .n o => msz o + 50
  | .m l r => msz l + msz r + 50
  | .x l r => msz l + msz r + 50
  | .v _ => 50
theorem msz_b (x : Tm) : cnt x ≤ msz x ∧ osz x ≤ msz x ∧ tsz x ≤ msz x := by
  induction x <;> simp only [cnt, osz, tsz, msz] <;> omega
theorem rsz_o (x : Tm) : rsz (plainO x) ≤ msz x := by
  have e : bE.size = 0 := rfl
  induction x <;> simp only [plainO, rsz, msz, e] <;> omega
theorem rsz_t (x : Tm) : rsz (plainT x) ≤ msz x := by
  have e : bE.size = 0 := rfl
  induction x with
  | s o t _ i2 => have := rsz_o o; simp only [plainT, rsz, msz, e] at *; omega
  | i o l r _ i1 i2 => have := rsz_o o; simp only [plainT, rsz, msz, e] at *; omega
  | _ => simp only [plainT, rsz, msz, e] at * <;> omega
theorem rtsz_rsz (t : Tr) : rtsz t = rsz t := by induction t <;> simp only [rtsz, rsz, *]
theorem rcnt_rsz (t : Tr) : rcnt t ≤ rsz t := by induction t <;> simp only [rcnt, rsz] <;> omega
theorem msz_obs (t : Tr) : msz (obsOf t) ≤ rsz t := by
  induction t <;> simp only [obsOf, rsz] <;> (repeat' split) <;> simp only [msz] <;> omega
theorem msz_term (t : Tr) : msz (termOf t) ≤ rsz t := by
  induction t with
  | t2 k s n a b i1 i2 => have := msz_obs a; simp only [termOf, rsz]; (repeat' split) <;> simp only [msz] <;> omega
  | t3 k s n a b c i1 i2 i3 => have := msz_obs a; simp only [termOf, rsz]; (repeat' split) <;> simp only [msz] <;> omega
  | _ => simp only [termOf, rsz] <;> (repeat' split) <;> simp only [msz] <;> omega
def OddQ (v : Value) (_ : GH) : Prop := ∃ x : Tm, v = enc x ∧ msz x ≤ 50
theorem OddQ.v {v : Value} {h : GH} (ho : IsOdd v) : OddQ v h := ⟨.v ⟨v, ho⟩, rfl, Nat.le_refl _⟩
attribute [local irreducible] St SL Qs NOp TK SQ RS Fn FnV FnP TX TA

theorem Within0 (h : GH) (v n : Int) (hn : n < 1) : FnV Tryd.prog h 13 [.int .i64 v, .int .i64 n].toArray (.int .i64 0) := by
  refine FnV.enter Tryd.func13 rfl rfl rfl rfl fun w hg => ?_
  repeat' (first | (refine SL.isSL ?_; first | (refine SL.isN ?_; first | refine SL.nA ?_ | refine SL.alloc rfl rfl (fun b => ?_) | refine SL.box rfl rfl rfl (fun b => ?_)) | (refine SL.isG ?_; first | refine SL.gF rfl rfl rfl ?_ | refine SL.gU rfl rfl rfl ?_ | refine SL.gA ?_) | (refine SL.isSt ?_; refine SL.stA ?_) | refine SL.nil ?_ | (refine SL.isG ?_; first | refine SL.gCase rfl rfl (fun e => ?_) (fun e => ?_) | refine SL.gCaseN rfl rfl (fun e => ?_) (fun e => ?_))) | (refine St.isSt ?_; first | refine St.seq ?_ | refine St.region ?_ | refine St.block ?_ | refine St.ret ?_ | refine St.skip ?_ | refine St.exit ?_ | refine St.condT rfl ?_ | refine St.condF rfl ?_ | refine St.condY rfl (by omega) ?_ | refine St.condZ rfl (by omega) ?_) | (refine Qs.isQs ?_; first | refine Qs.then_normal ?_ | refine Qs.then_rounds ?_ | refine Qs.then_ret ?_ | refine Qs.then_exit ?_ | refine Qs.block_normal ?_ | refine Qs.block_ret ?_ | refine Qs.block_here ?_ | refine Qs.block_other rfl ?_) | refine RS.step ?_)
  exact Qs.retV rfl rfl rfl
theorem Odd_p (n : Int) (h : GH) : FnP Tryd.prog h 14 [.int .i64 n].toArray OddQ := by
  refine FnP.enter Tryd.func14 rfl rfl rfl rfl fun w hg => ?_
  repeat' (first | (refine SL.isSL ?_; first | (refine SL.isN ?_; first | refine SL.nA ?_ | refine SL.alloc rfl rfl (fun b => ?_) | refine SL.box rfl rfl rfl (fun b => ?_)) | (refine SL.isG ?_; first | refine SL.gF rfl rfl rfl ?_ | refine SL.gU rfl rfl rfl ?_ | refine SL.gA ?_) | (refine SL.isSt ?_; refine SL.stA ?_) | refine SL.nil ?_ | (refine SL.isG ?_; first | refine SL.gCase rfl rfl (fun e => ?_) (fun e => ?_) | refine SL.gCaseN rfl rfl (fun e => ?_) (fun e => ?_))) | (refine St.isSt ?_; first | refine St.seq ?_ | refine St.region ?_ | refine St.block ?_ | refine St.ret ?_ | refine St.skip ?_ | refine St.exit ?_ | refine St.condT rfl ?_ | refine St.condF rfl ?_ | refine St.condY rfl (by omega) ?_ | refine St.condZ rfl (by omega) ?_) | (refine Qs.isQs ?_; first | refine Qs.then_normal ?_ | refine Qs.then_rounds ?_ | refine Qs.then_ret ?_ | refine Qs.then_exit ?_ | refine Qs.block_normal ?_ | refine Qs.block_ret ?_ | refine Qs.block_here ?_ | refine Qs.block_other rfl ?_) | refine RS.step ?_)
  refine SL.lit rfl (by repeat (first | exact CellsL.nil | apply CellsL.cons rfl | apply CellsL.cons (cells_enc _) | apply CellsL.cons (One.cells (by assumption)))) rfl rfl rfl rfl rfl rfl (fun lb h1 hle1 hlb => ?_)
  repeat' (first | (refine SL.isSL ?_; first | (refine SL.isMkMap ?_; refine SL.mkMap rfl (fun mb => ?_)) | (refine SL.isN ?_; first | refine SL.nA ?_ | refine SL.alloc rfl rfl (fun b => ?_) | refine SL.box rfl rfl rfl (fun b => ?_)) | (refine SL.isG ?_; first | refine SL.gF rfl rfl rfl ?_ | refine SL.gU rfl rfl rfl ?_ | refine SL.gA ?_) | (refine SL.isSt ?_; refine SL.stA ?_) | refine SL.nil ?_ | (refine SL.isG ?_; first | refine SL.gCase rfl rfl (fun e => ?_) (fun e => ?_) | refine SL.gCaseN rfl rfl (fun e => ?_) (fun e => ?_))) | (refine St.isSt ?_; first | refine St.seq ?_ | refine St.region ?_ | refine St.block ?_ | refine St.ret ?_ | refine St.skip ?_ | refine St.exit ?_ | refine St.condT rfl ?_ | refine St.condF rfl ?_ | refine St.condY rfl (by omega) ?_ | refine St.condZ rfl (by omega) ?_) | (refine Qs.isQs ?_; first | refine Qs.then_normal ?_ | refine Qs.then_rounds ?_ | refine Qs.then_ret ?_ | refine Qs.then_exit ?_ | refine Qs.block_normal ?_ | refine Qs.block_ret ?_ | refine Qs.block_here ?_ | refine Qs.block_other rfl ?_) | refine RS.step ?_)
  refine SL.lit rfl (by repeat (first | exact CellsL.nil | apply CellsL.cons rfl | apply CellsL.cons (cells_enc _) | apply CellsL.cons (One.cells (by assumption)))) rfl rfl rfl rfl rfl rfl (fun lc h2 hle2 hlc => ?_)
  have hm := emod_in n 9 (by omega)
  have hin : n % 9 = 0 ∨ n % 9 = 1 ∨ n % 9 = 2 ∨ n % 9 = 3 ∨ n % 9 = 4 ∨ n % 9 = 5 ∨ n % 9 = 6 ∨ n % 9 = 7 ∨ n % 9 = 8 := by omega
  have cw := Within h2 n 9 (by omega) (by omega)
  rcases hin with e | e | e | e | e | e | e | e | e <;> rw [e] at cw
  all_goals (
    repeat' (first | (refine SL.isSL ?_; first | (refine SL.isCallF 13 ?_; first | (refine SL.isN ?_; refine SL.callV rfl (cw) rfl ?_) | (refine SL.isG ?_; refine SL.callVT rfl rfl rfl (cw) rfl ?_)) | (refine SL.isIdx ?_; first | (refine SL.isN ?_; refine SL.n (NOp.idx rfl rfl (by omega)) rfl ?_) | (refine SL.isG ?_; refine SL.gT rfl rfl (NOp.idx rfl rfl (by omega)) rfl ?_)) | (refine SL.isLd ?_; first | (refine SL.isN ?_; refine SL.n (NOp.ldH rfl hlc rfl) rfl ?_) | (refine SL.isG ?_; refine SL.gT rfl rfl (NOp.ldH rfl hlc rfl) rfl ?_)) | (refine SL.isN ?_; first | refine SL.nA ?_ | refine SL.alloc rfl rfl (fun b => ?_) | refine SL.box rfl rfl rfl (fun b => ?_)) | (refine SL.isG ?_; first | refine SL.gF rfl rfl rfl ?_ | refine SL.gU rfl rfl rfl ?_ | refine SL.gA ?_) | (refine SL.isSt ?_; refine SL.stA ?_) | refine SL.nil ?_ | (refine SL.isG ?_; first | refine SL.gCase rfl rfl (fun e => ?_) (fun e => ?_) | refine SL.gCaseN rfl rfl (fun e => ?_) (fun e => ?_))) | (refine St.isSt ?_; first | refine St.seq ?_ | refine St.region ?_ | refine St.block ?_ | refine St.ret ?_ | refine St.skip ?_ | refine St.exit ?_ | refine St.condT rfl ?_ | refine St.condF rfl ?_ | refine St.condY rfl (by omega) ?_ | refine St.condZ rfl (by omega) ?_) | (refine Qs.isQs ?_; first | refine Qs.then_normal ?_ | refine Qs.then_rounds ?_ | refine Qs.then_ret ?_ | refine Qs.then_exit ?_ | refine Qs.block_normal ?_ | refine Qs.block_ret ?_ | refine Qs.block_here ?_ | refine Qs.block_other rfl ?_) | refine RS.step ?_)
    refine Qs.retP rfl rfl ?_
    first
    | exact OddQ.v (.inl rfl)
    | exact OddQ.v (.inr ⟨_, _, rfl, by decide⟩)
    | exact ⟨.c 1, rfl, Nat.le_refl _⟩)
theorem Contract_p (h : GH) (A : Option Addr) (c : Nat) (wv : Value) (ns : List Int) (ws : List ByteArray) (pl : PlanAt h A c wv ns ws) : FnP Tryd.prog h 10 [.agg [.slice A ns.length c, wv].toArray].toArray (TreeQ (tN 5) (tZ 5)) := by
  obtain ⟨WA, wc, rfl, hwc, hwr⟩ := id pl.words
  refine FnP.enter Tryd.func10 rfl rfl rfl rfl fun w hg => ?_
  repeat' (first | (refine SL.isSL ?_; first | (refine SL.isN ?_; first | refine SL.nA ?_ | refine SL.alloc rfl rfl (fun b => ?_) | refine SL.box rfl rfl rfl (fun b => ?_)) | (refine SL.isG ?_; first | refine SL.gF rfl rfl rfl ?_ | refine SL.gU rfl rfl rfl ?_ | refine SL.gA ?_) | (refine SL.isSt ?_; refine SL.stA ?_) | refine SL.nil ?_ | (refine SL.isG ?_; first | refine SL.gCase rfl rfl (fun e => ?_) (fun e => ?_) | refine SL.gCaseN rfl rfl (fun e => ?_) (fun e => ?_))) | (refine St.isSt ?_; first | refine St.seq ?_ | refine St.region ?_ | refine St.block ?_ | refine St.ret ?_ | refine St.skip ?_ | refine St.exit ?_ | refine St.condT rfl ?_ | refine St.condF rfl ?_ | refine St.condY rfl (by omega) ?_ | refine St.condZ rfl (by omega) ?_) | (refine Qs.isQs ?_; first | refine Qs.then_normal ?_ | refine Qs.then_rounds ?_ | refine Qs.then_ret ?_ | refine Qs.then_exit ?_ | refine Qs.block_normal ?_ | refine Qs.block_ret ?_ | refine Qs.block_here ?_ | refine Qs.block_other rfl ?_) | refine RS.step ?_)
  refine SL.callR 0 rfl rfl (Mk_term _ A c _ ns ws 5 0 5 _ pl (by decide) (by decide) (by decide) _ ⟨0, 24, 0, rfl, by omega, by omega, by omega, by omega, by omega⟩) rfl (fun v h2 o2 hle2 hp2 => ?_)
  obtain ⟨⟨t, K, rfl, hK, hwf, hN, hZ⟩, hms2⟩ := hp2
  obtain ⟨AA, na, ca, rfl⟩ := hK.slice
  simp only [setM]
  repeat' (first | (refine SL.isSL ?_; first | (refine SL.isN ?_; first | refine SL.nA ?_ | refine SL.alloc rfl rfl (fun b => ?_) | refine SL.box rfl rfl rfl (fun b => ?_)) | (refine SL.isG ?_; first | refine SL.gF rfl rfl rfl ?_ | refine SL.gU rfl rfl rfl ?_ | refine SL.gA ?_) | (refine SL.isSt ?_; refine SL.stA ?_) | refine SL.nil ?_ | (refine SL.isG ?_; first | refine SL.gCase rfl rfl (fun e => ?_) (fun e => ?_) | refine SL.gCaseN rfl rfl (fun e => ?_) (fun e => ?_))) | (refine St.isSt ?_; first | refine St.seq ?_ | refine St.region ?_ | refine St.block ?_ | refine St.ret ?_ | refine St.skip ?_ | refine St.exit ?_ | refine St.condT rfl ?_ | refine St.condF rfl ?_ | refine St.condY rfl (by omega) ?_ | refine St.condZ rfl (by omega) ?_) | (refine Qs.isQs ?_; first | refine Qs.then_normal ?_ | refine Qs.then_rounds ?_ | refine Qs.then_ret ?_ | refine Qs.then_exit ?_ | refine Qs.block_normal ?_ | refine Qs.block_ret ?_ | refine Qs.block_here ?_ | refine Qs.block_other rfl ?_) | refine RS.step ?_)
  exact Qs.retC 1 rfl rfl rfl rfl [] (List.nil_sublist _) ⟨⟨t, _, rfl, hK, hwf, hN, hZ⟩, rfl⟩
theorem Number_p (h : GH) (A : Option Addr) (c : Nat) (wv : Value) (ns : List Int) (ws : List ByteArray) (pl : PlanAt h A c wv ns ws) : FnP Tryd.prog h 16 [.agg [.slice A ns.length c, wv].toArray].toArray (TreeQ (tN 5) (tZ 5)) := by
  obtain ⟨WA, wc, rfl, hwc, hwr⟩ := id pl.words
  refine FnP.enter Tryd.func16 rfl rfl rfl rfl fun w hg => ?_
  repeat' (first | (refine SL.isSL ?_; first | (refine SL.isN ?_; first | refine SL.nA ?_ | refine SL.alloc rfl rfl (fun b => ?_) | refine SL.box rfl rfl rfl (fun b => ?_)) | (refine SL.isG ?_; first | refine SL.gF rfl rfl rfl ?_ | refine SL.gU rfl rfl rfl ?_ | refine SL.gA ?_) | (refine SL.isSt ?_; refine SL.stA ?_) | refine SL.nil ?_ | (refine SL.isG ?_; first | refine SL.gCase rfl rfl (fun e => ?_) (fun e => ?_) | refine SL.gCaseN rfl rfl (fun e => ?_) (fun e => ?_))) | (refine St.isSt ?_; first | refine St.seq ?_ | refine St.region ?_ | refine St.block ?_ | refine St.ret ?_ | refine St.skip ?_ | refine St.exit ?_ | refine St.condT rfl ?_ | refine St.condF rfl ?_ | refine St.condY rfl (by omega) ?_ | refine St.condZ rfl (by omega) ?_) | (refine Qs.isQs ?_; first | refine Qs.then_normal ?_ | refine Qs.then_rounds ?_ | refine Qs.then_ret ?_ | refine Qs.then_exit ?_ | refine Qs.block_normal ?_ | refine Qs.block_ret ?_ | refine Qs.block_here ?_ | refine Qs.block_other rfl ?_) | refine RS.step ?_)
  refine SL.callR 0 rfl rfl (Mk_obs _ A c _ ns ws 4 0 4 _ pl (by decide) (by decide) (by decide) _ ⟨0, 16, 0, rfl, by omega, by omega, by omega, by omega, by omega⟩) rfl (fun v h2 o2 hle2 hp2 => ?_)
  obtain ⟨⟨t, K, rfl, hK, hwf, hN, hZ⟩, hms2⟩ := hp2
  obtain ⟨AA, na, ca, rfl⟩ := hK.slice
  simp only [setM]
  repeat' (first | (refine SL.isSL ?_; first | (refine SL.isN ?_; first | refine SL.nA ?_ | refine SL.alloc rfl rfl (fun b => ?_) | refine SL.box rfl rfl rfl (fun b => ?_)) | (refine SL.isG ?_; first | refine SL.gF rfl rfl rfl ?_ | refine SL.gU rfl rfl rfl ?_ | refine SL.gA ?_) | (refine SL.isSt ?_; refine SL.stA ?_) | refine SL.nil ?_ | (refine SL.isG ?_; first | refine SL.gCase rfl rfl (fun e => ?_) (fun e => ?_) | refine SL.gCaseN rfl rfl (fun e => ?_) (fun e => ?_))) | (refine St.isSt ?_; first | refine St.seq ?_ | refine St.region ?_ | refine St.block ?_ | refine St.ret ?_ | refine St.skip ?_ | refine St.exit ?_ | refine St.condT rfl ?_ | refine St.condF rfl ?_ | refine St.condY rfl (by omega) ?_ | refine St.condZ rfl (by omega) ?_) | (refine Qs.isQs ?_; first | refine Qs.then_normal ?_ | refine Qs.then_rounds ?_ | refine Qs.then_ret ?_ | refine Qs.then_exit ?_ | refine Qs.block_normal ?_ | refine Qs.block_ret ?_ | refine Qs.block_here ?_ | refine Qs.block_other rfl ?_) | refine RS.step ?_)
  exact Qs.retC 1 rfl rfl rfl rfl [] (List.nil_sublist _) ⟨⟨t, _, rfl, hK, hwf, Nat.le_trans hN (by decide), Nat.le_trans hZ (by decide)⟩, rfl⟩
theorem Spoilt_p (t : Tr) (hw : wfT t) (hc : rcnt t ≤ 280) (hz : rsz t ≤ 17548) (a0 what vv : Int) (s : ByteArray) (h : GH) (K : Value) (hK : TK_ h t K) :
    FnP Tryd.prog h 11 [TrV t K, .int .i64 a0, .int .i64 what, .int .i64 vv, .string s].toArray (TreeQ 280 23148) := by
  have hs := rsize_le t
  have cs := RSize_v 280 t hc (by omega)
  obtain ⟨AA, na, ca, rfl⟩ := hK.slice
  obtain ⟨x, hx0, hx1, cw⟩ : ∃ x : Int, 0 ≤ x ∧ x ≤ 1000000 ∧ ∀ h, FnV Tryd.prog h 13 [.int .i64 a0, .int .i64 (rsize t).1].toArray (.int .i64 x) := by
    by_cases h1 : (rsize t).1 < 1
    · exact ⟨0, by omega, by omega, fun h => Within0 h _ _ h1⟩
    · have := emod_in a0 (rsize t).1 (by omega)
      exact ⟨_, this.1, by omega, fun h => Within h _ _ (by omega) (by omega)⟩
  have csp := Spoil_p what vv s 280 t hc (by omega) hw x hx0 hx1
  refine FnP.enter Tryd.func11 rfl rfl rfl rfl fun w hg => ?_
  simp only [TrV, fl] at cs csp ⊢
  repeat' (first | (refine SL.isSL ?_; first | (refine SL.isCallF 27 ?_; first | (refine SL.isN ?_; refine SL.callV rfl (cs _ _ hK) rfl ?_) | (refine SL.isG ?_; refine SL.callVT rfl rfl rfl (cs _ _ hK) rfl ?_)) | (refine SL.isN ?_; first | refine SL.nA ?_ | refine SL.alloc rfl rfl (fun b => ?_) | refine SL.box rfl rfl rfl (fun b => ?_)) | (refine SL.isG ?_; first | refine SL.gF rfl rfl rfl ?_ | refine SL.gU rfl rfl rfl ?_ | refine SL.gA ?_) | (refine SL.isSt ?_; refine SL.stA ?_) | refine SL.nil ?_ | (refine SL.isG ?_; first | refine SL.gCase rfl rfl (fun e => ?_) (fun e => ?_) | refine SL.gCaseN rfl rfl (fun e => ?_) (fun e => ?_))) | (refine St.isSt ?_; first | refine St.seq ?_ | refine St.region ?_ | refine St.block ?_ | refine St.ret ?_ | refine St.skip ?_ | refine St.exit ?_ | refine St.condT rfl ?_ | refine St.condF rfl ?_ | refine St.condY rfl (by omega) ?_ | refine St.condZ rfl (by omega) ?_) | (refine Qs.isQs ?_; first | refine Qs.then_normal ?_ | refine Qs.then_rounds ?_ | refine Qs.then_ret ?_ | refine Qs.then_exit ?_ | refine Qs.block_normal ?_ | refine Qs.block_ret ?_ | refine Qs.block_here ?_ | refine Qs.block_other rfl ?_) | refine RS.step ?_)
  rename Nat => b13
  refine St.perm _ (List.perm_append_singleton _ _).symm ?_
  refine St.drawX (M1 := [_, _]) (D0 := [(b13, _)]) [] [11] [fun D _ => D = [(b13, cel [.int .i64 0, .string ByteArray.empty, .int .i64 0, .slice none 0 0] 29)], fun D h => ∃ (t' : Tr) (K' : Value), TK_ h t' K' ∧ wfT t' ∧ rcnt t' ≤ 280 ∧ rsz t' ≤ 23148 ∧ D = [(b13, cel [.int .i64 t'.kind, .string t'.s, .int .i64 t'.n, K'] 29)]] rfl rfl rfl rfl rfl ⟨_, _, rfl, GH.le.refl _, rfl⟩ ?_
  repeat (first | (refine TX.isTX ?_; first | (refine TX.isCallF 13 ?_; first | (refine TX.isN ?_; refine TX.cons rfl rfl (Ob.callV rfl rfl (fun h' hle => cw h')) ?_) | (refine TX.isG ?_; refine TX.cons rfl rfl (Ob.callVT rfl rfl rfl rfl (fun h' hle => cw h')) ?_)) | (refine TX.isCallF 28 ?_; refine TX.cons rfl rfl (Ob.callP rfl rfl (fun h' hle => csp h' _ (hK.le hle))) ?_) | ((refine TX.isN ?_; refine TX.cons rfl rfl (Ob.q 28 rfl rfl (fun y h1 hle hq => by obtain ⟨h2, hle2, hQ⟩ := hq; exact Ob.nP (R := fun u hz => ∃ hh, GH.le hh hz ∧ SpoilQ t x u hh) rfl (NOp.move rfl) ⟨h2, hle2, hQ⟩)) ?_)) | (refine TX.isExt ?_; refine TX.cons rfl rfl (Ob.q 20 rfl rfl (fun y h1 hle hq => by obtain ⟨h2, hle2, hh, hle3, t', K', a', rfl, hK', hw', hc', hz', hl', hu'⟩ := hq; exact Ob.nP (R := TreeQ 280 23148) rfl (NOp.extract rfl rfl) ⟨t', K', rfl, hK'.le (hle3.trans hle2), hw', by omega, by omega⟩)) ?_) | (refine TX.isExt ?_; refine TX.cons rfl rfl (Ob.q 20 rfl rfl (fun y h1 hle hq => by obtain ⟨h2, hle2, hh, hle3, t', K', a', rfl, hK', hw', hc', hz', hl', hu'⟩ := hq; exact Ob.nP (R := fun _ _ => True) rfl (NOp.extract rfl rfl) trivial)) ?_) | (refine TX.isAt 11 ?_; refine TX.consS rfl rfl (ObS.q 29 rfl rfl rfl (fun y h1 hle hq => by obtain ⟨h2, hle2, t', K', rfl, hK', hw', hc', hz'⟩ := hq; obtain ⟨A1, n1, c1, rfl⟩ := hK'.slice; exact ObS.of rfl rfl rfl rfl (fun h' D hle3 ⟨h3, hle4, hD⟩ => by subst hD; exact ⟨[(b13, cel [.int .i64 t'.kind, .string t'.s, .int .i64 t'.n, .slice A1 n1 c1] 29)], SOp.store2 2 rfl rfl rfl rfl rfl (by repeat (first | exact OneL.nil | refine OneL.cons rfl ?_ | refine OneL.cons (one_enc _) ?_ | refine OneL.cons (One.one (by assumption)) ?_)) rfl rfl, t', _, hK'.le (hle2.trans hle3), hw', hc', hz', rfl⟩))) ?_) | (refine TX.isN ?_; first | refine TX.nA ?_ | refine TX.litA ?_) | (refine TX.isG ?_; first | refine TX.cons rfl rfl (Ob.gF rfl rfl rfl) ?_ | refine TX.cons rfl rfl (Ob.gU rfl rfl rfl) ?_ | refine TX.gA ?_) | refine TX.nil rfl ?_))
  intro h3 D hle3 hHS
  obtain ⟨R, h4, hR, hle4, hD⟩ := hHS
  obtain rfl := Option.some.inj hR
  obtain ⟨t', K', hK', hw', hc', hz', rfl⟩ := hD
  obtain ⟨A1, n1, c1, rfl⟩ := hK'.slice
  show Qs _ _ _ _ _ _ _
  simp only [List.cons_append, List.nil_append]
  repeat' (first | (refine SL.isSL ?_; first | (refine SL.isN ?_; first | refine SL.nA ?_ | refine SL.alloc rfl rfl (fun b => ?_) | refine SL.box rfl rfl rfl (fun b => ?_)) | (refine SL.isG ?_; first | refine SL.gF rfl rfl rfl ?_ | refine SL.gU rfl rfl rfl ?_ | refine SL.gA ?_) | (refine SL.isSt ?_; refine SL.stA ?_) | refine SL.nil ?_ | (refine SL.isG ?_; first | refine SL.gCase rfl rfl (fun e => ?_) (fun e => ?_) | refine SL.gCaseN rfl rfl (fun e => ?_) (fun e => ?_))) | (refine St.isSt ?_; first | refine St.seq ?_ | refine St.region ?_ | refine St.block ?_ | refine St.ret ?_ | refine St.skip ?_ | refine St.exit ?_ | refine St.condT rfl ?_ | refine St.condF rfl ?_ | refine St.condY rfl (by omega) ?_ | refine St.condZ rfl (by omega) ?_) | (refine Qs.isQs ?_; first | refine Qs.then_normal ?_ | refine Qs.then_rounds ?_ | refine Qs.then_ret ?_ | refine Qs.then_exit ?_ | refine Qs.block_normal ?_ | refine Qs.block_ret ?_ | refine Qs.block_here ?_ | refine Qs.block_other rfl ?_) | refine RS.step ?_)
  exact Qs.retC 0 rfl rfl rfl rfl [] (List.nil_sublist _) ⟨⟨t', _, rfl, hK'.le hle4, hw', hc', hz'⟩, rfl⟩
end Go.Proofs.YtfookachkcgdpaaDoor
