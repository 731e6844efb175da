/- A contract's labels, and its check. Plain theorems; no condition. -/
import Derived.Test.YtfookachkcgdpaaDoorLb
import Derived.Test.YtfookachkcgdpaaDoorInstE
set_option linter.unusedVariables false
set_option linter.unusedSimpArgs false
set_option maxRecDepth 100000
set_option maxHeartbeats 4000000
namespace Go.Proofs.YtfookachkcgdpaaDoor
open Go.RowKit
theorem Qs.freeze {nn : Nat} {E : Env} {Q : Exit → Act → World → Prop} {l : Fr} {h : GH} {M R : Blks} {e : Exit} {b : Nat} {o : Obj} (i : M.Perm ((b, o) :: R)) (hM : ∀ q ∈ E.M0, ∃ p ∈ R, p.1 = q.1) (k : ∀ h', GH.le h h' → h' b = some o → Qs nn E Q e l h' R) : Qs nn E Q e l h M := fun a w ha hi => by
  have hi' := hi.perm i
  have hne : ∀ q ∈ E.M0, q.1 ≠ b := fun q hq e => by
    obtain ⟨p, hp, e'⟩ := hM q hq
    exact (List.pairwise_cons.1 hi'.good.dis).1 p hp (by simp only []; rw [e', e])
  exact k (h.ins b o) (GH.le_ins (hi'.good.sep (b, o) (by simp))) (GH.ins_at _ _ _) a w ha ⟨hi'.good.freeze, hi'.step.freeze hi'.good hne⟩
/-- An owned slice is not written any more. -/
theorem Qs.ownS {nn : Nat} {E : Env} {Q : Exit → Act → World → Prop} {l : Fr} {h : GH} {M R : Blks} {e : Exit} {t : TypeId} {sz n : Nat} {v : Value} {xs : List Value} {ob : Blks} (o : OwnS t sz v n xs ob) (i : M.Perm (ob ++ R)) (hM : ∀ q ∈ E.M0, ∃ p ∈ R, p.1 = q.1)
    (k : ∀ h', GH.le h h' → Sl h' v n xs → Qs nn E Q e l h' R) : Qs nn E Q e l h M := by
  rcases o.shape with ⟨rfl, rfl, rfl, rfl⟩ | ⟨b, cap, cur, rfl, rfl, h1, h2, h3⟩
  · exact Qs.perm _ i (k h (fun _ _ x => x) (Sl.nil h))
  · exact Qs.freeze i hM fun h' hle hb => k h' hle ⟨_, _, rfl, h1, h3 h' hb⟩
attribute [local irreducible] St SL Qs NOp TK SQ RS Fn FnV FnP

def labels : Tm → List ByteArray
  | .g a => labels a
  | .a l r => labels l ++ labels r
  | .r s l r => s :: (labels l ++ labels r)
  | .s _ t => labels t
  | .w _ t => labels t
  | .i _ l r => labels l ++ labels r
  | _ => []
theorem labels_cnt (t : Tm) : (labels t).length ≤ cnt t := by
  induction t <;> simp only [labels, cnt, List.length_append, List.length_cons, List.length_nil] <;> omega
theorem str_one (l : List ByteArray) : ∀ u ∈ l.map Value.string, u.oneCell' = true := by
  intro u hu
  obtain ⟨s, _, rfl⟩ := List.mem_map.1 hu
  rfl

/-- What a walk over a contract's kids needs of them. -/
def LabP (t : Tm) : Prop := ∀ h : GH, FnP Tryd.prog h 33 [enc t].toArray fun v h' => Sl h' v (labels t).length ((labels t).map Value.string)
theorem lab2 (t ta tb : Tm) (hk : kids t = [ta, tb]) (hne : ∀ s l r, t ≠ .r s l r) (hl : labels t = labels ta ++ labels tb) (hca : cnt ta ≤ 1000000) (hcb : cnt tb ≤ 1000000) (ihta : LabP ta) (ihtb : LabP tb) : LabP t := by
  intro h
  have ba := labels_cnt ta
  have bb := labels_cnt tb
  have hK : ∀ h, FnP Tryd.prog h 51 [enc t].toArray fun v h' => Sl h' v 2 [enc ta, enc tb] := fun h => by have := Kids h t; rw [hk] at this; exact this
  refine FnP.enter Tryd.func33 rfl rfl rfl rfl fun w hg => ?_
  cases t <;> simp only [kids, List.cons.injEq, reduceCtorEq, and_true, and_false] at hk
  case r s l r => exact absurd rfl (hne s l r)
  all_goals
    obtain ⟨rfl, rfl⟩ := hk
    rename_i ta tb
    simp only [enc] at hK ⊢
    repeat' (first | (refine SL.isSL ?_; first | (refine SL.isN ?_; first | refine SL.nA ?_ | refine SL.alloc rfl rfl (fun b => ?_) | refine SL.box rfl rfl rfl (fun b => ?_)) | (refine SL.isG ?_; first | refine SL.gF rfl rfl rfl ?_ | refine SL.gU rfl rfl rfl ?_ | refine SL.gA ?_) | (refine SL.isSt ?_; refine SL.stA ?_) | refine SL.nil ?_ | (refine SL.isG ?_; first | refine SL.gCase rfl rfl (fun e => ?_) (fun e => ?_) | refine SL.gCaseN rfl rfl (fun e => ?_) (fun e => ?_))) | (refine St.isSt ?_; first | refine St.seq ?_ | refine St.region ?_ | refine St.block ?_ | refine St.ret ?_ | refine St.skip ?_ | refine St.exit ?_ | refine St.condT rfl ?_ | refine St.condF rfl ?_ | refine St.condY rfl (by omega) ?_ | refine St.condZ rfl (by omega) ?_) | (refine Qs.isQs ?_; first | refine Qs.then_normal ?_ | refine Qs.then_rounds ?_ | refine Qs.then_ret ?_ | refine Qs.then_exit ?_ | refine Qs.block_normal ?_ | refine Qs.block_ret ?_ | refine Qs.block_here ?_ | refine Qs.block_other rfl ?_) | refine RS.step ?_)
    refine SL.callP rfl (hK _) rfl (fun v h9 hle9 hv => ?_)
    obtain ⟨A, c, rfl, hc9, hr⟩ := hv
    obtain ⟨kb, off, ar, te, fr, rfl, hb, hat⟩ := hr (by simp)
    have k0 : ar[off + (0 : Int).toNat * 1]? = some (enc ta) := by simpa using hat 0 _ rfl
    have k1 : ar[off + (0 + 1 : Int).toNat * 1]? = some (enc tb) := by simpa using hat 1 _ rfl
    repeat' (first | (refine SL.isSL ?_; first | (refine SL.isN ?_; first | refine SL.nA ?_ | refine SL.alloc rfl rfl (fun b => ?_) | refine SL.box rfl rfl rfl (fun b => ?_)) | (refine SL.isG ?_; first | refine SL.gF rfl rfl rfl ?_ | refine SL.gU rfl rfl rfl ?_ | refine SL.gA ?_) | (refine SL.isSt ?_; refine SL.stA ?_) | refine SL.nil ?_ | (refine SL.isG ?_; first | refine SL.gCase rfl rfl (fun e => ?_) (fun e => ?_) | refine SL.gCaseN rfl rfl (fun e => ?_) (fun e => ?_))) | (refine St.isSt ?_; first | refine St.seq ?_ | refine St.region ?_ | refine St.block ?_ | refine St.ret ?_ | refine St.skip ?_ | refine St.exit ?_ | refine St.condT rfl ?_ | refine St.condF rfl ?_ | refine St.condY rfl (by omega) ?_ | refine St.condZ rfl (by omega) ?_) | (refine Qs.isQs ?_; first | refine Qs.then_normal ?_ | refine Qs.then_rounds ?_ | refine Qs.then_ret ?_ | refine Qs.then_exit ?_ | refine Qs.block_normal ?_ | refine Qs.block_ret ?_ | refine Qs.block_here ?_ | refine Qs.block_other rfl ?_) | refine RS.step ?_)
    refine St.loopN 3 ?_
    repeat' (first | refine SL.n (NOp.idx rfl rfl (by simp)) rfl ?_ | refine SL.n (NOp.ldH rfl hb k0) rfl ?_ | (refine SL.isSL ?_; first | (refine SL.isN ?_; first | refine SL.nA ?_ | refine SL.alloc rfl rfl (fun b => ?_) | refine SL.box rfl rfl rfl (fun b => ?_)) | (refine SL.isG ?_; first | refine SL.gF rfl rfl rfl ?_ | refine SL.gU rfl rfl rfl ?_ | refine SL.gA ?_) | (refine SL.isSt ?_; refine SL.stA ?_) | refine SL.nil ?_ | (refine SL.isG ?_; first | refine SL.gCase rfl rfl (fun e => ?_) (fun e => ?_) | refine SL.gCaseN rfl rfl (fun e => ?_) (fun e => ?_))) | (refine St.isSt ?_; first | refine St.seq ?_ | refine St.region ?_ | refine St.block ?_ | refine St.ret ?_ | refine St.skip ?_ | refine St.exit ?_ | refine St.condT rfl ?_ | refine St.condF rfl ?_ | refine St.condY rfl (by omega) ?_ | refine St.condZ rfl (by omega) ?_) | (refine Qs.isQs ?_; first | refine Qs.then_normal ?_ | refine Qs.then_rounds ?_ | refine Qs.then_ret ?_ | refine Qs.then_exit ?_ | refine Qs.block_normal ?_ | refine Qs.block_ret ?_ | refine Qs.block_here ?_ | refine Qs.block_other rfl ?_) | refine RS.step ?_)
    refine SL.callP rfl (ihta _) rfl (fun u0 g0 hle0 hu0 => ?_)
    obtain ⟨A0, c0, rfl, hc0, hr0⟩ := hu0
    refine SL.append rfl rfl (OwnS.nil _ _) rfl hr0 (by simp) (str_one _) rfl rfl rfl (by simp; omega) rfl (fun w0 ob0 ho0 => ?_)
    repeat' (first | refine SL.n (NOp.idx rfl rfl (by simp)) rfl ?_ | refine SL.n (NOp.ldH rfl (hle0 _ _ hb) k1) rfl ?_ | (refine SL.isSL ?_; first | (refine SL.isN ?_; first | refine SL.nA ?_ | refine SL.alloc rfl rfl (fun b => ?_) | refine SL.box rfl rfl rfl (fun b => ?_)) | (refine SL.isG ?_; first | refine SL.gF rfl rfl rfl ?_ | refine SL.gU rfl rfl rfl ?_ | refine SL.gA ?_) | (refine SL.isSt ?_; refine SL.stA ?_) | refine SL.nil ?_ | (refine SL.isG ?_; first | refine SL.gCase rfl rfl (fun e => ?_) (fun e => ?_) | refine SL.gCaseN rfl rfl (fun e => ?_) (fun e => ?_))) | (refine St.isSt ?_; first | refine St.seq ?_ | refine St.region ?_ | refine St.block ?_ | refine St.ret ?_ | refine St.skip ?_ | refine St.exit ?_ | refine St.condT rfl ?_ | refine St.condF rfl ?_ | refine St.condY rfl (by omega) ?_ | refine St.condZ rfl (by omega) ?_) | (refine Qs.isQs ?_; first | refine Qs.then_normal ?_ | refine Qs.then_rounds ?_ | refine Qs.then_ret ?_ | refine Qs.then_exit ?_ | refine Qs.block_normal ?_ | refine Qs.block_ret ?_ | refine Qs.block_here ?_ | refine Qs.block_other rfl ?_) | refine RS.step ?_)
    refine SL.callP rfl (ihtb _) rfl (fun u1 g1 hle1 hu1 => ?_)
    obtain ⟨A1, c1, rfl, hc1, hr1⟩ := hu1
    refine SL.append rfl rfl ho0 rfl hr1 (by simp) (str_one _) rfl rfl rfl (by simp; omega) rfl (fun w1 ob1 ho1 => ?_)
    repeat' (first | (refine SL.isSL ?_; first | (refine SL.isN ?_; first | refine SL.nA ?_ | refine SL.alloc rfl rfl (fun b => ?_) | refine SL.box rfl rfl rfl (fun b => ?_)) | (refine SL.isG ?_; first | refine SL.gF rfl rfl rfl ?_ | refine SL.gU rfl rfl rfl ?_ | refine SL.gA ?_) | (refine SL.isSt ?_; refine SL.stA ?_) | refine SL.nil ?_ | (refine SL.isG ?_; first | refine SL.gCase rfl rfl (fun e => ?_) (fun e => ?_) | refine SL.gCaseN rfl rfl (fun e => ?_) (fun e => ?_))) | (refine St.isSt ?_; first | refine St.seq ?_ | refine St.region ?_ | refine St.block ?_ | refine St.ret ?_ | refine St.skip ?_ | refine St.exit ?_ | refine St.condT rfl ?_ | refine St.condF rfl ?_ | refine St.condY rfl (by omega) ?_ | refine St.condZ rfl (by omega) ?_) | (refine Qs.isQs ?_; first | refine Qs.then_normal ?_ | refine Qs.then_rounds ?_ | refine Qs.then_ret ?_ | refine Qs.then_exit ?_ | refine Qs.block_normal ?_ | refine Qs.block_ret ?_ | refine Qs.block_here ?_ | refine Qs.block_other rfl ?_) | refine RS.step ?_)
    refine Qs.ownS ho1 (List.Perm.refl _) (fun q hq => absurd hq (List.not_mem_nil)) (fun gz hlez hz => ?_)
    refine Qs.retP rfl rfl ?_
    rw [hl]
    simpa [Nat.add_assoc, Nat.add_comm, Nat.add_left_comm] using hz
theorem lab1 (t ta : Tm) (hk : kids t = [ta]) (hl : labels t = labels ta) (hca : cnt ta ≤ 1000000) (ihta : LabP ta) : LabP t := by
  intro h
  have ba := labels_cnt ta
  have hK : ∀ h, FnP Tryd.prog h 51 [enc t].toArray fun v h' => Sl h' v 1 [enc ta] := fun h => by have := Kids h t; rw [hk] at this; exact this
  refine FnP.enter Tryd.func33 rfl rfl rfl rfl fun w hg => ?_
  cases t <;> simp only [kids, List.cons.injEq, reduceCtorEq, and_true, and_false] at hk
  all_goals
    subst hk
    rename_i ta
    simp only [enc] at hK ⊢
    repeat' (first | (refine SL.isSL ?_; first | (refine SL.isN ?_; first | refine SL.nA ?_ | refine SL.alloc rfl rfl (fun b => ?_) | refine SL.box rfl rfl rfl (fun b => ?_)) | (refine SL.isG ?_; first | refine SL.gF rfl rfl rfl ?_ | refine SL.gU rfl rfl rfl ?_ | refine SL.gA ?_) | (refine SL.isSt ?_; refine SL.stA ?_) | refine SL.nil ?_ | (refine SL.isG ?_; first | refine SL.gCase rfl rfl (fun e => ?_) (fun e => ?_) | refine SL.gCaseN rfl rfl (fun e => ?_) (fun e => ?_))) | (refine St.isSt ?_; first | refine St.seq ?_ | refine St.region ?_ | refine St.block ?_ | refine St.ret ?_ | refine St.skip ?_ | refine St.exit ?_ | refine St.condT rfl ?_ | refine St.condF rfl ?_ | refine St.condY rfl (by omega) ?_ | refine St.condZ rfl (by omega) ?_) | (refine Qs.isQs ?_; first | refine Qs.then_normal ?_ | refine Qs.then_rounds ?_ | refine Qs.then_ret ?_ | refine Qs.then_exit ?_ | refine Qs.block_normal ?_ | refine Qs.block_ret ?_ | refine Qs.block_here ?_ | refine Qs.block_other rfl ?_) | refine RS.step ?_)
    refine SL.callP rfl (hK _) rfl (fun v h9 hle9 hv => ?_)
    obtain ⟨A, c, rfl, hc9, hr⟩ := hv
    obtain ⟨kb, off, ar, te, fr, rfl, hb, hat⟩ := hr (by simp)
    have k0 : ar[off + (0 : Int).toNat * 1]? = some (enc ta) := by simpa using hat 0 _ rfl
    repeat' (first | (refine SL.isSL ?_; first | (refine SL.isN ?_; first | refine SL.nA ?_ | refine SL.alloc rfl rfl (fun b => ?_) | refine SL.box rfl rfl rfl (fun b => ?_)) | (refine SL.isG ?_; first | refine SL.gF rfl rfl rfl ?_ | refine SL.gU rfl rfl rfl ?_ | refine SL.gA ?_) | (refine SL.isSt ?_; refine SL.stA ?_) | refine SL.nil ?_ | (refine SL.isG ?_; first | refine SL.gCase rfl rfl (fun e => ?_) (fun e => ?_) | refine SL.gCaseN rfl rfl (fun e => ?_) (fun e => ?_))) | (refine St.isSt ?_; first | refine St.seq ?_ | refine St.region ?_ | refine St.block ?_ | refine St.ret ?_ | refine St.skip ?_ | refine St.exit ?_ | refine St.condT rfl ?_ | refine St.condF rfl ?_ | refine St.condY rfl (by omega) ?_ | refine St.condZ rfl (by omega) ?_) | (refine Qs.isQs ?_; first | refine Qs.then_normal ?_ | refine Qs.then_rounds ?_ | refine Qs.then_ret ?_ | refine Qs.then_exit ?_ | refine Qs.block_normal ?_ | refine Qs.block_ret ?_ | refine Qs.block_here ?_ | refine Qs.block_other rfl ?_) | refine RS.step ?_)
    refine St.loopN 2 ?_
    repeat' (first | refine SL.n (NOp.idx rfl rfl (by simp)) rfl ?_ | refine SL.n (NOp.ldH rfl hb k0) rfl ?_ | (refine SL.isSL ?_; first | (refine SL.isN ?_; first | refine SL.nA ?_ | refine SL.alloc rfl rfl (fun b => ?_) | refine SL.box rfl rfl rfl (fun b => ?_)) | (refine SL.isG ?_; first | refine SL.gF rfl rfl rfl ?_ | refine SL.gU rfl rfl rfl ?_ | refine SL.gA ?_) | (refine SL.isSt ?_; refine SL.stA ?_) | refine SL.nil ?_ | (refine SL.isG ?_; first | refine SL.gCase rfl rfl (fun e => ?_) (fun e => ?_) | refine SL.gCaseN rfl rfl (fun e => ?_) (fun e => ?_))) | (refine St.isSt ?_; first | refine St.seq ?_ | refine St.region ?_ | refine St.block ?_ | refine St.ret ?_ | refine St.skip ?_ | refine St.exit ?_ | refine St.condT rfl ?_ | refine St.condF rfl ?_ | refine St.condY rfl (by omega) ?_ | refine St.condZ rfl (by omega) ?_) | (refine Qs.isQs ?_; first | refine Qs.then_normal ?_ | refine Qs.then_rounds ?_ | refine Qs.then_ret ?_ | refine Qs.then_exit ?_ | refine Qs.block_normal ?_ | refine Qs.block_ret ?_ | refine Qs.block_here ?_ | refine Qs.block_other rfl ?_) | refine RS.step ?_)
    refine SL.callP rfl (ihta _) rfl (fun u0 g0 hle0 hu0 => ?_)
    obtain ⟨A0, c0, rfl, hc0, hr0⟩ := hu0
    refine SL.append rfl rfl (OwnS.nil _ _) rfl hr0 (by simp) (str_one _) rfl rfl rfl (by simp; omega) rfl (fun w0 ob0 ho0 => ?_)
    repeat' (first | (refine SL.isSL ?_; first | (refine SL.isN ?_; first | refine SL.nA ?_ | refine SL.alloc rfl rfl (fun b => ?_) | refine SL.box rfl rfl rfl (fun b => ?_)) | (refine SL.isG ?_; first | refine SL.gF rfl rfl rfl ?_ | refine SL.gU rfl rfl rfl ?_ | refine SL.gA ?_) | (refine SL.isSt ?_; refine SL.stA ?_) | refine SL.nil ?_ | (refine SL.isG ?_; first | refine SL.gCase rfl rfl (fun e => ?_) (fun e => ?_) | refine SL.gCaseN rfl rfl (fun e => ?_) (fun e => ?_))) | (refine St.isSt ?_; first | refine St.seq ?_ | refine St.region ?_ | refine St.block ?_ | refine St.ret ?_ | refine St.skip ?_ | refine St.exit ?_ | refine St.condT rfl ?_ | refine St.condF rfl ?_ | refine St.condY rfl (by omega) ?_ | refine St.condZ rfl (by omega) ?_) | (refine Qs.isQs ?_; first | refine Qs.then_normal ?_ | refine Qs.then_rounds ?_ | refine Qs.then_ret ?_ | refine Qs.then_exit ?_ | refine Qs.block_normal ?_ | refine Qs.block_ret ?_ | refine Qs.block_here ?_ | refine Qs.block_other rfl ?_) | refine RS.step ?_)
    refine Qs.ownS ho0 (List.Perm.refl _) (fun q hq => absurd hq (List.not_mem_nil)) (fun gz hlez hz => ?_)
    refine Qs.retP rfl rfl ?_
    rw [hl]
    simpa [Nat.add_assoc, Nat.add_comm, Nat.add_left_comm] using hz
theorem lab0 (t : Tm) (hk : kids t = []) (hl : labels t = []) : LabP t := by
  intro h
  have hK : ∀ h, FnP Tryd.prog h 51 [enc t].toArray fun v h' => Sl h' v 0 [] := fun h => by have := Kids h t; rw [hk] at this; exact this
  refine FnP.enter Tryd.func33 rfl rfl rfl rfl fun w hg => ?_
  cases t <;> simp only [kids, List.cons.injEq, reduceCtorEq, and_true, and_false] at hk
  case v x =>
    rcases odd_ne (x := x) with e | ⟨t, y, e, h1, h2, h3, h4, h5, h6, h7, h8, h9, h10, h11, h12, h13, h14⟩
    all_goals
      simp only [enc, e] at hK ⊢
      repeat' (first | (refine SL.isSL ?_; first | (refine SL.isN ?_; first | refine SL.nA ?_ | refine SL.alloc rfl rfl (fun b => ?_) | refine SL.box rfl rfl rfl (fun b => ?_)) | (refine SL.isG ?_; first | refine SL.gF rfl rfl rfl ?_ | refine SL.gU rfl rfl rfl ?_ | refine SL.gA ?_) | (refine SL.isSt ?_; refine SL.stA ?_) | refine SL.nil ?_ | (refine SL.isG ?_; first | refine SL.gCase rfl rfl (fun e => ?_) (fun e => ?_) | refine SL.gCaseN rfl rfl (fun e => ?_) (fun e => ?_))) | (refine St.isSt ?_; first | refine St.seq ?_ | refine St.region ?_ | refine St.block ?_ | refine St.ret ?_ | refine St.skip ?_ | refine St.exit ?_ | refine St.condT rfl ?_ | refine St.condF rfl ?_ | refine St.condY rfl (by omega) ?_ | refine St.condZ rfl (by omega) ?_) | (refine Qs.isQs ?_; first | refine Qs.then_normal ?_ | refine Qs.then_rounds ?_ | refine Qs.then_ret ?_ | refine Qs.then_exit ?_ | refine Qs.block_normal ?_ | refine Qs.block_ret ?_ | refine Qs.block_here ?_ | refine Qs.block_other rfl ?_) | refine RS.step ?_)
      refine SL.callP rfl (hK _) rfl (fun v h9 hle9 hv => ?_)
      obtain ⟨A, c, rfl, hc9, hr⟩ := hv
      repeat' (first | (refine SL.isSL ?_; first | (refine SL.isN ?_; first | refine SL.nA ?_ | refine SL.alloc rfl rfl (fun b => ?_) | refine SL.box rfl rfl rfl (fun b => ?_)) | (refine SL.isG ?_; first | refine SL.gF rfl rfl rfl ?_ | refine SL.gU rfl rfl rfl ?_ | refine SL.gA ?_) | (refine SL.isSt ?_; refine SL.stA ?_) | refine SL.nil ?_ | (refine SL.isG ?_; first | refine SL.gCase rfl rfl (fun e => ?_) (fun e => ?_) | refine SL.gCaseN rfl rfl (fun e => ?_) (fun e => ?_))) | (refine St.isSt ?_; first | refine St.seq ?_ | refine St.region ?_ | refine St.block ?_ | refine St.ret ?_ | refine St.skip ?_ | refine St.exit ?_ | refine St.condT rfl ?_ | refine St.condF rfl ?_ | refine St.condY rfl (by omega) ?_ | refine St.condZ rfl (by omega) ?_) | (refine Qs.isQs ?_; first | refine Qs.then_normal ?_ | refine Qs.then_rounds ?_ | refine Qs.then_ret ?_ | refine Qs.then_exit ?_ | refine Qs.block_normal ?_ | refine Qs.block_ret ?_ | refine Qs.block_here ?_ | refine Qs.block_other rfl ?_) | refine RS.step ?_)
      refine St.loopN 1 ?_
      repeat' (first | (refine SL.isSL ?_; first | (refine SL.isN ?_; first | refine SL.nA ?_ | refine SL.alloc rfl rfl (fun b => ?_) | refine SL.box rfl rfl rfl (fun b => ?_)) | (refine SL.isG ?_; first | refine SL.gF rfl rfl rfl ?_ | refine SL.gU rfl rfl rfl ?_ | refine SL.gA ?_) | (refine SL.isSt ?_; refine SL.stA ?_) | refine SL.nil ?_ | (refine SL.isG ?_; first | refine SL.gCase rfl rfl (fun e => ?_) (fun e => ?_) | refine SL.gCaseN rfl rfl (fun e => ?_) (fun e => ?_))) | (refine St.isSt ?_; first | refine St.seq ?_ | refine St.region ?_ | refine St.block ?_ | refine St.ret ?_ | refine St.skip ?_ | refine St.exit ?_ | refine St.condT rfl ?_ | refine St.condF rfl ?_ | refine St.condY rfl (by omega) ?_ | refine St.condZ rfl (by omega) ?_) | (refine Qs.isQs ?_; first | refine Qs.then_normal ?_ | refine Qs.then_rounds ?_ | refine Qs.then_ret ?_ | refine Qs.then_exit ?_ | refine Qs.block_normal ?_ | refine Qs.block_ret ?_ | refine Qs.block_here ?_ | refine Qs.block_other rfl ?_) | refine RS.step ?_)
      refine Qs.ownS (OwnS.nil 9 1) (List.Perm.refl _) (fun q hq => absurd hq (List.not_mem_nil)) (fun gz hlez hz => ?_)
      refine Qs.retP rfl rfl ?_
      rw [hl]
      simpa [Nat.add_assoc, Nat.add_comm, Nat.add_left_comm] using hz
  all_goals
    simp only [enc] at hK ⊢
    repeat' (first | (refine SL.isSL ?_; first | (refine SL.isN ?_; first | refine SL.nA ?_ | refine SL.alloc rfl rfl (fun b => ?_) | refine SL.box rfl rfl rfl (fun b => ?_)) | (refine SL.isG ?_; first | refine SL.gF rfl rfl rfl ?_ | refine SL.gU rfl rfl rfl ?_ | refine SL.gA ?_) | (refine SL.isSt ?_; refine SL.stA ?_) | refine SL.nil ?_ | (refine SL.isG ?_; first | refine SL.gCase rfl rfl (fun e => ?_) (fun e => ?_) | refine SL.gCaseN rfl rfl (fun e => ?_) (fun e => ?_))) | (refine St.isSt ?_; first | refine St.seq ?_ | refine St.region ?_ | refine St.block ?_ | refine St.ret ?_ | refine St.skip ?_ | refine St.exit ?_ | refine St.condT rfl ?_ | refine St.condF rfl ?_ | refine St.condY rfl (by omega) ?_ | refine St.condZ rfl (by omega) ?_) | (refine Qs.isQs ?_; first | refine Qs.then_normal ?_ | refine Qs.then_rounds ?_ | refine Qs.then_ret ?_ | refine Qs.then_exit ?_ | refine Qs.block_normal ?_ | refine Qs.block_ret ?_ | refine Qs.block_here ?_ | refine Qs.block_other rfl ?_) | refine RS.step ?_)
    refine SL.callP rfl (hK _) rfl (fun v h9 hle9 hv => ?_)
    obtain ⟨A, c, rfl, hc9, hr⟩ := hv
    repeat' (first | (refine SL.isSL ?_; first | (refine SL.isN ?_; first | refine SL.nA ?_ | refine SL.alloc rfl rfl (fun b => ?_) | refine SL.box rfl rfl rfl (fun b => ?_)) | (refine SL.isG ?_; first | refine SL.gF rfl rfl rfl ?_ | refine SL.gU rfl rfl rfl ?_ | refine SL.gA ?_) | (refine SL.isSt ?_; refine SL.stA ?_) | refine SL.nil ?_ | (refine SL.isG ?_; first | refine SL.gCase rfl rfl (fun e => ?_) (fun e => ?_) | refine SL.gCaseN rfl rfl (fun e => ?_) (fun e => ?_))) | (refine St.isSt ?_; first | refine St.seq ?_ | refine St.region ?_ | refine St.block ?_ | refine St.ret ?_ | refine St.skip ?_ | refine St.exit ?_ | refine St.condT rfl ?_ | refine St.condF rfl ?_ | refine St.condY rfl (by omega) ?_ | refine St.condZ rfl (by omega) ?_) | (refine Qs.isQs ?_; first | refine Qs.then_normal ?_ | refine Qs.then_rounds ?_ | refine Qs.then_ret ?_ | refine Qs.then_exit ?_ | refine Qs.block_normal ?_ | refine Qs.block_ret ?_ | refine Qs.block_here ?_ | refine Qs.block_other rfl ?_) | refine RS.step ?_)
    refine St.loopN 1 ?_
    repeat' (first | (refine SL.isSL ?_; first | (refine SL.isN ?_; first | refine SL.nA ?_ | refine SL.alloc rfl rfl (fun b => ?_) | refine SL.box rfl rfl rfl (fun b => ?_)) | (refine SL.isG ?_; first | refine SL.gF rfl rfl rfl ?_ | refine SL.gU rfl rfl rfl ?_ | refine SL.gA ?_) | (refine SL.isSt ?_; refine SL.stA ?_) | refine SL.nil ?_ | (refine SL.isG ?_; first | refine SL.gCase rfl rfl (fun e => ?_) (fun e => ?_) | refine SL.gCaseN rfl rfl (fun e => ?_) (fun e => ?_))) | (refine St.isSt ?_; first | refine St.seq ?_ | refine St.region ?_ | refine St.block ?_ | refine St.ret ?_ | refine St.skip ?_ | refine St.exit ?_ | refine St.condT rfl ?_ | refine St.condF rfl ?_ | refine St.condY rfl (by omega) ?_ | refine St.condZ rfl (by omega) ?_) | (refine Qs.isQs ?_; first | refine Qs.then_normal ?_ | refine Qs.then_rounds ?_ | refine Qs.then_ret ?_ | refine Qs.then_exit ?_ | refine Qs.block_normal ?_ | refine Qs.block_ret ?_ | refine Qs.block_here ?_ | refine Qs.block_other rfl ?_) | refine RS.step ?_)
    refine Qs.ownS (OwnS.nil 9 1) (List.Perm.refl _) (fun q hq => absurd hq (List.not_mem_nil)) (fun gz hlez hz => ?_)
    refine Qs.retP rfl rfl ?_
    rw [hl]
    simpa [Nat.add_assoc, Nat.add_comm, Nat.add_left_comm] using hz
theorem labr (s : ByteArray) (ta tb : Tm) (hl : labels (.r s ta tb) = s :: (labels ta ++ labels tb)) (hca : cnt ta ≤ 1000000) (hcb : cnt tb ≤ 1000000) (ihta : LabP ta) (ihtb : LabP tb) : LabP (.r s ta tb) := by
  intro h
  have ba := labels_cnt ta
  have bb := labels_cnt tb
  have hK : ∀ h, FnP Tryd.prog h 51 [enc (.r s ta tb)].toArray fun v h' => Sl h' v 2 [enc ta, enc tb] := fun h => Kids h (.r s ta tb)
  refine FnP.enter Tryd.func33 rfl rfl rfl rfl fun w hg => ?_
  simp only [enc] at hK ⊢
  repeat' (first | (refine SL.isSL ?_; first | (refine SL.isN ?_; first | refine SL.nA ?_ | refine SL.alloc rfl rfl (fun b => ?_) | refine SL.box rfl rfl rfl (fun b => ?_)) | (refine SL.isG ?_; first | refine SL.gF rfl rfl rfl ?_ | refine SL.gU rfl rfl rfl ?_ | refine SL.gA ?_) | (refine SL.isSt ?_; refine SL.stA ?_) | refine SL.nil ?_ | (refine SL.isG ?_; first | refine SL.gCase rfl rfl (fun e => ?_) (fun e => ?_) | refine SL.gCaseN rfl rfl (fun e => ?_) (fun e => ?_))) | (refine St.isSt ?_; first | refine St.seq ?_ | refine St.region ?_ | refine St.block ?_ | refine St.ret ?_ | refine St.skip ?_ | refine St.exit ?_ | refine St.condT rfl ?_ | refine St.condF rfl ?_ | refine St.condY rfl (by omega) ?_ | refine St.condZ rfl (by omega) ?_) | (refine Qs.isQs ?_; first | refine Qs.then_normal ?_ | refine Qs.then_rounds ?_ | refine Qs.then_ret ?_ | refine Qs.then_exit ?_ | refine Qs.block_normal ?_ | refine Qs.block_ret ?_ | refine Qs.block_here ?_ | refine Qs.block_other rfl ?_) | refine RS.step ?_)
  refine SL.lit rfl (by repeat (first | exact CellsL.nil | apply CellsL.cons rfl | apply CellsL.cons (cells_enc _) | apply CellsL.cons (One.cells (by assumption)))) rfl rfl rfl rfl rfl rfl (fun b h1 hle hb => ?_)
  refine SL.append rfl rfl (OwnS.nil _ _) rfl (Rd.lit hb) rfl (str_one [s]) rfl rfl rfl (by omega) rfl (fun w9 ob9 ho9 => ?_)
  repeat' (first | (refine SL.isSL ?_; first | (refine SL.isN ?_; first | refine SL.nA ?_ | refine SL.alloc rfl rfl (fun b => ?_) | refine SL.box rfl rfl rfl (fun b => ?_)) | (refine SL.isG ?_; first | refine SL.gF rfl rfl rfl ?_ | refine SL.gU rfl rfl rfl ?_ | refine SL.gA ?_) | (refine SL.isSt ?_; refine SL.stA ?_) | refine SL.nil ?_ | (refine SL.isG ?_; first | refine SL.gCase rfl rfl (fun e => ?_) (fun e => ?_) | refine SL.gCaseN rfl rfl (fun e => ?_) (fun e => ?_))) | (refine St.isSt ?_; first | refine St.seq ?_ | refine St.region ?_ | refine St.block ?_ | refine St.ret ?_ | refine St.skip ?_ | refine St.exit ?_ | refine St.condT rfl ?_ | refine St.condF rfl ?_ | refine St.condY rfl (by omega) ?_ | refine St.condZ rfl (by omega) ?_) | (refine Qs.isQs ?_; first | refine Qs.then_normal ?_ | refine Qs.then_rounds ?_ | refine Qs.then_ret ?_ | refine Qs.then_exit ?_ | refine Qs.block_normal ?_ | refine Qs.block_ret ?_ | refine Qs.block_here ?_ | refine Qs.block_other rfl ?_) | refine RS.step ?_)
  have hb8 := hb
  clear hb
  refine SL.callP rfl (hK _) rfl (fun v h9 hle9 hv => ?_)
  obtain ⟨A, c, rfl, hc9, hr⟩ := hv
  obtain ⟨kb, off, ar, te, fr, rfl, hb, hat⟩ := hr (by simp)
  have k0 : ar[off + (0 : Int).toNat * 1]? = some (enc ta) := by simpa using hat 0 _ rfl
  have k1 : ar[off + (0 + 1 : Int).toNat * 1]? = some (enc tb) := by simpa using hat 1 _ rfl
  repeat' (first | (refine SL.isSL ?_; first | (refine SL.isN ?_; first | refine SL.nA ?_ | refine SL.alloc rfl rfl (fun b => ?_) | refine SL.box rfl rfl rfl (fun b => ?_)) | (refine SL.isG ?_; first | refine SL.gF rfl rfl rfl ?_ | refine SL.gU rfl rfl rfl ?_ | refine SL.gA ?_) | (refine SL.isSt ?_; refine SL.stA ?_) | refine SL.nil ?_ | (refine SL.isG ?_; first | refine SL.gCase rfl rfl (fun e => ?_) (fun e => ?_) | refine SL.gCaseN rfl rfl (fun e => ?_) (fun e => ?_))) | (refine St.isSt ?_; first | refine St.seq ?_ | refine St.region ?_ | refine St.block ?_ | refine St.ret ?_ | refine St.skip ?_ | refine St.exit ?_ | refine St.condT rfl ?_ | refine St.condF rfl ?_ | refine St.condY rfl (by omega) ?_ | refine St.condZ rfl (by omega) ?_) | (refine Qs.isQs ?_; first | refine Qs.then_normal ?_ | refine Qs.then_rounds ?_ | refine Qs.then_ret ?_ | refine Qs.then_exit ?_ | refine Qs.block_normal ?_ | refine Qs.block_ret ?_ | refine Qs.block_here ?_ | refine Qs.block_other rfl ?_) | refine RS.step ?_)
  refine St.loopN 3 ?_
  repeat' (first | refine SL.n (NOp.idx rfl rfl (by simp)) rfl ?_ | refine SL.n (NOp.ldH rfl hb k0) rfl ?_ | (refine SL.isSL ?_; first | (refine SL.isN ?_; first | refine SL.nA ?_ | refine SL.alloc rfl rfl (fun b => ?_) | refine SL.box rfl rfl rfl (fun b => ?_)) | (refine SL.isG ?_; first | refine SL.gF rfl rfl rfl ?_ | refine SL.gU rfl rfl rfl ?_ | refine SL.gA ?_) | (refine SL.isSt ?_; refine SL.stA ?_) | refine SL.nil ?_ | (refine SL.isG ?_; first | refine SL.gCase rfl rfl (fun e => ?_) (fun e => ?_) | refine SL.gCaseN rfl rfl (fun e => ?_) (fun e => ?_))) | (refine St.isSt ?_; first | refine St.seq ?_ | refine St.region ?_ | refine St.block ?_ | refine St.ret ?_ | refine St.skip ?_ | refine St.exit ?_ | refine St.condT rfl ?_ | refine St.condF rfl ?_ | refine St.condY rfl (by omega) ?_ | refine St.condZ rfl (by omega) ?_) | (refine Qs.isQs ?_; first | refine Qs.then_normal ?_ | refine Qs.then_rounds ?_ | refine Qs.then_ret ?_ | refine Qs.then_exit ?_ | refine Qs.block_normal ?_ | refine Qs.block_ret ?_ | refine Qs.block_here ?_ | refine Qs.block_other rfl ?_) | refine RS.step ?_)
  refine SL.callP rfl (ihta _) rfl (fun u0 g0 hle0 hu0 => ?_)
  obtain ⟨A0, c0, rfl, hc0, hr0⟩ := hu0
  refine SL.append rfl rfl ho9 rfl hr0 (by simp) (str_one _) rfl rfl rfl (by simp; omega) rfl (fun w0 ob0 ho0 => ?_)
  repeat' (first | refine SL.n (NOp.idx rfl rfl (by simp)) rfl ?_ | refine SL.n (NOp.ldH rfl (hle0 _ _ hb) k1) rfl ?_ | (refine SL.isSL ?_; first | (refine SL.isN ?_; first | refine SL.nA ?_ | refine SL.alloc rfl rfl (fun b => ?_) | refine SL.box rfl rfl rfl (fun b => ?_)) | (refine SL.isG ?_; first | refine SL.gF rfl rfl rfl ?_ | refine SL.gU rfl rfl rfl ?_ | refine SL.gA ?_) | (refine SL.isSt ?_; refine SL.stA ?_) | refine SL.nil ?_ | (refine SL.isG ?_; first | refine SL.gCase rfl rfl (fun e => ?_) (fun e => ?_) | refine SL.gCaseN rfl rfl (fun e => ?_) (fun e => ?_))) | (refine St.isSt ?_; first | refine St.seq ?_ | refine St.region ?_ | refine St.block ?_ | refine St.ret ?_ | refine St.skip ?_ | refine St.exit ?_ | refine St.condT rfl ?_ | refine St.condF rfl ?_ | refine St.condY rfl (by omega) ?_ | refine St.condZ rfl (by omega) ?_) | (refine Qs.isQs ?_; first | refine Qs.then_normal ?_ | refine Qs.then_rounds ?_ | refine Qs.then_ret ?_ | refine Qs.then_exit ?_ | refine Qs.block_normal ?_ | refine Qs.block_ret ?_ | refine Qs.block_here ?_ | refine Qs.block_other rfl ?_) | refine RS.step ?_)
  refine SL.callP rfl (ihtb _) rfl (fun u1 g1 hle1 hu1 => ?_)
  obtain ⟨A1, c1, rfl, hc1, hr1⟩ := hu1
  refine SL.append rfl rfl ho0 rfl hr1 (by simp) (str_one _) rfl rfl rfl (by simp; omega) rfl (fun w1 ob1 ho1 => ?_)
  repeat' (first | (refine SL.isSL ?_; first | (refine SL.isN ?_; first | refine SL.nA ?_ | refine SL.alloc rfl rfl (fun b => ?_) | refine SL.box rfl rfl rfl (fun b => ?_)) | (refine SL.isG ?_; first | refine SL.gF rfl rfl rfl ?_ | refine SL.gU rfl rfl rfl ?_ | refine SL.gA ?_) | (refine SL.isSt ?_; refine SL.stA ?_) | refine SL.nil ?_ | (refine SL.isG ?_; first | refine SL.gCase rfl rfl (fun e => ?_) (fun e => ?_) | refine SL.gCaseN rfl rfl (fun e => ?_) (fun e => ?_))) | (refine St.isSt ?_; first | refine St.seq ?_ | refine St.region ?_ | refine St.block ?_ | refine St.ret ?_ | refine St.skip ?_ | refine St.exit ?_ | refine St.condT rfl ?_ | refine St.condF rfl ?_ | refine St.condY rfl (by omega) ?_ | refine St.condZ rfl (by omega) ?_) | (refine Qs.isQs ?_; first | refine Qs.then_normal ?_ | refine Qs.then_rounds ?_ | refine Qs.then_ret ?_ | refine Qs.then_exit ?_ | refine Qs.block_normal ?_ | refine Qs.block_ret ?_ | refine Qs.block_here ?_ | refine Qs.block_other rfl ?_) | refine RS.step ?_)
  refine Qs.ownS ho1 (List.Perm.refl _) (fun q hq => absurd hq (List.not_mem_nil)) (fun gz hlez hz => ?_)
  refine Qs.retP rfl rfl ?_
  rw [hl]
  simpa [Nat.add_assoc, Nat.add_comm, Nat.add_left_comm] using hz
theorem Labels (t : Tm) : cnt t ≤ 1000000 → LabP t := by
  intro hc
  induction t with
  | g a ih => simp only [cnt] at hc; exact lab1 _ a rfl rfl (by omega) (ih (by omega))
  | w d a ih => simp only [cnt] at hc; exact lab1 _ a rfl rfl (by omega) (ih (by omega))
  | s o a _ ih => simp only [cnt] at hc; exact lab1 _ a rfl rfl (by omega) (ih (by omega))
  | a l r ihl ihr => simp only [cnt] at hc; exact lab2 _ l r rfl (by simp) rfl (by omega) (by omega) (ihl (by omega)) (ihr (by omega))
  | i o l r _ ihl ihr => simp only [cnt] at hc; exact lab2 _ l r rfl (by simp) rfl (by omega) (by omega) (ihl (by omega)) (ihr (by omega))
  | r s l r ihl ihr => simp only [cnt] at hc; exact labr s l r rfl (by omega) (by omega) (ihl (by omega)) (ihr (by omega))
  | _ => exact lab0 _ rfl rfl
end Go.Proofs.YtfookachkcgdpaaDoor
