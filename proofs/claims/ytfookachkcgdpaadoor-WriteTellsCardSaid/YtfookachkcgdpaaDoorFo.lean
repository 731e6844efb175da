/- The reference's form of a tree: the walk. Plain theorems; no condition. -/
import Derived.Test.YtfookachkcgdpaaDoorPu
import Derived.Test.YtfookachkcgdpaaDoorM5
set_option linter.unusedVariables false
set_option linter.unusedSimpArgs false
set_option maxRecDepth 100000
set_option maxHeartbeats 8000000
namespace Go.Proofs.YtfookachkcgdpaaDoor
open Go.RowKit
/-- What stands as a kid's question: is it one of a number? -/
def ru (k : Int) (u : Bool) (i : Nat) : Bool := if i = 0 then rfst k u else u
theorem rfk_ok {k : Int} {u : Bool} {l : List Tr} (h : ∀ i a, l[i]? = some a → rform a (ru k u i) = true) : rfk k u l = true := by
  cases l with
  | nil => rfl
  | cons a l =>
    simp only [rfk, Bool.and_eq_true, List.all_eq_true]
    refine ⟨by simpa [ru] using h 0 a rfl, fun x hx => ?_⟩
    obtain ⟨i, hi⟩ := List.getElem?_of_mem hx
    simpa [ru] using h (i + 1) x (by simpa using hi)
theorem rfk_no {k : Int} {u : Bool} {l : List Tr} {i : Nat} {a : Tr} (hi : l[i]? = some a) (h : rform a (ru k u i) = false) : rfk k u l = false := by
  cases l with
  | nil => simp at hi
  | cons b l =>
    cases i with
    | zero => simp at hi; subst hi; simp [rfk]; simp [ru] at h; simp [h]
    | succ i =>
      simp only [List.getElem?_cons_succ] at hi
      simp [ru] at h
      have hm : a ∈ l := List.mem_of_getElem? hi
      simp only [rfk, Bool.and_eq_false_iff, List.all_eq_false]
      exact .inr ⟨a, hm, by simp [h]⟩
theorem rtsz_kid {t a : Tr} (h : a ∈ t.kids) : rtsz a ≤ rtsz t := by
  rw [rtsz_eq t]
  have : rtsz a ≤ rtsum t.kids := by
    unfold rtsum
    generalize t.kids = l at h
    induction l with
    | nil => simp at h
    | cons b l ih =>
      simp only [List.map_cons, List.sum_cons]
      rcases List.mem_cons.1 h with rfl | h
      · omega
      · have := ih h; omega
  omega
attribute [local irreducible] St SL Qs NOp TK SQ RS Fn FnV FnP

theorem RForm_v : ∀ m (t : Tr), rcnt t ≤ m → rtsz t ≤ 1000000 → ∀ (u : Bool) (h : GH) (K : Value), TK_ h t K → FnV Tryd.prog h 37 [TrV t K, .bool u].toArray (.bool (rform t u)) := by
  intro m
  induction m with
  | zero => intro t ht; exfalso; have := rkids_sum t; omega
  | succ m ih =>
    intro t ht hsz u h K hK
    obtain ⟨A, c, rfl, hc, hkid⟩ := hK.view
    have hk3 := rkids_len t
    have hre0 := rtsz_eq t
    have hnm := RName_v h t.s (by omega)
    refine FnV.enter Tryd.func37 rfl rfl rfl rfl fun w hg => ?_
    simp only [TrV, fl]
    repeat' (first | refine St.cutR 1 (α := Unit) (fun _ => [(2, .pointer (some ⟨b, 0, none⟩)), (1, .bool u)]) (fun _ => h) (fun _ => [(b, cel [.int .i64 t.kind, .string t.s, .int .i64 t.n, .slice A t.kids.length c] 29)]) (fun _ => rkd t.kind t.s t.n = true) ?_ ?_ | (refine SL.isSL ?_; first | (refine SL.isN ?_; first | refine SL.nA ?_ | refine SL.alloc rfl rfl (fun b => ?_) | refine SL.box rfl rfl rfl (fun b => ?_)) | (refine SL.isG ?_; first | refine SL.gF rfl rfl rfl ?_ | refine SL.gU rfl rfl rfl ?_ | refine SL.gA ?_) | (refine SL.isSt ?_; refine SL.stA ?_) | refine SL.nil ?_ | (refine SL.isG ?_; first | refine SL.gCase rfl rfl (fun e => ?_) (fun e => ?_) | refine SL.gCaseN rfl rfl (fun e => ?_) (fun e => ?_))) | (refine St.isSt ?_; first | refine St.seq ?_ | refine St.region ?_ | refine St.block ?_ | refine St.ret ?_ | refine St.skip ?_ | refine St.exit ?_ | refine St.condT rfl ?_ | refine St.condF rfl ?_ | refine St.condY rfl (by omega) ?_ | refine St.condZ rfl (by omega) ?_) | (refine Qs.isQs ?_; first | refine Qs.then_normal ?_ | refine Qs.then_rounds ?_ | refine Qs.then_ret ?_ | refine Qs.then_exit ?_ | refine Qs.block_normal ?_ | refine Qs.block_ret ?_ | refine Qs.block_here ?_ | refine Qs.block_other rfl ?_) | refine RS.step ?_)
    · cases hnb : nameB t.s <;> rw [hnb] at hnm
      all_goals repeat' (first | (refine St.isSt ?_; first | refine St.condT rfl ?_ | refine St.condF rfl ?_ | refine St.condY rfl (by omega) ?_ | refine St.condZ rfl (by omega) ?_ | refine St.condD rfl (fun e => ?_) (fun e => ?_) | refine St.condN rfl (fun e => ?_) (fun e => ?_)) | (refine SL.isSL ?_; first | (refine SL.isCallF 56 ?_; first | (refine SL.isN ?_; refine SL.callV rfl (hnm) rfl ?_) | (refine SL.isG ?_; refine SL.callVT rfl rfl rfl (hnm) rfl ?_)) | (refine SL.isCallF 57 ?_; first | (refine SL.isN ?_; refine SL.callV rfl (RValid_v _ _) rfl ?_) | (refine SL.isG ?_; refine SL.callVT rfl rfl rfl (RValid_v _ _) rfl ?_)) | (refine SL.isN ?_; first | refine SL.nA ?_ | refine SL.alloc rfl rfl (fun b => ?_) | refine SL.box rfl rfl rfl (fun b => ?_)) | (refine SL.isG ?_; first | refine SL.gF rfl rfl rfl ?_ | refine SL.gU rfl rfl rfl ?_ | refine SL.gA ?_) | (refine SL.isSt ?_; refine SL.stA ?_) | refine SL.nil ?_ | (refine SL.isG ?_; first | refine SL.gCase rfl rfl (fun e => ?_) (fun e => ?_) | refine SL.gCaseN rfl rfl (fun e => ?_) (fun e => ?_))) | (refine St.isSt ?_; first | refine St.seq ?_ | refine St.region ?_ | refine St.block ?_ | refine St.ret ?_ | refine St.skip ?_ | refine St.exit ?_ | refine St.condT rfl ?_ | refine St.condF rfl ?_ | refine St.condY rfl (by omega) ?_ | refine St.condZ rfl (by omega) ?_) | (refine Qs.isQs ?_; first | refine Qs.then_normal ?_ | refine Qs.then_rounds ?_ | refine Qs.then_ret ?_ | refine Qs.then_exit ?_ | refine Qs.block_normal ?_ | refine Qs.block_ret ?_ | refine Qs.block_here ?_ | refine Qs.block_other rfl ?_) | refine RS.step ?_)
      all_goals first
        | (refine Some_.intro () ?_ (fun _ _ z => z) rfl rfl ?_
           · first | (simp [rkd, *]; done) | (simp [rkd, *]; omega)
           · exact ⟨rfl, rfl, trivial⟩)
        | (refine Qs.retVe rfl rfl rfl ?_
           have e0 : rkd t.kind t.s t.n = false := by first | (simp [rkd, *]; done) | (simp [rkd, *]; omega)
           rw [rform_eq, rnode, e0]
           rfl)
    · rintro ⟨⟩ hkd
      cases hn1 : (decide (11 ≤ t.kind) == u)
      · repeat' (first | refine SL.n (NOp.geq rfl rfl) rfl ?_ | refine SL.n (NOp.neqB rfl rfl) rfl ?_ | (refine SL.isSL ?_; first | (refine SL.isN ?_; first | refine SL.nA ?_ | refine SL.alloc rfl rfl (fun b => ?_) | refine SL.box rfl rfl rfl (fun b => ?_)) | (refine SL.isG ?_; first | refine SL.gF rfl rfl rfl ?_ | refine SL.gU rfl rfl rfl ?_ | refine SL.gA ?_) | (refine SL.isSt ?_; refine SL.stA ?_) | refine SL.nil ?_ | (refine SL.isG ?_; first | refine SL.gCase rfl rfl (fun e => ?_) (fun e => ?_) | refine SL.gCaseN rfl rfl (fun e => ?_) (fun e => ?_))) | (refine St.isSt ?_; first | refine St.seq ?_ | refine St.region ?_ | refine St.block ?_ | refine St.ret ?_ | refine St.skip ?_ | refine St.exit ?_ | refine St.condT rfl ?_ | refine St.condF rfl ?_ | refine St.condY rfl (by omega) ?_ | refine St.condZ rfl (by omega) ?_) | (refine Qs.isQs ?_; first | refine Qs.then_normal ?_ | refine Qs.then_rounds ?_ | refine Qs.then_ret ?_ | refine Qs.then_exit ?_ | refine Qs.block_normal ?_ | refine Qs.block_ret ?_ | refine Qs.block_here ?_ | refine Qs.block_other rfl ?_) | refine RS.step ?_)
        refine St.condB rfl (fun e => ?_) (fun e => ?_)
        · repeat' (first | (refine SL.isSL ?_; first | (refine SL.isN ?_; first | refine SL.nA ?_ | refine SL.alloc rfl rfl (fun b => ?_) | refine SL.box rfl rfl rfl (fun b => ?_)) | (refine SL.isG ?_; first | refine SL.gF rfl rfl rfl ?_ | refine SL.gU rfl rfl rfl ?_ | refine SL.gA ?_) | (refine SL.isSt ?_; refine SL.stA ?_) | refine SL.nil ?_ | (refine SL.isG ?_; first | refine SL.gCase rfl rfl (fun e => ?_) (fun e => ?_) | refine SL.gCaseN rfl rfl (fun e => ?_) (fun e => ?_))) | (refine St.isSt ?_; first | refine St.seq ?_ | refine St.region ?_ | refine St.block ?_ | refine St.ret ?_ | refine St.skip ?_ | refine St.exit ?_ | refine St.condT rfl ?_ | refine St.condF rfl ?_ | refine St.condY rfl (by omega) ?_ | refine St.condZ rfl (by omega) ?_) | (refine Qs.isQs ?_; first | refine Qs.then_normal ?_ | refine Qs.then_rounds ?_ | refine Qs.then_ret ?_ | refine Qs.then_exit ?_ | refine Qs.block_normal ?_ | refine Qs.block_ret ?_ | refine Qs.block_here ?_ | refine Qs.block_other rfl ?_) | refine RS.step ?_)
          refine Qs.retVe rfl rfl rfl ?_
          rw [rform_eq, rnode, hn1]
          simp
        · rw [hn1] at e; cases e
      · repeat' (first | refine SL.n (NOp.geq rfl rfl) rfl ?_ | refine SL.n (NOp.neqB rfl rfl) rfl ?_ | (refine SL.isSL ?_; first | (refine SL.isN ?_; first | refine SL.nA ?_ | refine SL.alloc rfl rfl (fun b => ?_) | refine SL.box rfl rfl rfl (fun b => ?_)) | (refine SL.isG ?_; first | refine SL.gF rfl rfl rfl ?_ | refine SL.gU rfl rfl rfl ?_ | refine SL.gA ?_) | (refine SL.isSt ?_; refine SL.stA ?_) | refine SL.nil ?_ | (refine SL.isG ?_; first | refine SL.gCase rfl rfl (fun e => ?_) (fun e => ?_) | refine SL.gCaseN rfl rfl (fun e => ?_) (fun e => ?_))) | (refine St.isSt ?_; first | refine St.seq ?_ | refine St.region ?_ | refine St.block ?_ | refine St.ret ?_ | refine St.skip ?_ | refine St.exit ?_ | refine St.condT rfl ?_ | refine St.condF rfl ?_ | refine St.condY rfl (by omega) ?_ | refine St.condZ rfl (by omega) ?_) | (refine Qs.isQs ?_; first | refine Qs.then_normal ?_ | refine Qs.then_rounds ?_ | refine Qs.then_ret ?_ | refine Qs.then_exit ?_ | refine Qs.block_normal ?_ | refine Qs.block_ret ?_ | refine Qs.block_here ?_ | refine Qs.block_other rfl ?_) | refine RS.step ?_)
        refine St.condB rfl (fun e => ?_) (fun e => ?_)
        · rw [hn1] at e; cases e
        have hnode : rnode t.kind t.s t.n u = true := by rw [rnode, hkd, hn1]; rfl
        generalize hks : t.kids = ks at hc hkid hk3 hre0 ⊢
        repeat' (first | (refine SL.isSL ?_; first | (refine SL.isN ?_; first | refine SL.nA ?_ | refine SL.alloc rfl rfl (fun b => ?_) | refine SL.box rfl rfl rfl (fun b => ?_)) | (refine SL.isG ?_; first | refine SL.gF rfl rfl rfl ?_ | refine SL.gU rfl rfl rfl ?_ | refine SL.gA ?_) | (refine SL.isSt ?_; refine SL.stA ?_) | refine SL.nil ?_ | (refine SL.isG ?_; first | refine SL.gCase rfl rfl (fun e => ?_) (fun e => ?_) | refine SL.gCaseN rfl rfl (fun e => ?_) (fun e => ?_))) | (refine St.isSt ?_; first | refine St.seq ?_ | refine St.region ?_ | refine St.block ?_ | refine St.ret ?_ | refine St.skip ?_ | refine St.exit ?_ | refine St.condT rfl ?_ | refine St.condF rfl ?_ | refine St.condY rfl (by omega) ?_ | refine St.condZ rfl (by omega) ?_) | (refine Qs.isQs ?_; first | refine Qs.then_normal ?_ | refine Qs.then_rounds ?_ | refine Qs.then_ret ?_ | refine Qs.then_exit ?_ | refine Qs.block_normal ?_ | refine Qs.block_ret ?_ | refine Qs.block_here ?_ | refine Qs.block_other rfl ?_) | refine RS.step ?_)
        refine St.loop (α := List Tr × List Tr) (fun p => [(2, .pointer (some ⟨b, 0, none⟩)), (1, .bool u), (49, .int .i64 ks.length), (50, .int .i64 p.1.length)]) (fun _ => h) (fun _ => [(b, cel [.int .i64 t.kind, .string t.s, .int .i64 t.n, .slice A ks.length c] 29)]) (fun p => ks = p.1 ++ p.2 ∧ ∀ i a, p.1[i]? = some a → rform a (ru t.kind u i) = true) (fun p => p.2.length) ([], ks) ⟨rfl, by simp⟩ rfl (by rfl) (by repeat (first | exact trivial | refine ⟨rfl, ?_⟩)) ?_
        rintro ⟨pre, rest⟩ ⟨el, hall⟩
        dsimp only at el hall ⊢
        have hpl : ks.length = pre.length + rest.length := by rw [el]; simp
        cases rest with
        | nil =>
          simp only [List.length_nil, List.append_nil] at hpl el
          repeat' (first | (refine SL.isSL ?_; first | (refine SL.isN ?_; first | refine SL.nA ?_ | refine SL.alloc rfl rfl (fun b => ?_) | refine SL.box rfl rfl rfl (fun b => ?_)) | (refine SL.isG ?_; first | refine SL.gF rfl rfl rfl ?_ | refine SL.gU rfl rfl rfl ?_ | refine SL.gA ?_) | (refine SL.isSt ?_; refine SL.stA ?_) | refine SL.nil ?_ | (refine SL.isG ?_; first | refine SL.gCase rfl rfl (fun e => ?_) (fun e => ?_) | refine SL.gCaseN rfl rfl (fun e => ?_) (fun e => ?_))) | (refine St.isSt ?_; first | refine St.seq ?_ | refine St.region ?_ | refine St.block ?_ | refine St.ret ?_ | refine St.skip ?_ | refine St.exit ?_ | refine St.condT rfl ?_ | refine St.condF rfl ?_ | refine St.condY rfl (by omega) ?_ | refine St.condZ rfl (by omega) ?_) | (refine Qs.isQs ?_; first | refine Qs.then_normal ?_ | refine Qs.then_rounds ?_ | refine Qs.then_ret ?_ | refine Qs.then_exit ?_ | refine Qs.block_normal ?_ | refine Qs.block_ret ?_ | refine Qs.block_here ?_ | refine Qs.block_other rfl ?_) | refine RS.step ?_)
          refine Qs.retVe rfl rfl rfl ?_
          rw [rform_eq, hnode, hks, el, rfk_ok hall]
          rfl
        | cons a rest =>
          simp only [List.length_cons] at hpl
          obtain ⟨kb, off, ar, te, fr, Ki, rfl, hb, hTK, hat⟩ := hkid pre.length a (by rw [el]; simp)
          have hmem : a ∈ t.kids := by rw [hks, el]; simp
          have hca := rkids_cnt hmem
          have hza := rtsz_kid hmem
          have hat' : ∀ j v, (fl a.kind a.s a.n Ki)[j]? = some v → ar[off + (pre.length : Int).toNat * 4 + j]? = some v := by simpa using hat
          have ha := ih a (by omega) (by omega) (ru t.kind u pre.length)
          have hka : ks[pre.length]? = some a := by rw [el]; simp
          have done : ∀ b2 : Bool, rform a (ru t.kind u pre.length) = b2 → b2 = false → rform t u = false := fun b2 h1 h2 => by rw [rform_eq, hks, rfk_no hka (h1.trans h2)]; simp
          have next : rform a (ru t.kind u pre.length) = true → ∀ i x, (pre ++ [a])[i]? = some x → rform x (ru t.kind u i) = true := fun h1 i x hi => by
            by_cases hl : i < pre.length
            · rw [List.getElem?_append_left hl] at hi; exact hall i x hi
            · rw [List.getElem?_append_right (by omega)] at hi
              have : i = pre.length := by
                have := (List.getElem?_eq_some_iff.1 hi).1
                simp at this; omega
              subst this
              simp at hi; subst hi; exact h1
          repeat' (first | (refine SL.isSL ?_; first | (refine SL.isN ?_; first | refine SL.nA ?_ | refine SL.alloc rfl rfl (fun b => ?_) | refine SL.box rfl rfl rfl (fun b => ?_)) | (refine SL.isG ?_; first | refine SL.gF rfl rfl rfl ?_ | refine SL.gU rfl rfl rfl ?_ | refine SL.gA ?_) | (refine SL.isSt ?_; refine SL.stA ?_) | refine SL.nil ?_ | (refine SL.isG ?_; first | refine SL.gCase rfl rfl (fun e => ?_) (fun e => ?_) | refine SL.gCaseN rfl rfl (fun e => ?_) (fun e => ?_))) | (refine St.isSt ?_; first | refine St.seq ?_ | refine St.region ?_ | refine St.block ?_ | refine St.ret ?_ | refine St.skip ?_ | refine St.exit ?_ | refine St.condT rfl ?_ | refine St.condF rfl ?_ | refine St.condY rfl (by omega) ?_ | refine St.condZ rfl (by omega) ?_) | (refine Qs.isQs ?_; first | refine Qs.then_normal ?_ | refine Qs.then_rounds ?_ | refine Qs.then_ret ?_ | refine Qs.then_exit ?_ | refine Qs.block_normal ?_ | refine Qs.block_ret ?_ | refine Qs.block_here ?_ | refine Qs.block_other rfl ?_) | refine RS.step ?_)
          have e6 : (6 : Int) ≠ 8 := by decide
          obtain ⟨X, r, hX, hf, hcase⟩ : ∃ X r, ru t.kind u pre.length = X ∧ rform a X = r ∧ ((u = true ∧ X = true) ∨ (u = false ∧ pre.length = 0 ∧ t.kind = 6 ∧ X = true) ∨ (u = false ∧ pre.length = 0 ∧ t.kind = 8 ∧ X = true) ∨ (u = false ∧ pre.length = 0 ∧ t.kind ≠ 6 ∧ t.kind ≠ 8 ∧ X = false) ∨ (u = false ∧ pre.length ≠ 0 ∧ X = false)) := by
            refine ⟨_, _, rfl, rfl, ?_⟩
            unfold ru rfst
            cases u <;> by_cases h0 : pre.length = 0 <;> by_cases h6 : t.kind = 6 <;> by_cases h8 : t.kind = 8 <;> simp [h0, h6, h8] at *
          rw [hX, hf] at done next
          rw [hX, hf] at ha
          rcases hcase with ⟨hu, rfl⟩ | ⟨hu, h0, h6, rfl⟩ | ⟨hu, h0, h8, rfl⟩ | ⟨hu, h0, h6, h8, rfl⟩ | ⟨hu, h0, rfl⟩
          all_goals (
            subst hu
            cases r
            all_goals (
              refine St.drawV' 22 [74] rfl rfl rfl rfl rfl ?_
              repeat (first | (refine TK.isTK ?_; first | (refine TK.isBin ?_; first | (refine TK.isN ?_; first | refine TK.cons rfl rfl (Ob.n rfl (NOp.eqlT rfl rfl (by omega))) rfl ?_ | refine TK.consF rfl rfl rfl (NOp.eqlT rfl rfl (by omega)) rfl ?_) | (refine TK.isG ?_; refine TK.cons rfl rfl (Ob.gT rfl rfl rfl (NOp.eqlT rfl rfl (by omega))) rfl ?_)) | (refine TK.isBin ?_; first | (refine TK.isN ?_; first | refine TK.cons rfl rfl (Ob.n rfl (NOp.eqlF rfl rfl (by omega))) rfl ?_ | refine TK.consF rfl rfl rfl (NOp.eqlF rfl rfl (by omega)) rfl ?_) | (refine TK.isG ?_; refine TK.cons rfl rfl (Ob.gT rfl rfl rfl (NOp.eqlF rfl rfl (by omega))) rfl ?_)) | (refine TK.isIdx ?_; first | (refine TK.isN ?_; first | refine TK.cons rfl rfl (Ob.n rfl (NOp.idx rfl rfl (by omega))) rfl ?_ | refine TK.consF rfl rfl rfl (NOp.idx rfl rfl (by omega)) rfl ?_) | (refine TK.isG ?_; refine TK.cons rfl rfl (Ob.gT rfl rfl rfl (NOp.idx rfl rfl (by omega))) rfl ?_)) | (refine TK.isLd ?_; first | (refine TK.isN ?_; first | refine TK.cons rfl rfl (Ob.n rfl (NOp.ldHA (vs := fl a.kind a.s a.n Ki) rfl hb rfl hat')) rfl ?_ | refine TK.consF rfl rfl rfl (NOp.ldHA (vs := fl a.kind a.s a.n Ki) rfl hb rfl hat') rfl ?_) | (refine TK.isG ?_; refine TK.cons rfl rfl (Ob.gT rfl rfl rfl (NOp.ldHA (vs := fl a.kind a.s a.n Ki) rfl hb rfl hat')) rfl ?_)) | (refine TK.isCallF 37 ?_; first | (refine TK.isN ?_; refine TK.cons rfl rfl (Ob.callV rfl rfl (fun h' hle => ha h' Ki (hTK.le hle))) rfl ?_) | (refine TK.isG ?_; refine TK.cons rfl rfl (Ob.callVT rfl rfl rfl rfl (fun h' hle => ha h' Ki (hTK.le hle))) rfl ?_)) | (refine TK.isHead rfl ?_; first | (refine TK.isN ?_; first | refine TK.nA ?_ | refine TK.litA ?_) | (refine TK.isG ?_; first | refine TK.cons rfl rfl (Ob.gF rfl rfl rfl) rfl ?_ | refine TK.cons rfl rfl (Ob.gU rfl rfl rfl) rfl ?_ | refine TK.gA ?_)) | (refine TK.isTail rfl ?_; first | refine TK.consS rfl rfl ?_ | refine TK.fA ?_) | refine TK.nilV rfl rfl ?_) | (refine SQ.isSQ ?_; first | refine SQ.nil ?_ | refine SQ.stA ?_))
              repeat' (first | (refine SL.isSL ?_; first | (refine SL.isN ?_; first | refine SL.nA ?_ | refine SL.alloc rfl rfl (fun b => ?_) | refine SL.box rfl rfl rfl (fun b => ?_)) | (refine SL.isG ?_; first | refine SL.gF rfl rfl rfl ?_ | refine SL.gU rfl rfl rfl ?_ | refine SL.gA ?_) | (refine SL.isSt ?_; refine SL.stA ?_) | refine SL.nil ?_ | (refine SL.isG ?_; first | refine SL.gCase rfl rfl (fun e => ?_) (fun e => ?_) | refine SL.gCaseN rfl rfl (fun e => ?_) (fun e => ?_))) | (refine St.isSt ?_; first | refine St.seq ?_ | refine St.region ?_ | refine St.block ?_ | refine St.ret ?_ | refine St.skip ?_ | refine St.exit ?_ | refine St.condT rfl ?_ | refine St.condF rfl ?_ | refine St.condY rfl (by omega) ?_ | refine St.condZ rfl (by omega) ?_) | (refine Qs.isQs ?_; first | refine Qs.then_normal ?_ | refine Qs.then_rounds ?_ | refine Qs.then_ret ?_ | refine Qs.then_exit ?_ | refine Qs.block_normal ?_ | refine Qs.block_ret ?_ | refine Qs.block_here ?_ | refine Qs.block_other rfl ?_) | refine RS.step ?_)
              first
              | (refine Qs.retVe rfl rfl rfl ?_
                 rw [done _ rfl rfl])
              | (refine Some_.intro (pre ++ [a], rest) ⟨⟨by rw [el]; simp, next rfl⟩, by dsimp only; simp⟩ (fun _ _ x => x) rfl rfl ?_
                 refine ⟨rfl, rfl, rfl, lk_eq rfl ?_, trivial⟩
                 simp)))
end Go.Proofs.YtfookachkcgdpaaDoor
