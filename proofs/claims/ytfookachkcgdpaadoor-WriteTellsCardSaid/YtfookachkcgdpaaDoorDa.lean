/- Cuts at a place that is named. Plain theorems; no condition. -/
import Derived.Test.YtfookachkcgdpaaDoorEff
import Derived.Test.YtfookachkcgdpaaDoorObs
set_option linter.unusedVariables false
namespace Go.Proofs.YtfookachkcgdpaaDoor
open Go.RowKit
section
variable {P : Program} {n : Nat} {E : Env} {Q : Exit → Act → World → Prop} {l : Fr} {h : GH} {M : Blks}
theorem St.cutR (id : Nat) {os : Array Oper} {dr : Bool} {y z : Code} {α : Type} (L : α → Fr) (H : α → GH) (B : α → Blks) (φ : α → Prop)
    (k1 : St P n E (.seq (.region id os dr) y) (Exit.then (Some_ n E L H B φ) Q) l h M) (k2 : ∀ x, φ x → St P n E z Q (L x) (H x) (B x)) : St P n E (.seq (.seq (.region id os dr) y) z) Q l h M := St.cut L H B φ k1 k2
theorem St.cutB (id : Nat) {y z : Code} {α : Type} (L : α → Fr) (H : α → GH) (B : α → Blks) (φ : α → Prop)
    (k1 : St P n E (.block id y) (Exit.then (Some_ n E L H B φ) Q) l h M) (k2 : ∀ x, φ x → St P n E z Q (L x) (H x) (B x)) : St P n E (.seq (.block id y) z) Q l h M := St.cut L H B φ k1 k2
end
end Go.Proofs.YtfookachkcgdpaaDoor
/- Regions that draw, whose stores need not come last: each store, each call that writes, is one of a chain. Plain theorems; no condition. -/
set_option linter.unusedVariables false
set_option linter.unusedSimpArgs false
namespace Go.Proofs.YtfookachkcgdpaaDoor
open Go.RowKit
/-- What is owed for a store that is one of the chain. -/
def ObS (P : Program) (M : Blks) (S : List (Blks → GH → Prop)) (k : Nat) (h : GH) (l : Fr) (ops : Array Oper) (T : Tb) (o : Oper) : Prop :=
  o.guard = none ∧ ∀ a w h' D, GH.le h h' → Good w h' (M ++ D) → HS S k D h' → Finds a h' T l (o.looksAt ops) →
    ∃ w' h'' D', (execOp a.eval o).run P w = .ok .skip w' ∧ Good w' h'' (M ++ D') ∧ Step w h' (M ++ D) w' h'' (M ++ D') ∧ HS S (k + 1) D' h''
inductive TblX (P : Program) (M : Blks) (S : List (Blks → GH → Prop)) (h : GH) (l : Fr) (ops : Array Oper) (cs : List Nat) : Nat → Nat → List Oper → Tb → Tb → Prop
  | nil {i k : Nat} {T : Tb} (hk : k = cs.length) : TblX P M S h l ops cs i k [] T T
  | cons {i k : Nat} {o : Oper} {d : Nat} {e : Ent} {rest : List Oper} {T T' : Tb} (hm : memN i cs = false) (hd : o.dst = some d) (ob : Ob P M h l ops T o e) (r : TblX P M S h l ops cs (i + 1) k rest ((d, e) :: T) T') : TblX P M S h l ops cs i k (o :: rest) T T'
  | consM {i k : Nat} {o : Oper} {d : Nat} {e : Ent} {rest : List Oper} {T T' : Tb} (hm : nth? cs k = some i) (hd : o.dst = some d) (ob : ObM P M S k h l ops T o e) (r : TblX P M S h l ops cs (i + 1) (k + 1) rest ((d, e) :: T) T') : TblX P M S h l ops cs i k (o :: rest) T T'
  | consS {i k : Nat} {o : Oper} {rest : List Oper} {T T' : Tb} (hm : nth? cs k = some i) (hd : o.dst = none) (ob : ObS P M S k h l ops T o) (r : TblX P M S h l ops cs (i + 1) (k + 1) rest T T') : TblX P M S h l ops cs i k (o :: rest) T T'
inductive ItemX (P : Program) (M : Blks) (S : List (Blks → GH → Prop)) (h : GH) (l : Fr) (ops : Array Oper) (cs : List Nat) (i : Nat) (o : Oper) (T : Tb) : Option Ent → Prop
  | n {e : Ent} (hm : i ∉ cs) (hd : o.dst = some (dstOf o)) (ob : Ob P M h l ops T o e) : ItemX P M S h l ops cs i o T (some e)
  | m {e : Ent} {k : Nat} (hm : cs[k]? = some i) (hd : o.dst = some (dstOf o)) (ob : ObM P M S k h l ops T o e) : ItemX P M S h l ops cs i o T (some e)
  | s {k : Nat} (hm : cs[k]? = some i) (hd : o.dst = none) (ob : ObS P M S k h l ops T o) : ItemX P M S h l ops cs i o T none
theorem TblX.items {P : Program} {M : Blks} {S : List (Blks → GH → Prop)} {h : GH} {l : Fr} {ops : Array Oper} {cs : List Nat} {i k : Nat} {os : List Oper} {T T' : Tb} (t : TblX P M S h l ops cs i k os T T') :
    ∃ es : List (Option Ent), es.length = os.length ∧ T' = (tblOf os es).reverse ++ T ∧ ∀ (j : Nat) (o : Oper), os[j]? = some o → ∃ e, es[j]? = some e ∧ ItemX P M S h l ops cs (i + j) o ((tblOf (os.take j) (es.take j)).reverse ++ T) e := by
  have hdo : ∀ {o : Oper} {d : Nat}, o.dst = some d → dstOf o = d := fun hd => by unfold dstOf; rw [hd]; rfl
  induction t with
  | nil hk => exact ⟨[], rfl, rfl, fun j o hj => by simp at hj⟩
  | @cons i k o d e rest T T' hm hd ob r ih =>
    obtain ⟨es, h1, h2, h3⟩ := ih
    have e1 := hdo hd
    refine ⟨some e :: es, by simp [h1], by rw [h2]; simp [tblOf, e1], fun j x hx => ?_⟩
    cases j with
    | zero => simp at hx; subst hx; exact ⟨_, rfl, .n (fun hmem => by rw [Nat.add_zero] at hmem; rw [memN_iff.2 hmem] at hm; cases hm) (by rw [hd, e1]) (by simpa [tblOf] using ob)⟩
    | succ j => obtain ⟨e', h4, h5⟩ := h3 j x (by simpa using hx); refine ⟨e', by simpa using h4, ?_⟩; simpa [tblOf, e1, show i + 1 + j = i + (j + 1) by omega] using h5
  | @consM i k o d e rest T T' hm hd ob r ih =>
    obtain ⟨es, h1, h2, h3⟩ := ih
    have e1 := hdo hd
    refine ⟨some e :: es, by simp [h1], by rw [h2]; simp [tblOf, e1], fun j x hx => ?_⟩
    cases j with
    | zero => simp at hx; subst hx; exact ⟨_, rfl, .m (k := k) (by rw [nth?_eq] at hm; simpa using hm) (by rw [hd, e1]) (by simpa [tblOf] using ob)⟩
    | succ j => obtain ⟨e', h4, h5⟩ := h3 j x (by simpa using hx); refine ⟨e', by simpa using h4, ?_⟩; simpa [tblOf, e1, show i + 1 + j = i + (j + 1) by omega] using h5
  | @consS i k o rest T T' hm hd ob r ih =>
    obtain ⟨es, h1, h2, h3⟩ := ih
    refine ⟨none :: es, by simp [h1], by rw [h2]; simp [tblOf], fun j x hx => ?_⟩
    cases j with
    | zero => simp at hx; subst hx; exact ⟨_, rfl, .s (k := k) (by rw [nth?_eq] at hm; simpa using hm) hd (by simpa [tblOf] using ob)⟩
    | succ j => obtain ⟨e', h4, h5⟩ := h3 j x (by simpa using hx); refine ⟨e', by simpa using h4, ?_⟩; simpa [tblOf, show i + 1 + j = i + (j + 1) by omega] using h5
section
variable {P : Program} {nn : Nat} {E : Env} {Q : Exit → Act → World → Prop} {l : Fr} {h : GH} {M : Blks} {ops : Array Oper} {es : List (Option Ent)} {S : List (Blks → GH → Prop)} {cs : List Nat}
structure SetupX (P : Program) (M : Blks) (S : List (Blks → GH → Prop)) (h : GH) (l : Fr) (ops : Array Oper) (cs : List Nat) (nn : Nat) (es : List (Option Ent)) : Prop where
  all : AllOk ops 0 ops.toList
  len : es.length = ops.size
  item : ∀ (i : Nat) (o : Oper), ops[i]? = some o → ∃ e, es[i]? = some e ∧ ItemX P M S h l ops cs i o (tblOf (ops.toList.take i) (es.take i)).reverse e
  small : ∀ (i : Nat) (o : Oper), ops[i]? = some o → o.dst ≠ none → dstOf o < nn
theorem SetupX.hes (s : SetupX P M S h l ops cs nn es) : ∀ (i : Nat) (o : Oper) (e : Ent), ops[i]? = some o → es[i]? = some (some e) → o.dst = some (dstOf o) := fun i o e ho he => by
  obtain ⟨e', he', it⟩ := s.item i o ho
  rw [he] at he'
  injection he' with he'
  subst he'
  cases it <;> assumption
theorem SetupX.hnone (s : SetupX P M S h l ops cs nn es) : ∀ (i : Nat) (o : Oper), ops[i]? = some o → es[i]? = some none → o.dst = none := fun i o ho he => by
  obtain ⟨e', he', it⟩ := s.item i o ho
  rw [he] at he'
  injection he' with he'
  subst he'
  cases it
  assumption
def LFX (ops : Array Oper) (es : List (Option Ent)) (l : Fr) (a0 : Act) (lf : Fr) : Prop := ∀ t v, lk lf t = some v →
  (∃ (i : Nat) (o : Oper), ops[i]? = some o ∧ o.dst = some t ∧ (es[i]? = some (some (.v v)) ∨ a0.tmps[t]? = some v)) ∨ (lk l t = some v ∧ ∀ (i : Nat) (o : Oper), ops[i]? = some o → o.dst ≠ some t)
theorem phaseX (s : SetupX P M S h l ops cs nn es) (hchain : ∀ (k a b : Nat) (o : Oper), cs[k]? = some a → cs[k + 1]? = some b → ops[b]? = some o → a ∈ ons o) (hnd : ∀ (j k c : Nat), cs[j]? = some c → cs[k]? = some c → j = k) (hcp : ∀ c ∈ cs, c < ops.size) {w0 : World} {M0 : Blks}
    (hend : ∀ a w h' D, GH.le h h' → Good w h' (M ++ D) → Step w0 h M0 w h' (M ++ D) → HS S cs.length D h' → a.defers = [] → a.tmps.size = nn →
      (∀ (i : Nat) (o : Oper) (e : Ent), ops[i]? = some o → es[i]? = some (some e) → ∃ x, a.tmps[dstOf o]? = some x ∧ e.holds x h') → ∃ lf hq, LFX ops es l a lf ∧ Qs nn E Q .normal lf hq (M ++ D) ∧ Inv E w hq (M ++ D)) :
    ∀ (fuel : Nat) (listed : Array Bool) (a : Act) (w : World) (h' : GH) (D : Blks) (k : Nat), fuel = unl ops.size listed → k ≤ cs.length → (∀ (j c : Nat), cs[j]? = some c → (listed.getD c false = true ↔ j < k)) →
      HS S k D h' → GH.le h h' → Good w h' (M ++ D) → Step w0 h M0 w h' (M ++ D) → Core ops es l nn listed a h' → wpAny P .any ops Q fuel listed a w := by
  intro fuel
  induction fuel with
  | zero =>
    intro listed a w h' D k hf hk hck hS hle hg hsp c
    have hfull : ∀ j, j < ops.size → listed.getD j false = true := fun j hj => by
      cases hx : listed.getD j false with
      | true => rfl
      | false =>
        have h1 := getD_ft (by rw [c.size]; exact hj) hx
        have : 0 < unl ops.size listed := List.countP_pos_iff.2 ⟨j, List.mem_range.2 hj, by simp [h1]⟩
        omega
    have hkc : k = cs.length := by
      refine Nat.le_antisymm hk (Nat.le_of_not_lt fun hlt => ?_)
      have h1 := List.getElem?_eq_getElem hlt
      have := (hck k _ h1).1 (hfull _ (hcp _ (List.getElem_mem hlt)))
      omega
    subst hkc
    have hdone : ∀ (i : Nat) (o : Oper) (e : Ent), ops[i]? = some o → es[i]? = some (some e) → ∃ x, a.tmps[dstOf o]? = some x ∧ e.holds x h' := fun i o e ho he => c.done i o e ho he (hfull i (Array.getElem?_eq_some_iff.1 ho).1)
    obtain ⟨lf, hq, h1, h2, h3⟩ := hend a w h' D hle hg hsp hS c.defers c.tsize hdone
    refine ⟨List.eq_nil_iff_forall_not_mem.2 fun i hi => ?_, h2 a w ⟨c.defers, c.tsize, fun t v ht => ?_⟩ h3⟩
    · obtain ⟨o, ho, hl, _⟩ := ready_iff.1 hi
      rw [getD_tf (hfull i (Array.getElem?_eq_some_iff.1 ho).1)] at hl
      cases hl
    · rcases h1 t v ht with ⟨i, o, ho, hd, he | he⟩ | ⟨h4, h5⟩
      · obtain ⟨x, hx, hxe⟩ := hdone i o _ ho he
        have hd2 := s.hes i o _ ho he
        rw [hd] at hd2
        injection hd2 with hd2
        rw [← hd2] at hx
        have : x = v := hxe
        rw [hx, this]
      · exact he
      · exact c.base t v h4 fun i o ho _ => h5 i o ho
  | succ fuel ih =>
    intro listed a w h' D k hf hk hck hS hle hg hsp c
    have hex : ∃ j, j < ops.size ∧ listed.getD j false = false := by
      have : 0 < unl ops.size listed := by omega
      obtain ⟨j, hj, hx⟩ := List.countP_pos_iff.1 this
      exact ⟨j, List.mem_range.1 hj, getD_ff (by simpa using hx)⟩
    obtain ⟨m, _, _, _, hmr⟩ := least_ready s.all c.size hex
    refine ⟨fun e => by rw [e] at hmr; simp at hmr, fun i hir => ?_⟩
    obtain ⟨o, ho, hil, hon⟩ := ready_iff.1 hir
    have hilt := (Array.getElem?_eq_some_iff.1 ho).1
    have hil' := getD_ff hil
    have hset : ∀ j d, (listed.setIfInBounds i true).getD j d = if i = j then true else listed.getD j d := fun j d => getD_set (by rw [c.size]; exact hilt)
    have hfuel : fuel = unl ops.size (listed.setIfInBounds i true) := by have := unl_set (n := ops.size) c.size hilt hil; omega
    obtain ⟨e, he, it⟩ := s.item i o ho
    have hfind := c.finds s.all s.len s.hes s.hnone ho hil' hon
    unfold wpOp
    rw [ho]
    simp only []
    have hckn : (∀ j c, cs[j]? = some c → c ≠ i) → ∀ (j c : Nat), cs[j]? = some c → ((listed.setIfInBounds i true).getD c false = true ↔ j < k) := fun hni j c hjc => by
      rw [hset, if_neg (fun e1 => hni j c hjc e1.symm)]; exact hck j c hjc
    have hkk' : ∀ k', cs[k']? = some i → k = k' := fun k' hm => by
      have h1 := hck k' i hm
      have h2 : ¬ k' < k := fun hlt => by rw [h1.2 hlt] at hil'; cases hil'
      refine Nat.le_antisymm (Nat.le_of_not_lt h2) (Nat.le_of_not_lt fun hlt => ?_)
      obtain ⟨q, rfl⟩ : ∃ q, k' = q + 1 := ⟨k' - 1, by omega⟩
      have hql : q < cs.length := by have := (List.getElem?_eq_some_iff.1 hm).1; omega
      have hq := List.getElem?_eq_getElem hql
      have := hon _ (hchain q _ i o hq hm ho)
      have := (hck q _ hq).1 this
      omega
    have hckS : cs[k]? = some i → ∀ (j c : Nat), cs[j]? = some c → ((listed.setIfInBounds i true).getD c false = true ↔ j < k + 1) := fun hm j c' hjc => by
      rw [hset]
      by_cases e1 : i = c'
      · subst e1
        have := hnd j k i hjc hm
        subst this
        simp
      · rw [if_neg e1, hck j c' hjc]
        constructor
        · intro h1; omega
        · intro h1
          rcases Nat.lt_succ_iff_lt_or_eq.1 h1 with h2 | h2
          · exact h2
          · subst h2; rw [hjc] at hm; injection hm with hm; exact (e1 hm.symm).elim
    cases it with
    | @n e hm hd ob =>
      have := ob a w h' D hle hg hfind (wpAny P .any ops Q fuel (listed.setIfInBounds i true)) Q fun v w' h'' hg' hst2 hv => by
        have c' := c.put s.all s.hes ho he (s.small i o ho (by rw [hd]; simp)) hon hst2.le hv
        rw [hd]
        exact ih _ _ w' h'' D k hfuel hk (hckn fun j c' hjc e1 => by subst e1; exact hm (List.mem_of_getElem? hjc)) (hS.le hst2.le) (hle.trans hst2.le) hg' (hsp.trans hst2) c'
      split at this
      · rename_i hw; rw [if_pos hw]; exact .inl this
      · rename_i hw; rw [if_neg hw]; exact this
    | @m e k' hm hd ob =>
      obtain rfl := hkk' k' hm
      have hklt : k < cs.length := (List.getElem?_eq_some_iff.1 hm).1
      obtain ⟨hw, hwp⟩ := ob a w h' D hle hg hS hfind (wpAny P .any ops Q fuel (listed.setIfInBounds i true)) Q fun v w' h'' D' hg' hst2 hS' hv => by
        have c' := c.put s.all s.hes ho he (s.small i o ho (by rw [hd]; simp)) hon hst2.le hv
        rw [hd]
        exact ih _ _ w' h'' D' (k + 1) hfuel (by omega) (hckS hm) hS' (hle.trans hst2.le) hg' (hsp.trans hst2) c'
      rw [if_pos hw]
      exact .inl hwp
    | @s k' hm hd ob =>
      obtain rfl := hkk' k' hm
      have hklt : k < cs.length := (List.getElem?_eq_some_iff.1 hm).1
      obtain ⟨hgd, ob⟩ := ob
      obtain ⟨w', h'', D', hrun, hg', hst2, hS'⟩ := ob a w h' D hle hg hS hfind
      have hw : Region.wanted o (yielded ops a.tmps) = true := by simp only [Region.wanted, hgd]
      rw [if_pos hw]
      refine .inl ?_
      unfold Oper.wp
      rw [hrun]
      show wpAny P .any ops Q fuel (listed.setIfInBounds i true) (a.put o.dst undef) w'
      rw [hd]
      have c' := c.skip ho hd he hon
      have c'' : Core ops es l nn (listed.setIfInBounds i true) a h'' := ⟨c'.size, c'.defers, c'.tsize, fun i o e h1 h2 h3 => by obtain ⟨x, h4, h5⟩ := c'.done i o e h1 h2 h3; exact ⟨x, h4, h5.le hst2.le⟩, c'.base, c'.closed⟩
      exact ih _ _ w' h'' D' (k + 1) hfuel (by omega) (hckS hm) hS' (hle.trans hst2.le) hg' (hsp.trans hst2) c''
theorem finTX_lf (s : SetupX P M S h l ops cs nn es) {a : Act} {h' : GH}
    (hdone : ∀ (i : Nat) (o : Oper) (e : Ent), ops[i]? = some o → es[i]? = some (some e) → ∃ x, a.tmps[dstOf o]? = some x ∧ e.holds x h') {W : List Nat} (hc : noClash l W ops.toList = true) {φ : Fr → Prop} (hf : FinT (tblOf ops.toList es).reverse l h' W φ) :
    ∃ lf, φ lf ∧ LFX ops es l a lf := by
  have gen : ∀ (W0 : List Nat) (φ : Fr → Prop), FinT (tblOf ops.toList es).reverse l h' W0 φ → ∃ lf, φ lf ∧ ∀ t v, lk lf t = some v → (∃ (i : Nat) (o : Oper), ops[i]? = some o ∧ o.dst = some t ∧ (es[i]? = some (some (.v v)) ∨ a.tmps[t]? = some v)) ∨ (t ∉ W0 ∧ lk l t = some v) := by
    intro W0
    induction W0 with
    | nil => intro φ hφ; exact ⟨l, hφ, fun t v ht => .inr ⟨by simp, ht⟩⟩
    | cons u r ih =>
      intro φ hφ
      simp only [FinT] at hφ
      have hz := lkT_tblOf (os := ops.toList) (es := es) (by simp [s.len]) (fun i o e h1 h2 => s.hes i o e (by simpa using h1) h2) u
      have fin : ∀ (x : Value), (∃ (i : Nat) (o : Oper), ops[i]? = some o ∧ o.dst = some u ∧ (es[i]? = some (some (.v x)) ∨ a.tmps[u]? = some x)) → FinT (tblOf ops.toList es).reverse l h' r (fun lf => φ ((u, x) :: lf)) → ∃ lf, φ lf ∧ ∀ t v, lk lf t = some v → (∃ (i : Nat) (o : Oper), ops[i]? = some o ∧ o.dst = some t ∧ (es[i]? = some (some (.v v)) ∨ a.tmps[t]? = some v)) ∨ (t ∉ u :: r ∧ lk l t = some v) := by
        intro x hx hfx
        obtain ⟨lf, h1, h2⟩ := ih _ hfx
        refine ⟨(u, x) :: lf, h1, fun t v ht => ?_⟩
        simp only [lk] at ht
        cases hb : Nat.beq u t with
        | true =>
          rw [hb] at ht
          have := Nat.eq_of_beq_eq_true hb
          subst this
          simp only [cond_true] at ht
          injection ht with ht
          subst ht
          exact .inl hx
        | false =>
          rw [hb] at ht
          rcases h2 t v ht with h3 | ⟨h3, h4⟩
          · exact .inl h3
          · refine .inr ⟨fun hm => ?_, h4⟩
            rcases List.mem_cons.1 hm with e | hm
            · rw [e] at hb; simp at hb
            · exact h3 hm
      cases hk : lkT (tblOf ops.toList es).reverse u with
      | none => rw [hk] at hφ; exact hφ.elim
      | some e =>
        rw [hk] at hφ hz
        obtain ⟨i, o, h1, h2, h3⟩ := hz
        have h1' : ops[i]? = some o := by simpa using h1
        cases e with
        | v x => exact fin x ⟨i, o, h1', h2, .inl h3⟩ hφ
        | q Qx =>
          obtain ⟨x, hx, hxe⟩ := hdone i o _ h1' h3
          have hd := s.hes i o _ h1' h3
          rw [h2] at hd
          injection hd with hd
          rw [← hd] at hx
          exact fin x ⟨i, o, h1', h2, .inr hx⟩ (hφ x hxe)
  obtain ⟨lf, h1, h2⟩ := gen W φ hf
  refine ⟨lf, h1, fun t v ht => ?_⟩
  rcases h2 t v ht with h3 | ⟨h3, h4⟩
  · exact .inl h3
  · refine .inr ⟨h4, fun i o ho hd => ?_⟩
    rcases noClash_iff hc o (List.mem_of_getElem? (i := i) (by simpa using ho)) t hd with h5 | h5
    · exact h3 h5
    · rw [h4] at h5; cases h5
end
def okCsX (os : List Oper) (cs : List Nat) : Bool := allLt os.length cs && okChain cs os
section
variable {P : Program} {nn : Nat} {E : Env} {Q : Exit → Act → World → Prop} {l l' : Fr} {h : GH} {M : Blks} {ops : Array Oper} {T : Tb}
variable {d : Option Tmp} {ty : TypeId} {pos : String} {aft : Array Edge} {g : Option (Nat × Bool)} {op : Op}
variable {S : List (Blks → GH → Prop)} {p : Nat} {cs : List Nat} {i k : Nat} {rest : List Oper} {φ : Tb → Prop}
theorem St.drawX0 {id : Nat} {os : List Oper} {T' : Tb} {M1 D0 : Blks} (W cs : List Nat) [Mixed P] (h1 : okAll os.toArray 0 os = true) (h3 : smallDst nn os = true) (h4 : okCsX os cs = true)
    (hM : M = M1 ++ D0) (hS : HS S 0 D0 h) (ht : TblX P M1 S h l os.toArray cs 0 0 os [] T') (hc : noClash l W os = true)
    (k : ∀ h' D, GH.le h h' → HS S cs.length D h' → FinT T' l h' W (fun lf => Qs nn E Q .normal lf h' (M1 ++ D))) :
    St P nn E (.region id os.toArray true) Q l h M := fun a w ha hi => by
  subst hM
  obtain ⟨es, he1, he2, he3⟩ := ht.items
  rw [List.append_nil] at he2
  have hA := okAll_spec h1
  simp only [okCsX, Bool.and_eq_true] at h4
  obtain ⟨hc1, hc2⟩ := okChain_spec h4.2
  have hset : SetupX P M1 S h l os.toArray cs nn es := by
    refine ⟨by simpa using hA, by simpa using he1, fun i o ho => ?_, fun i o ho hd => smallDst_iff h3 o (List.mem_of_getElem? (i := i) (by simpa using ho)) hd⟩
    obtain ⟨e, h5, h6⟩ := he3 i o (by simpa using ho)
    rw [Nat.zero_add, List.append_nil] at h6
    exact ⟨e, h5, by simpa using h6⟩
  have hi1 := hi.next hi.good.drew Step.drew
  refine wp_region_any Mixed.m ?_
  refine phaseX (E := E) hset (fun k a b o h5 h6 h7 => hc1 k a b o h5 h6 (by simpa using h7)) (fun j k c h5 h6 => ?_) (fun c hcm => by have := allLt_iff.1 h4.1 c hcm; simpa using this) (w0 := w.drew) (M0 := M1 ++ D0) ?_
    _ _ a w.drew h D0 0 ?_ (Nat.zero_le _) ?_ hS (GH.le.refl _) hi1.good (Step.refl _ _ _) ⟨by simp, ha.defers, ha.size, ?_, fun t v hv _ => ha.ev t v hv, ?_⟩
  · rcases Nat.lt_trichotomy j k with hlt | he | hgt
    · have := hc2 j k c c hlt h5 h6; omega
    · exact he
    · have := hc2 k j c c hgt h6 h5; omega
  · intro a' w' h' D hle hg hst hSD hde hsz hdone
    have hi2 := hi1.next hg hst
    have hfin := k h' D hle hSD
    rw [he2] at hfin
    obtain ⟨lf, hsq, hlf⟩ := finTX_lf hset hdone (by simpa using hc) (by simpa using hfin)
    exact ⟨lf, h', hlf, hsq, hi2⟩
  · have : ∀ n, n ≤ os.length → (List.range n).countP (fun i => !(Array.replicate os.toArray.size false).getD i true) = n := by
      intro n
      induction n with
      | zero => intro _; simp
      | succ n ih =>
        intro hn
        rw [List.range_succ, List.countP_append, ih (by omega)]
        have h0 : (Array.replicate os.toArray.size false).getD n true = false := by simp [Array.getD_eq_getD_getElem?, show n < os.length by omega]
        have h1 : [n].countP (fun i => !(Array.replicate os.toArray.size false).getD i true) = 1 := by simp only [List.countP_cons, List.countP_nil, h0]; rfl
        omega
    have := this os.length (Nat.le_refl _)
    unfold unl
    simp only [List.size_toArray] at this ⊢
    exact this.symm
  · intro j c _
    constructor
    · intro hx
      exfalso
      simp only [Array.getD_eq_getD_getElem?, Array.getElem?_replicate] at hx
      split at hx <;> simp at hx
    · intro hx; omega
  · intro i o e _ _ hx
    exfalso
    simp only [Array.getD_eq_getD_getElem?, Array.getElem?_replicate] at hx
    split at hx <;> simp at hx
  · intro i o _ hx
    exfalso
    simp only [Array.getD_eq_getD_getElem?, Array.getElem?_replicate] at hx
    split at hx <;> simp at hx
/-! ### the table, with what is asked behind it -/
def TX (P : Program) (M : Blks) (S : List (Blks → GH → Prop)) (h : GH) (l : Fr) (ops : Array Oper) (cs : List Nat) (i k : Nat) (os : List Oper) (T : Tb) (φ : Tb → Prop) : Prop := ∃ T', TblX P M S h l ops cs i k os T T' ∧ φ T'
theorem TX.cons {o : Oper} {d : Nat} {e : Ent} (hm : memN i cs = false) (hd : o.dst = some d) (ob : Ob P M h l ops T o e) (r : TX P M S h l ops cs (i + 1) k rest ((d, e) :: T) φ) : TX P M S h l ops cs i k (o :: rest) T φ := by
  obtain ⟨T', h1, h2⟩ := r
  exact ⟨T', .cons hm hd ob h1, h2⟩
theorem TX.consM {o : Oper} {d : Nat} {e : Ent} (hm : nth? cs k = some i) (hd : o.dst = some d) (ob : ObM P M S k h l ops T o e) (r : TX P M S h l ops cs (i + 1) (k + 1) rest ((d, e) :: T) φ) : TX P M S h l ops cs i k (o :: rest) T φ := by
  obtain ⟨T', h1, h2⟩ := r
  exact ⟨T', .consM hm hd ob h1, h2⟩
theorem TX.consS {o : Oper} (hm : nth? cs k = some i) (hd : o.dst = none) (ob : ObS P M S k h l ops T o) (r : TX P M S h l ops cs (i + 1) (k + 1) rest T φ) : TX P M S h l ops cs i k (o :: rest) T φ := by
  obtain ⟨T', h1, h2⟩ := r
  exact ⟨T', .consS hm hd ob h1, h2⟩
theorem TX.nil (hk : k = cs.length) (kk : φ T) : TX P M S h l ops cs i k [] T φ := ⟨T, .nil hk, kk⟩
theorem TX.isTX {os : List Oper} (kk : TX P M S h l ops cs i k os T φ) : TX P M S h l ops cs i k os T φ := kk
theorem TX.isN {d : Nat} (kk : TX P M S h l ops cs i k (⟨some d, op, ty, pos, aft, none⟩ :: rest) T φ) : TX P M S h l ops cs i k (⟨some d, op, ty, pos, aft, none⟩ :: rest) T φ := kk
theorem TX.isG {d : Nat} {g : Nat × Bool} (kk : TX P M S h l ops cs i k (⟨some d, op, ty, pos, aft, some g⟩ :: rest) T φ) : TX P M S h l ops cs i k (⟨some d, op, ty, pos, aft, some g⟩ :: rest) T φ := kk
theorem TX.isSt (kk : TX P M S h l ops cs i k (⟨none, op, ty, pos, aft, none⟩ :: rest) T φ) : TX P M S h l ops cs i k (⟨none, op, ty, pos, aft, none⟩ :: rest) T φ := kk
theorem St.drawX {id : Nat} {os : List Oper} {M1 D0 : Blks} (W cs : List Nat) (S : List (Blks → GH → Prop)) [Mixed P] (h1 : okAll os.toArray 0 os = true) (h3 : smallDst nn os = true) (h4 : okCsX os cs = true) (hc : noClash l W os = true)
    (hM : M = M1 ++ D0) (hS : HS S 0 D0 h)
    (t : TX P M1 S h l os.toArray cs 0 0 os [] (fun T' => ∀ h' D, GH.le h h' → HS S cs.length D h' → FinT T' l h' W (fun lf => Qs nn E Q .normal lf h' (M1 ++ D)))) : St P nn E (.region id os.toArray true) Q l h M := by
  obtain ⟨T', h5, h6⟩ := t
  exact St.drawX0 W cs h1 h3 h4 hM hS h5 hc h6
/-- A call that writes a part of what is not held still. -/
theorem ObM.callF {R R' : Blks → GH → Prop} {f : Nat} [CF P f] {args : List Operand} {ats : Array TypeId} {vs : List Value} {post : Value → GH → Prop} (hk : S[k]? = some R) (hk' : S[k + 1]? = some R')
    (hs : selL T l (Oper.looksAt ops ⟨d, .call { callee := .value (.func f), args := args.toArray, argTypes := ats }, ty, pos, aft, none⟩) = some l') (hx : lks l' args = some vs)
    (c : ∀ h' D, GH.le h h' → (∃ h2, GH.le h2 h' ∧ R D h2) → ∃ Dr Dc, D = Dr ++ Dc ∧ Fn P h' Dc f vs.toArray fun u h2 D' => post u h2 ∧ R' (Dr ++ D') h2) : ObM P M S k h l ops T ⟨d, .call { callee := .value (.func f), args := args.toArray, argTypes := ats }, ty, pos, aft, none⟩ (.q post) := by
  intro a w h' D hle hg hS hf K Q kk
  refine ⟨rfl, ?_⟩
  obtain ⟨R0, h1, hR0, hle1, hR⟩ := hS
  rw [hk] at hR0
  injection hR0 with hR0
  subst hR0
  unfold Oper.wp
  rw [run_call (selL_ev hs hf) hx w, Oper.upon_enter]
  obtain ⟨Dr, Dc, rfl, c⟩ := c h' D hle ⟨h1, hle1, hR⟩
  have hp0 : ∀ X : Blks, (M ++ (Dr ++ X)).Perm (X ++ (M ++ Dr)) := fun X => by rw [← List.append_assoc]; exact List.perm_append_comm
  have hgp : Good w h' (Dc ++ (M ++ Dr)) := hg.perm (hp0 Dc)
  refine (c w hgp.left).mono ?_
  rintro e w' ⟨v, h2, D', rfl, hi, hq, hR'⟩
  have hg2 := Good.app hgp hi.good hi.step
  have hs2 := hi.step.app (M ++ Dr)
  refine kk v w' h2 (Dr ++ D') (hg2.perm (hp0 D').symm) ?_ ⟨R', h2, hk', GH.le.refl _, hR'⟩ ⟨h2, GH.le.refl _, hq⟩
  have hs3 := hs2.perm (hp0 D').symm
  exact { hs3 with frame := fun b hb hM => hs3.frame b hb fun q hq => hM q ((hp0 Dc).symm.subset hq), own := fun q hq => (hs3.own q hq).imp (fun ⟨r, hr, e⟩ => ⟨r, (hp0 Dc).symm.subset hr, e⟩) id }
/-- A store that is one of the chain. -/
theorem ObS.of {o : Oper} {R R' : Blks → GH → Prop} (hk : S[k]? = some R) (hk' : S[k + 1]? = some R') (hs : selL T l (o.looksAt ops) = some l') (hg0 : o.guard = none)
    (c : ∀ h' D, GH.le h h' → (∃ h2, GH.le h2 h' ∧ R D h2) → ∃ D', SOp P h' (M ++ D) l' ops o (M ++ D') ∧ R' D' h') : ObS P M S k h l ops T o := by
  refine ⟨hg0, fun a w h' D hle hg hS hf => ?_⟩
  obtain ⟨R0, h1, hR0, hle1, hR⟩ := hS
  rw [hk] at hR0
  injection hR0 with hR0
  subst hR0
  obtain ⟨D', ⟨_, so⟩, hR'⟩ := c h' D hle ⟨h1, hle1, hR⟩
  have hev := selL_ev hs hf
  obtain ⟨w', h2, h3, h4⟩ := so a w (fun t _ v hv => hev t v hv) hg
  exact ⟨w', h', D', h2, h3, h4, R', h', hk', GH.le.refl _, hR'⟩
theorem ObS.q {o : Oper} (t : Nat) {Qt : Value → GH → Prop} (ht : lkT T t = some (.q Qt)) (hm : memN t (o.looksAt ops) = true) (hg0 : o.guard = none) (kq : ∀ x h1, GH.le h h1 → (∃ h2, GH.le h2 h1 ∧ Qt x h2) → ObS P M S k h1 l ops ((t, .v x) :: T) o) : ObS P M S k h l ops T o := by
  refine ⟨hg0, fun a w h' D hle hg hS hf => ?_⟩
  have h0 := hf t (memN_iff.1 hm)
  rw [ht] at h0
  obtain ⟨x, hx, hq⟩ := h0
  refine (kq x h' hle hq).2 a w h' D (GH.le.refl _) hg hS (fun u hu => ?_)
  simp only [lkT]
  cases hb : Nat.beq t u with
  | true =>
    have := Nat.eq_of_beq_eq_true hb
    subst this
    exact ⟨x, hx, rfl⟩
  | false => exact hf u hu
end
end Go.Proofs.YtfookachkcgdpaaDoor
/- Regions that draw, in which a new variable is made and filled: as the regions of the text ahead, with one block more. Plain theorems; no condition. -/
set_option linter.unusedVariables false
set_option linter.unusedSimpArgs false
namespace Go.Proofs.YtfookachkcgdpaaDoor
open Go.RowKit
/-- The variable that is made: the operation's number, its slot, its type, its cells, and which of the chain fills it. -/
structure Av where
  ai : Nat
  ad : Nat
  t : TypeId
  zs : List Value
  ka : Nat
def ptrQ (v : Value) (_ : GH) : Prop := ∃ b, v = .pointer (some ⟨b, 0, none⟩)
/-- What is owed for the store that fills it. -/
def ObT (P : Program) (M : Blks) (S : Nat → List (Blks → GH → Prop)) (k : Nat) (h : GH) (l : Fr) (ops : Array Oper) (T : Tb) (V : Av) (o : Oper) : Prop :=
  o.guard = none ∧ ∀ b a w h' D, GH.le h h' → Good w h' (M ++ (D ++ [(b, cel V.zs V.t)])) → HS (S 0) k D h' → Finds a h' ((V.ad, .v (.pointer (some ⟨b, 0, none⟩))) :: T) l (o.looksAt ops) →
    ∃ w' h'' D', (execOp a.eval o).run P w = .ok .skip w' ∧ Good w' h'' (M ++ D') ∧ Step w h' (M ++ (D ++ [(b, cel V.zs V.t)])) w' h'' (M ++ D') ∧ HS (S b) (k + 1) D' h''
/-- What is owed for the operation that makes it. -/
def ObV (P : Program) (V : Av) (o : Oper) : Prop := o.guard = none ∧ ∀ (a : Act) (w : World), (execOp a.eval o).run P w = .ok (.value (.pointer (some ⟨w.heap.size, 0, none⟩))) (w.alloc (cel V.zs V.t))
theorem beq_ne {a b : Nat} (h : Nat.beq a b = false) : a ≠ b := fun e => by subst e; simp at h
inductive TblA (P : Program) (M : Blks) (S : Nat → List (Blks → GH → Prop)) (h : GH) (l : Fr) (ops : Array Oper) (cs : List Nat) (V : Av) : Nat → Nat → List Oper → Tb → Tb → Prop
  | nil {i k : Nat} {T : Tb} (hk : k = cs.length) : TblA P M S h l ops cs V i k [] T T
  | cons {i k : Nat} {o : Oper} {d : Nat} {e : Ent} {rest : List Oper} {T T' : Tb} (hm : memN i cs = false) (hi : Nat.beq V.ai i = false) (hd : o.dst = some d) (ob : Ob P M h l ops T o e) (r : TblA P M S h l ops cs V (i + 1) k rest ((d, e) :: T) T') : TblA P M S h l ops cs V i k (o :: rest) T T'
  | consM {i k : Nat} {o : Oper} {d : Nat} {e : Ent} {rest : List Oper} {T T' : Tb} (hm : nth? cs k = some i) (hk : Nat.beq V.ka k = false) (hi : Nat.beq V.ai i = false) (hd : o.dst = some d) (ob : ∀ β, ObM P M (S β) k h l ops T o e) (r : TblA P M S h l ops cs V (i + 1) (k + 1) rest ((d, e) :: T) T') : TblA P M S h l ops cs V i k (o :: rest) T T'
  | consA {i k : Nat} {o : Oper} {rest : List Oper} {T T' : Tb} (hm : memN i cs = false) (hi : V.ai = i) (hd : o.dst = some V.ad) (ob : ObV P V o) (r : TblA P M S h l ops cs V (i + 1) k rest ((V.ad, .q ptrQ) :: T) T') : TblA P M S h l ops cs V i k (o :: rest) T T'
  | consT {i k : Nat} {o : Oper} {rest : List Oper} {T T' : Tb} (hm : nth? cs k = some i) (hk : V.ka = k) (hd : o.dst = none) (ob : ObT P M S k h l ops T V o) (r : TblA P M S h l ops cs V (i + 1) (k + 1) rest T T') : TblA P M S h l ops cs V i k (o :: rest) T T'
  | consS {i k : Nat} {o : Oper} {rest : List Oper} {T T' : Tb} (hm : nth? cs k = some i) (hk : Nat.beq V.ka k = false) (hd : o.dst = none) (ob : ∀ β, ObS P M (S β) k h l ops T o) (r : TblA P M S h l ops cs V (i + 1) (k + 1) rest T T') : TblA P M S h l ops cs V i k (o :: rest) T T'
inductive ItemA (P : Program) (M : Blks) (S : Nat → List (Blks → GH → Prop)) (h : GH) (l : Fr) (ops : Array Oper) (cs : List Nat) (V : Av) (i : Nat) (o : Oper) (T : Tb) : Option Ent → Prop
  | n {e : Ent} (hm : i ∉ cs) (hi : V.ai ≠ i) (hd : o.dst = some (dstOf o)) (ob : Ob P M h l ops T o e) : ItemA P M S h l ops cs V i o T (some e)
  | m {e : Ent} {k : Nat} (hm : cs[k]? = some i) (hk : V.ka ≠ k) (hi : V.ai ≠ i) (hd : o.dst = some (dstOf o)) (ob : ∀ β, ObM P M (S β) k h l ops T o e) : ItemA P M S h l ops cs V i o T (some e)
  | a (hm : i ∉ cs) (hi : V.ai = i) (he : dstOf o = V.ad) (hd : o.dst = some (dstOf o)) (ob : ObV P V o) : ItemA P M S h l ops cs V i o T (some (.q ptrQ))
  | t (hm : cs[V.ka]? = some i) (hd : o.dst = none) (ob : ObT P M S V.ka h l ops T V o) : ItemA P M S h l ops cs V i o T none
  | s {k : Nat} (hm : cs[k]? = some i) (hk : V.ka ≠ k) (hd : o.dst = none) (ob : ∀ β, ObS P M (S β) k h l ops T o) : ItemA P M S h l ops cs V i o T none
theorem TblA.items {P : Program} {M : Blks} {S : Nat → List (Blks → GH → Prop)} {h : GH} {l : Fr} {ops : Array Oper} {cs : List Nat} {V : Av} {i k : Nat} {os : List Oper} {T T' : Tb} (t : TblA P M S h l ops cs V i k os T T') :
    ∃ es : List (Option Ent), es.length = os.length ∧ T' = (tblOf os es).reverse ++ T ∧ ∀ (j : Nat) (o : Oper), os[j]? = some o → ∃ e, es[j]? = some e ∧ ItemA P M S h l ops cs V (i + j) o ((tblOf (os.take j) (es.take j)).reverse ++ T) e := by
  have hdo : ∀ {o : Oper} {d : Nat}, o.dst = some d → dstOf o = d := fun hd => by unfold dstOf; rw [hd]; rfl
  induction t with
  | nil hk => exact ⟨[], rfl, rfl, fun j o hj => by simp at hj⟩
  | @cons i k o d e rest T T' hm hi hd ob r ih =>
    obtain ⟨es, h1, h2, h3⟩ := ih
    have e1 := hdo hd
    refine ⟨some e :: es, by simp [h1], by rw [h2]; simp [tblOf, e1], fun j x hx => ?_⟩
    cases j with
    | zero => simp at hx; subst hx; exact ⟨_, rfl, .n (fun hmem => by rw [Nat.add_zero] at hmem; rw [memN_iff.2 hmem] at hm; cases hm) (by rw [Nat.add_zero]; exact beq_ne hi) (by rw [hd, e1]) (by simpa [tblOf] using ob)⟩
    | succ j => obtain ⟨e', h4, h5⟩ := h3 j x (by simpa using hx); refine ⟨e', by simpa using h4, ?_⟩; simpa [tblOf, e1, show i + 1 + j = i + (j + 1) by omega] using h5
  | @consM i k o d e rest T T' hm hk hi hd ob r ih =>
    obtain ⟨es, h1, h2, h3⟩ := ih
    have e1 := hdo hd
    refine ⟨some e :: es, by simp [h1], by rw [h2]; simp [tblOf, e1], fun j x hx => ?_⟩
    cases j with
    | zero => simp at hx; subst hx; exact ⟨_, rfl, .m (k := k) (by rw [nth?_eq] at hm; simpa using hm) (beq_ne hk) (by rw [Nat.add_zero]; exact beq_ne hi) (by rw [hd, e1]) (by simpa [tblOf] using ob)⟩
    | succ j => obtain ⟨e', h4, h5⟩ := h3 j x (by simpa using hx); refine ⟨e', by simpa using h4, ?_⟩; simpa [tblOf, e1, show i + 1 + j = i + (j + 1) by omega] using h5
  | @consA i k o rest T T' hm hi hd ob r ih =>
    obtain ⟨es, h1, h2, h3⟩ := ih
    have e1 := hdo hd
    refine ⟨some (.q ptrQ) :: es, by simp [h1], by rw [h2]; simp [tblOf, e1], fun j x hx => ?_⟩
    cases j with
    | zero => simp at hx; subst hx; exact ⟨_, rfl, .a (fun hmem => by rw [Nat.add_zero] at hmem; rw [memN_iff.2 hmem] at hm; cases hm) (by rw [Nat.add_zero]; exact hi) e1 (by rw [hd, e1]) ob⟩
    | succ j => obtain ⟨e', h4, h5⟩ := h3 j x (by simpa using hx); refine ⟨e', by simpa using h4, ?_⟩; simpa [tblOf, e1, show i + 1 + j = i + (j + 1) by omega] using h5
  | @consT i k o rest T T' hm hk hd ob r ih =>
    obtain ⟨es, h1, h2, h3⟩ := ih
    subst hk
    refine ⟨none :: es, by simp [h1], by rw [h2]; simp [tblOf], fun j x hx => ?_⟩
    cases j with
    | zero => simp at hx; subst hx; exact ⟨_, rfl, .t (by rw [nth?_eq] at hm; simpa using hm) hd (by simpa [tblOf] using ob)⟩
    | succ j => obtain ⟨e', h4, h5⟩ := h3 j x (by simpa using hx); refine ⟨e', by simpa using h4, ?_⟩; simpa [tblOf, show i + 1 + j = i + (j + 1) by omega] using h5
  | @consS i k o rest T T' hm hk hd ob r ih =>
    obtain ⟨es, h1, h2, h3⟩ := ih
    refine ⟨none :: es, by simp [h1], by rw [h2]; simp [tblOf], fun j x hx => ?_⟩
    cases j with
    | zero => simp at hx; subst hx; exact ⟨_, rfl, .s (k := k) (by rw [nth?_eq] at hm; simpa using hm) (beq_ne hk) hd (by simpa [tblOf] using ob)⟩
    | succ j => obtain ⟨e', h4, h5⟩ := h3 j x (by simpa using hx); refine ⟨e', by simpa using h4, ?_⟩; simpa [tblOf, show i + 1 + j = i + (j + 1) by omega] using h5
section
variable {P : Program} {nn : Nat} {E : Env} {Q : Exit → Act → World → Prop} {l : Fr} {h : GH} {M : Blks} {ops : Array Oper} {es : List (Option Ent)} {S : Nat → List (Blks → GH → Prop)} {cs : List Nat} {V : Av}
structure SetupA (P : Program) (M : Blks) (S : Nat → List (Blks → GH → Prop)) (h : GH) (l : Fr) (ops : Array Oper) (cs : List Nat) (V : Av) (nn : Nat) (es : List (Option Ent)) : Prop where
  all : AllOk ops 0 ops.toList
  len : es.length = ops.size
  item : ∀ (i : Nat) (o : Oper), ops[i]? = some o → ∃ e, es[i]? = some e ∧ ItemA P M S h l ops cs V i o (tblOf (ops.toList.take i) (es.take i)).reverse e
  small : ∀ (i : Nat) (o : Oper), ops[i]? = some o → o.dst ≠ none → dstOf o < nn
theorem SetupA.hes (s : SetupA P M S h l ops cs V nn es) : ∀ (i : Nat) (o : Oper) (e : Ent), ops[i]? = some o → es[i]? = some (some e) → o.dst = some (dstOf o) := fun i o e ho he => by
  obtain ⟨e', he', it⟩ := s.item i o ho
  rw [he] at he'
  injection he' with he'
  subst he'
  cases it <;> assumption
theorem SetupA.hnone (s : SetupA P M S h l ops cs V nn es) : ∀ (i : Nat) (o : Oper), ops[i]? = some o → es[i]? = some none → o.dst = none := fun i o ho he => by
  obtain ⟨e', he', it⟩ := s.item i o ho
  rw [he] at he'
  injection he' with he'
  subst he'
  cases it <;> assumption
theorem Good.appL {w : World} {h : GH} {M D F : Blks} (g : Good w h (M ++ (D ++ F))) : Good w h (M ++ D) := by rw [← List.append_assoc] at g; exact g.left
theorem phaseA (s : SetupA P M S h l ops cs V nn es) (hchain : ∀ (k a b : Nat) (o : Oper), cs[k]? = some a → cs[k + 1]? = some b → ops[b]? = some o → a ∈ ons o) (hnd : ∀ (j k c : Nat), cs[j]? = some c → cs[k]? = some c → j = k) (hcp : ∀ c ∈ cs, c < ops.size)
    (hka : V.ka < cs.length) (haa : ∃ oa, ops[V.ai]? = some oa ∧ oa.dst = some V.ad) (hao : ∀ (c : Nat) (o : Oper), cs[V.ka]? = some c → ops[c]? = some o → V.ai ∈ ons o) {w0 : World} {M0 : Blks}
    (hend : ∀ a w h' D, GH.le h h' → Good w h' (M ++ D) → Step w0 h M0 w h' (M ++ D) → ∀ β, HS (S β) cs.length D h' → a.tmps[V.ad]? = some (.pointer (some ⟨β, 0, none⟩)) → a.defers = [] → a.tmps.size = nn →
      (∀ (i : Nat) (o : Oper) (e : Ent), ops[i]? = some o → es[i]? = some (some e) → ∃ x, a.tmps[dstOf o]? = some x ∧ e.holds x h') → ∃ lf hq, LFX ops es l a lf ∧ Qs nn E Q .normal lf hq (M ++ D) ∧ Inv E w hq (M ++ D)) :
    ∀ (fuel : Nat) (listed : Array Bool) (a : Act) (w : World) (h' : GH) (D F : Blks) (k β : Nat), ((k ≤ V.ka → β = 0) ∧ (V.ka < k → a.tmps[V.ad]? = some (.pointer (some ⟨β, 0, none⟩)))) → fuel = unl ops.size listed → k ≤ cs.length → (∀ (j c : Nat), cs[j]? = some c → (listed.getD c false = true ↔ j < k)) →
      ((V.ka < k ∧ F = []) ∨ (k ≤ V.ka ∧ listed.getD V.ai false = false ∧ F = []) ∨ (k ≤ V.ka ∧ listed.getD V.ai false = true ∧ ∃ b, F = [(b, cel V.zs V.t)] ∧ a.tmps[V.ad]? = some (.pointer (some ⟨b, 0, none⟩)))) →
      HS (S β) k D h' → GH.le h h' → Good w h' (M ++ (D ++ F)) → Step w0 h M0 w h' (M ++ (D ++ F)) → Core ops es l nn listed a h' → wpAny P .any ops Q fuel listed a w := by
  intro fuel
  induction fuel with
  | zero =>
    intro listed a w h' D F k β hβ hf hk hck hF hS hle hg hsp c
    have hfull : ∀ j, j < ops.size → listed.getD j false = true := fun j hj => by
      cases hx : listed.getD j false with
      | true => rfl
      | false =>
        have h1 := getD_ft (by rw [c.size]; exact hj) hx
        have : 0 < unl ops.size listed := List.countP_pos_iff.2 ⟨j, List.mem_range.2 hj, by simp [h1]⟩
        omega
    have hkc : k = cs.length := by
      refine Nat.le_antisymm hk (Nat.le_of_not_lt fun hlt => ?_)
      have h1 := List.getElem?_eq_getElem hlt
      have := (hck k _ h1).1 (hfull _ (hcp _ (List.getElem_mem hlt)))
      omega
    subst hkc
    have hF0 : F = [] := by
      rcases hF with h1 | h1 | h1
      · exact h1.2
      · omega
      · omega
    subst hF0
    rw [List.append_nil] at hg hsp
    have hdone : ∀ (i : Nat) (o : Oper) (e : Ent), ops[i]? = some o → es[i]? = some (some e) → ∃ x, a.tmps[dstOf o]? = some x ∧ e.holds x h' := fun i o e ho he => c.done i o e ho he (hfull i (Array.getElem?_eq_some_iff.1 ho).1)
    obtain ⟨lf, hq, h1, h2, h3⟩ := hend a w h' D hle hg hsp β hS (hβ.2 hka) c.defers c.tsize hdone
    refine ⟨List.eq_nil_iff_forall_not_mem.2 fun i hi => ?_, h2 a w ⟨c.defers, c.tsize, fun t v ht => ?_⟩ h3⟩
    · obtain ⟨o, ho, hl, _⟩ := ready_iff.1 hi
      rw [getD_tf (hfull i (Array.getElem?_eq_some_iff.1 ho).1)] at hl
      cases hl
    · rcases h1 t v ht with ⟨i, o, ho, hd, he | he⟩ | ⟨h4, h5⟩
      · obtain ⟨x, hx, hxe⟩ := hdone i o _ ho he
        have hd2 := s.hes i o _ ho he
        rw [hd] at hd2
        injection hd2 with hd2
        rw [← hd2] at hx
        have : x = v := hxe
        rw [hx, this]
      · exact he
      · exact c.base t v h4 fun i o ho _ => h5 i o ho
  | succ fuel ih =>
    intro listed a w h' D F k β hβ hf hk hck hF hS hle hg hsp c
    have hex : ∃ j, j < ops.size ∧ listed.getD j false = false := by
      have : 0 < unl ops.size listed := by omega
      obtain ⟨j, hj, hx⟩ := List.countP_pos_iff.1 this
      exact ⟨j, List.mem_range.1 hj, getD_ff (by simpa using hx)⟩
    obtain ⟨m, _, _, _, hmr⟩ := least_ready s.all c.size hex
    refine ⟨fun e => by rw [e] at hmr; simp at hmr, fun i hir => ?_⟩
    obtain ⟨o, ho, hil, hon⟩ := ready_iff.1 hir
    have hilt := (Array.getElem?_eq_some_iff.1 ho).1
    have hil' := getD_ff hil
    have hset : ∀ j d, (listed.setIfInBounds i true).getD j d = if i = j then true else listed.getD j d := fun j d => getD_set (by rw [c.size]; exact hilt)
    have hfuel : fuel = unl ops.size (listed.setIfInBounds i true) := by have := unl_set (n := ops.size) c.size hilt hil; omega
    obtain ⟨e, he, it⟩ := s.item i o ho
    have hfind := c.finds s.all s.len s.hes s.hnone ho hil' hon
    -- the slot of the variable stays
    have keep : ∀ {d : Nat} {v : Value}, o.dst = some d → i ≠ V.ai → d < nn → (a.put (some d) v).tmps[V.ad]? = a.tmps[V.ad]? := fun {d v} hd hne hn => by
      rw [put_get (by rw [c.tsize]; exact hn), if_neg]
      rintro rfl
      obtain ⟨oa, h1, h2⟩ := haa
      exact dst_ne s.all hne ho h1 hd h2
    have hFn : ∀ (k1 : Nat) (a' : Act), (V.ka < k → V.ka < k1) → (k ≤ V.ka → k1 ≤ V.ka) → i ≠ V.ai → a'.tmps[V.ad]? = a.tmps[V.ad]? → ((V.ka < k1 ∧ F = []) ∨ (k1 ≤ V.ka ∧ (listed.setIfInBounds i true).getD V.ai false = false ∧ F = []) ∨ (k1 ≤ V.ka ∧ (listed.setIfInBounds i true).getD V.ai false = true ∧ ∃ b, F = [(b, cel V.zs V.t)] ∧ a'.tmps[V.ad]? = some (.pointer (some ⟨b, 0, none⟩)))) := fun k1 a' hk1 hk2 hne hs => by
      rw [hset, if_neg hne, hs]
      rcases hF with h1 | h1 | h1
      · exact .inl ⟨hk1 h1.1, h1.2⟩
      · exact .inr (.inl ⟨hk2 h1.1, h1.2⟩)
      · exact .inr (.inr ⟨hk2 h1.1, h1.2⟩)
    have hdn : ∀ {d : Nat}, o.dst = some d → dstOf o = d := fun hd => by unfold dstOf; rw [hd]; rfl
    unfold wpOp
    rw [ho]
    simp only []
    have hckn : (∀ j c, cs[j]? = some c → c ≠ i) → ∀ (j c : Nat), cs[j]? = some c → ((listed.setIfInBounds i true).getD c false = true ↔ j < k) := fun hni j c hjc => by
      rw [hset, if_neg (fun e1 => hni j c hjc e1.symm)]; exact hck j c hjc
    have hkk' : ∀ k', cs[k']? = some i → k = k' := fun k' hm => by
      have h1 := hck k' i hm
      have h2 : ¬ k' < k := fun hlt => by rw [h1.2 hlt] at hil'; cases hil'
      refine Nat.le_antisymm (Nat.le_of_not_lt h2) (Nat.le_of_not_lt fun hlt => ?_)
      obtain ⟨q, rfl⟩ : ∃ q, k' = q + 1 := ⟨k' - 1, by omega⟩
      have hql : q < cs.length := by have := (List.getElem?_eq_some_iff.1 hm).1; omega
      have hq := List.getElem?_eq_getElem hql
      have := hon _ (hchain q _ i o hq hm ho)
      have := (hck q _ hq).1 this
      omega
    have hckS : cs[k]? = some i → ∀ (j c : Nat), cs[j]? = some c → ((listed.setIfInBounds i true).getD c false = true ↔ j < k + 1) := fun hm j c' hjc => by
      rw [hset]
      by_cases e1 : i = c'
      · subst e1
        have := hnd j k i hjc hm
        subst this
        simp
      · rw [if_neg e1, hck j c' hjc]
        constructor
        · intro h1; omega
        · intro h1
          rcases Nat.lt_succ_iff_lt_or_eq.1 h1 with h2 | h2
          · exact h2
          · subst h2; rw [hjc] at hm; injection hm with hm; exact (e1 hm.symm).elim
    have hsm : ∀ {d : Nat}, o.dst = some d → d < nn := fun {d} hd => by have := s.small i o ho (by rw [hd]; simp); rwa [hdn hd] at this
    cases it with
    | @n e hm hi hd ob =>
      have := ob a w h' (D ++ F) hle hg hfind (wpAny P .any ops Q fuel (listed.setIfInBounds i true)) Q fun v w' h'' hg' hst2 hv => by
        have c' := c.put s.all s.hes ho he (s.small i o ho (by rw [hd]; simp)) hon hst2.le hv
        rw [hd]
        exact ih _ _ w' h'' D F k β ⟨hβ.1, fun hx => by rw [keep hd (Ne.symm hi) (hsm hd)]; exact hβ.2 hx⟩ hfuel hk (hckn fun j c' hjc e1 => by subst e1; exact hm (List.mem_of_getElem? hjc)) (hFn k _ id id (Ne.symm hi) (keep hd (Ne.symm hi) (hsm hd))) (hS.le hst2.le) (hle.trans hst2.le) hg' (hsp.trans hst2) c'
      split at this
      · rename_i hw; rw [if_pos hw]; exact .inl this
      · rename_i hw; rw [if_neg hw]; exact this
    | @m e k' hm hk0 hi hd ob =>
      obtain rfl := hkk' k' hm
      have hklt : k < cs.length := (List.getElem?_eq_some_iff.1 hm).1
      have hg0 := hg
      rw [← List.append_assoc] at hg0
      obtain ⟨hw, hwp⟩ := ob β a w h' D hle hg.appL hS hfind (wpAny P .any ops Q fuel (listed.setIfInBounds i true)) Q fun v w' h'' D' hg' hst2 hS' hv => by
        have c' := c.put s.all s.hes ho he (s.small i o ho (by rw [hd]; simp)) hon hst2.le hv
        have hg2 := Good.app hg0 hg' hst2
        have hs2 := hst2.app F
        rw [List.append_assoc] at hg2
        rw [List.append_assoc, List.append_assoc] at hs2
        rw [hd]
        exact ih _ _ w' h'' D' F (k + 1) β ⟨fun hx => hβ.1 (by omega), fun hx => by rw [keep hd (Ne.symm hi) (hsm hd)]; exact hβ.2 (by omega)⟩ hfuel (by omega) (hckS hm) (hFn (k + 1) _ (by omega) (by omega) (Ne.symm hi) (keep hd (Ne.symm hi) (hsm hd))) hS' (hle.trans hst2.le) hg2 (hsp.trans hs2) c'
      rw [if_pos hw]
      exact .inl hwp
    | a hm hi heq hd ob =>
      subst hi
      obtain ⟨hgd, ob⟩ := ob
      have hw : Region.wanted o (yielded ops a.tmps) = true := by simp only [Region.wanted, hgd]
      rw [if_pos hw]
      refine .inl ?_
      unfold Oper.wp
      rw [ob a w]
      show wpAny P .any ops Q fuel (listed.setIfInBounds V.ai true) (a.put o.dst (.pointer (some ⟨w.heap.size, 0, none⟩))) (w.alloc (cel V.zs V.t))
      have hkle : k ≤ V.ka ∧ F = [] := by
        rcases hF with h1 | h1 | h1
        · exfalso
          have h2 := List.getElem?_eq_getElem hka
          have h3 := (hck _ _ h2).2 h1.1
          have h4 := hcp _ (List.getElem_mem hka)
          have h5 := Array.getElem?_eq_getElem h4
          have := c.closed _ _ h5 h3 V.ai (hao _ _ h2 h5)
          rw [hil'] at this; cases this
        · exact ⟨h1.1, h1.2.2⟩
        · rw [hil'] at h1; cases h1.2.1
      obtain ⟨hkle, rfl⟩ := hkle
      rw [List.append_nil] at hg hsp
      have hp : ((w.heap.size, cel V.zs V.t) :: (M ++ D)).Perm (M ++ (D ++ [(w.heap.size, cel V.zs V.t)])) := by
        rw [← List.append_assoc]; exact (List.perm_append_singleton _ _).symm
      have hg2 := (hg.new (cel V.zs V.t)).perm hp
      have hs2 := (Step.new (w := w) (h := h') (M := M ++ D) (cel V.zs V.t)).perm hp
      have c' := c.put s.all s.hes ho he (s.small V.ai o ho (by rw [hd]; simp)) hon (GH.le.refl _) (v := .pointer (some ⟨w.heap.size, 0, none⟩)) ⟨h', GH.le.refl _, w.heap.size, rfl⟩
      rw [hd]
      refine ih _ _ _ h' D [(w.heap.size, cel V.zs V.t)] k β ⟨hβ.1, fun hx => by omega⟩ hfuel hk (hckn fun j c' hjc e1 => by subst e1; exact hm (List.mem_of_getElem? hjc)) (.inr (.inr ⟨hkle, by rw [hset, if_pos rfl], w.heap.size, rfl, ?_⟩)) hS hle hg2 (hsp.trans hs2) c'
      rw [put_get (by rw [c.tsize]; exact hsm hd), if_pos heq]
    | t hm hd ob =>
      obtain rfl := hkk' _ hm
      obtain ⟨hgd, ob⟩ := ob
      have hlai := hon _ (hao _ _ hm ho)
      obtain ⟨b, rfl, hslot⟩ : ∃ b, F = [(b, cel V.zs V.t)] ∧ a.tmps[V.ad]? = some (.pointer (some ⟨b, 0, none⟩)) := by
        rcases hF with h1 | h1 | h1
        · omega
        · rw [hlai] at h1; cases h1.2.1
        · exact h1.2.2
      have hfind2 : Finds a h' ((V.ad, .v (.pointer (some ⟨b, 0, none⟩))) :: (tblOf (ops.toList.take i) (es.take i)).reverse) l (o.looksAt ops) := fun t ht => by
        simp only [lkT]
        cases hb : Nat.beq V.ad t with
        | true =>
          have := Nat.eq_of_beq_eq_true hb
          subst this
          exact ⟨_, hslot, rfl⟩
        | false => exact hfind t ht
      obtain rfl := hβ.1 (Nat.le_refl _)
      obtain ⟨w', h'', D', hrun, hg', hst2, hS'⟩ := ob b a w h' D hle hg hS hfind2
      have hw : Region.wanted o (yielded ops a.tmps) = true := by simp only [Region.wanted, hgd]
      rw [if_pos hw]
      refine .inl ?_
      unfold Oper.wp
      rw [hrun]
      show wpAny P .any ops Q fuel (listed.setIfInBounds i true) (a.put o.dst undef) w'
      rw [hd]
      have c' := c.skip ho hd he hon
      have c'' : Core ops es l nn (listed.setIfInBounds i true) a h'' := ⟨c'.size, c'.defers, c'.tsize, fun i o e h1 h2 h3 => by obtain ⟨x, h4, h5⟩ := c'.done i o e h1 h2 h3; exact ⟨x, h4, h5.le hst2.le⟩, c'.base, c'.closed⟩
      exact ih _ _ w' h'' D' [] (V.ka + 1) b ⟨fun hx => by omega, fun _ => hslot⟩ hfuel (by omega) (hckS hm) (.inl ⟨by omega, rfl⟩) hS' (hle.trans hst2.le) (by rw [List.append_nil]; exact hg') (by rw [List.append_nil]; exact hsp.trans hst2) c''
    | @s k' hm hk0 hd ob =>
      obtain rfl := hkk' k' hm
      have hklt : k < cs.length := (List.getElem?_eq_some_iff.1 hm).1
      have hg0 := hg
      rw [← List.append_assoc] at hg0
      obtain ⟨hgd, _⟩ := ob 0
      obtain ⟨w', h'', D', hrun, hg', hst2, hS'⟩ := (ob β).2 a w h' D hle hg.appL hS hfind
      have hw : Region.wanted o (yielded ops a.tmps) = true := by simp only [Region.wanted, hgd]
      rw [if_pos hw]
      refine .inl ?_
      unfold Oper.wp
      rw [hrun]
      show wpAny P .any ops Q fuel (listed.setIfInBounds i true) (a.put o.dst undef) w'
      rw [hd]
      have c' := c.skip ho hd he hon
      have c'' : Core ops es l nn (listed.setIfInBounds i true) a h'' := ⟨c'.size, c'.defers, c'.tsize, fun i o e h1 h2 h3 => by obtain ⟨x, h4, h5⟩ := c'.done i o e h1 h2 h3; exact ⟨x, h4, h5.le hst2.le⟩, c'.base, c'.closed⟩
      have hg2 := Good.app hg0 hg' hst2
      have hs2 := hst2.app F
      rw [List.append_assoc] at hg2
      rw [List.append_assoc, List.append_assoc] at hs2
      have hne : i ≠ V.ai := fun e1 => by
        obtain ⟨oa, h1, h2⟩ := haa
        rw [← e1, ho] at h1
        injection h1 with h1
        rw [← h1, hd] at h2; cases h2
      exact ih _ _ w' h'' D' F (k + 1) β ⟨fun hx => hβ.1 (by omega), fun hx => hβ.2 (by omega)⟩ hfuel (by omega) (hckS hm) (hFn (k + 1) a (by omega) (by omega) hne rfl) hS' (hle.trans hst2.le) hg2 (hsp.trans hs2) c''
theorem finTA_lf (s : SetupA P M S h l ops cs V nn es) (haa : ∃ oa, ops[V.ai]? = some oa ∧ oa.dst = some V.ad) {a : Act} {h' : GH} {β : Nat} (hslot : a.tmps[V.ad]? = some (.pointer (some ⟨β, 0, none⟩)))
    (hdone : ∀ (i : Nat) (o : Oper) (e : Ent), ops[i]? = some o → es[i]? = some (some e) → ∃ x, a.tmps[dstOf o]? = some x ∧ e.holds x h') {W : List Nat} (hc : noClash l W ops.toList = true) {φ : Fr → Prop} (hf : FinT ((V.ad, .v (.pointer (some ⟨β, 0, none⟩))) :: (tblOf ops.toList es).reverse) l h' W φ) :
    ∃ lf, φ lf ∧ LFX ops es l a lf := by
  have gen : ∀ (W0 : List Nat) (φ : Fr → Prop), FinT ((V.ad, .v (.pointer (some ⟨β, 0, none⟩))) :: (tblOf ops.toList es).reverse) l h' W0 φ → ∃ lf, φ lf ∧ ∀ t v, lk lf t = some v → (∃ (i : Nat) (o : Oper), ops[i]? = some o ∧ o.dst = some t ∧ (es[i]? = some (some (.v v)) ∨ a.tmps[t]? = some v)) ∨ (t ∉ W0 ∧ lk l t = some v) := by
    intro W0
    induction W0 with
    | nil => intro φ hφ; exact ⟨l, hφ, fun t v ht => .inr ⟨by simp, ht⟩⟩
    | cons u r ih =>
      intro φ hφ
      simp only [FinT] at hφ
      have hz := lkT_tblOf (os := ops.toList) (es := es) (by simp [s.len]) (fun i o e h1 h2 => s.hes i o e (by simpa using h1) h2) u
      have fin : ∀ (x : Value), (∃ (i : Nat) (o : Oper), ops[i]? = some o ∧ o.dst = some u ∧ (es[i]? = some (some (.v x)) ∨ a.tmps[u]? = some x)) → FinT ((V.ad, .v (.pointer (some ⟨β, 0, none⟩))) :: (tblOf ops.toList es).reverse) l h' r (fun lf => φ ((u, x) :: lf)) → ∃ lf, φ lf ∧ ∀ t v, lk lf t = some v → (∃ (i : Nat) (o : Oper), ops[i]? = some o ∧ o.dst = some t ∧ (es[i]? = some (some (.v v)) ∨ a.tmps[t]? = some v)) ∨ (t ∉ u :: r ∧ lk l t = some v) := by
        intro x hx hfx
        obtain ⟨lf, h1, h2⟩ := ih _ hfx
        refine ⟨(u, x) :: lf, h1, fun t v ht => ?_⟩
        simp only [lk] at ht
        cases hb : Nat.beq u t with
        | true =>
          rw [hb] at ht
          have := Nat.eq_of_beq_eq_true hb
          subst this
          simp only [cond_true] at ht
          injection ht with ht
          subst ht
          exact .inl hx
        | false =>
          rw [hb] at ht
          rcases h2 t v ht with h3 | ⟨h3, h4⟩
          · exact .inl h3
          · refine .inr ⟨fun hm => ?_, h4⟩
            rcases List.mem_cons.1 hm with e | hm
            · rw [e] at hb; simp at hb
            · exact h3 hm
      simp only [lkT] at hφ
      cases hb0 : Nat.beq V.ad u with
      | true =>
        rw [hb0] at hφ
        have := Nat.eq_of_beq_eq_true hb0
        subst this
        obtain ⟨oa, h1, h2⟩ := haa
        exact fin _ ⟨V.ai, oa, h1, h2, .inr hslot⟩ hφ
      | false =>
      rw [hb0] at hφ
      simp only [cond_false] at hφ
      cases hk : lkT (tblOf ops.toList es).reverse u with
      | none => rw [hk] at hφ; exact hφ.elim
      | some e =>
        rw [hk] at hφ hz
        obtain ⟨i, o, h1, h2, h3⟩ := hz
        have h1' : ops[i]? = some o := by simpa using h1
        cases e with
        | v x => exact fin x ⟨i, o, h1', h2, .inl h3⟩ hφ
        | q Qx =>
          obtain ⟨x, hx, hxe⟩ := hdone i o _ h1' h3
          have hd := s.hes i o _ h1' h3
          rw [h2] at hd
          injection hd with hd
          rw [← hd] at hx
          exact fin x ⟨i, o, h1', h2, .inr hx⟩ (hφ x hxe)
  obtain ⟨lf, h1, h2⟩ := gen W φ hf
  refine ⟨lf, h1, fun t v ht => ?_⟩
  rcases h2 t v ht with h3 | ⟨h3, h4⟩
  · exact .inl h3
  · refine .inr ⟨h4, fun i o ho hd => ?_⟩
    rcases noClash_iff hc o (List.mem_of_getElem? (i := i) (by simpa using ho)) t hd with h5 | h5
    · exact h3 h5
    · rw [h4] at h5; cases h5
end
/-- The one that fills it comes behind the one that makes it. -/
def okAv (V : Av) (cs : List Nat) (os : List Oper) : Bool := (match nth? os V.ai with | some o => eqD o.dst (some V.ad) | none => false) && (match nth? cs V.ka with | some c => (match nth? os c with | some o => memN V.ai (ons o) | none => false) | none => false)
theorem okAv_spec {V : Av} {cs : List Nat} {os : List Oper} (h : okAv V cs os = true) : V.ka < cs.length ∧ (∃ oa, os[V.ai]? = some oa ∧ oa.dst = some V.ad) ∧ ∀ (c : Nat) (o : Oper), cs[V.ka]? = some c → os[c]? = some o → V.ai ∈ ons o := by
  simp only [okAv, Bool.and_eq_true, nth?_eq] at h
  obtain ⟨h1, h2⟩ := h
  refine ⟨?_, ?_, ?_⟩
  · cases hc : cs[V.ka]? with
    | none => rw [hc] at h2; cases h2
    | some c => exact (List.getElem?_eq_some_iff.1 hc).1
  · cases ho : os[V.ai]? with
    | none => rw [ho] at h1; cases h1
    | some o =>
      rw [ho] at h1
      dsimp only at h1
      refine ⟨o, rfl, ?_⟩
      cases hd : o.dst with
      | none => rw [hd] at h1; cases h1
      | some d => rw [hd] at h1; simp only [eqD] at h1; rw [Nat.eq_of_beq_eq_true h1]
  · intro c o hc ho
    rw [hc] at h2
    simp only [ho] at h2
    exact memN_iff.1 h2
section
variable {P : Program} {nn : Nat} {E : Env} {Q : Exit → Act → World → Prop} {l l' : Fr} {h : GH} {M : Blks} {ops : Array Oper} {T : Tb}
variable {d : Option Tmp} {ty : TypeId} {pos : String} {aft : Array Edge} {g : Option (Nat × Bool)} {op : Op}
variable {S : Nat → List (Blks → GH → Prop)} {p : Nat} {cs : List Nat} {V : Av} {i k : Nat} {rest : List Oper} {φ : Tb → Prop}
theorem St.drawA0 {id : Nat} {os : List Oper} {T' : Tb} {M1 D0 : Blks} (W cs : List Nat) [Mixed P] (h1 : okAll os.toArray 0 os = true) (h3 : smallDst nn os = true) (h4 : okCsX os cs = true) (h7 : okAv V cs os = true)
    (hM : M = M1 ++ D0) (hS : HS (S 0) 0 D0 h) (ht : TblA P M1 S h l os.toArray cs V 0 0 os [] T') (hc : noClash l W os = true)
    (k : ∀ h' D β, GH.le h h' → HS (S β) cs.length D h' → FinT ((V.ad, .v (.pointer (some ⟨β, 0, none⟩))) :: T') l h' W (fun lf => Qs nn E Q .normal lf h' (M1 ++ D))) :
    St P nn E (.region id os.toArray true) Q l h M := fun a w ha hi => by
  subst hM
  obtain ⟨es, he1, he2, he3⟩ := ht.items
  rw [List.append_nil] at he2
  have hA := okAll_spec h1
  simp only [okCsX, Bool.and_eq_true] at h4
  obtain ⟨hc1, hc2⟩ := okChain_spec h4.2
  have hset : SetupA P M1 S h l os.toArray cs V nn es := by
    refine ⟨by simpa using hA, by simpa using he1, fun i o ho => ?_, fun i o ho hd => smallDst_iff h3 o (List.mem_of_getElem? (i := i) (by simpa using ho)) hd⟩
    obtain ⟨e, h5, h6⟩ := he3 i o (by simpa using ho)
    rw [Nat.zero_add, List.append_nil] at h6
    exact ⟨e, h5, by simpa using h6⟩
  have hi1 := hi.next hi.good.drew Step.drew
  refine wp_region_any Mixed.m ?_
  refine phaseA (E := E) hset (fun k a b o h5 h6 h7 => hc1 k a b o h5 h6 (by simpa using h7)) (fun j k c h5 h6 => ?_) (fun c hcm => by have := allLt_iff.1 h4.1 c hcm; simpa using this) (okAv_spec h7).1 (by simpa using (okAv_spec h7).2.1) (fun c o h8 h9 => (okAv_spec h7).2.2 c o h8 (by simpa using h9)) (w0 := w.drew) (M0 := M1 ++ D0) ?_
    _ _ a w.drew h D0 [] 0 0 ⟨fun _ => rfl, fun hx => by omega⟩ ?_ (Nat.zero_le _) ?_ (.inr (.inl ⟨Nat.zero_le _, by simp [Array.getD_eq_getD_getElem?, Array.getElem?_replicate]; split <;> rfl, rfl⟩)) hS (GH.le.refl _) (by rw [List.append_nil]; exact hi1.good) (by rw [List.append_nil]; exact Step.refl _ _ _) ⟨by simp, ha.defers, ha.size, ?_, fun t v hv _ => ha.ev t v hv, ?_⟩
  · rcases Nat.lt_trichotomy j k with hlt | he | hgt
    · have := hc2 j k c c hlt h5 h6; omega
    · exact he
    · have := hc2 k j c c hgt h6 h5; omega
  · intro a' w' h' D hle hg hst β hSD hslot hde hsz hdone
    have hi2 := hi1.next hg hst
    have hfin := k h' D β hle hSD
    rw [he2] at hfin
    obtain ⟨lf, hsq, hlf⟩ := finTA_lf hset (by simpa using (okAv_spec h7).2.1) hslot hdone (by simpa using hc) (by simpa using hfin)
    exact ⟨lf, h', hlf, hsq, hi2⟩
  · have : ∀ n, n ≤ os.length → (List.range n).countP (fun i => !(Array.replicate os.toArray.size false).getD i true) = n := by
      intro n
      induction n with
      | zero => intro _; simp
      | succ n ih =>
        intro hn
        rw [List.range_succ, List.countP_append, ih (by omega)]
        have h0 : (Array.replicate os.toArray.size false).getD n true = false := by simp [Array.getD_eq_getD_getElem?, show n < os.length by omega]
        have h1 : [n].countP (fun i => !(Array.replicate os.toArray.size false).getD i true) = 1 := by simp only [List.countP_cons, List.countP_nil, h0]; rfl
        omega
    have := this os.length (Nat.le_refl _)
    unfold unl
    simp only [List.size_toArray] at this ⊢
    exact this.symm
  · intro j c _
    constructor
    · intro hx
      exfalso
      simp only [Array.getD_eq_getD_getElem?, Array.getElem?_replicate] at hx
      split at hx <;> simp at hx
    · intro hx; omega
  · intro i o e _ _ hx
    exfalso
    simp only [Array.getD_eq_getD_getElem?, Array.getElem?_replicate] at hx
    split at hx <;> simp at hx
  · intro i o _ hx
    exfalso
    simp only [Array.getD_eq_getD_getElem?, Array.getElem?_replicate] at hx
    split at hx <;> simp at hx
/-! ### the table, with what is asked behind it -/
def TA (P : Program) (M : Blks) (S : Nat → List (Blks → GH → Prop)) (h : GH) (l : Fr) (ops : Array Oper) (cs : List Nat) (V : Av) (i k : Nat) (os : List Oper) (T : Tb) (φ : Tb → Prop) : Prop := ∃ T', TblA P M S h l ops cs V i k os T T' ∧ φ T'
theorem TA.cons {o : Oper} {d : Nat} {e : Ent} (hm : memN i cs = false) (hi : Nat.beq V.ai i = false) (hd : o.dst = some d) (ob : Ob P M h l ops T o e) (r : TA P M S h l ops cs V (i + 1) k rest ((d, e) :: T) φ) : TA P M S h l ops cs V i k (o :: rest) T φ := by
  obtain ⟨T', h1, h2⟩ := r
  exact ⟨T', .cons hm hi hd ob h1, h2⟩
theorem TA.consM {o : Oper} {d : Nat} {e : Ent} (hm : nth? cs k = some i) (hk : Nat.beq V.ka k = false) (hi : Nat.beq V.ai i = false) (hd : o.dst = some d) (ob : ∀ β, ObM P M (S β) k h l ops T o e) (r : TA P M S h l ops cs V (i + 1) (k + 1) rest ((d, e) :: T) φ) : TA P M S h l ops cs V i k (o :: rest) T φ := by
  obtain ⟨T', h1, h2⟩ := r
  exact ⟨T', .consM hm hk hi hd ob h1, h2⟩
theorem TA.consS {o : Oper} (hm : nth? cs k = some i) (hk : Nat.beq V.ka k = false) (hd : o.dst = none) (ob : ∀ β, ObS P M (S β) k h l ops T o) (r : TA P M S h l ops cs V (i + 1) (k + 1) rest T φ) : TA P M S h l ops cs V i k (o :: rest) T φ := by
  obtain ⟨T', h1, h2⟩ := r
  exact ⟨T', .consS hm hk hd ob h1, h2⟩
theorem TA.consA {o : Oper} (hm : memN i cs = false) (hi : V.ai = i) (hd : o.dst = some V.ad) (ob : ObV P V o) (r : TA P M S h l ops cs V (i + 1) k rest ((V.ad, .q ptrQ) :: T) φ) : TA P M S h l ops cs V i k (o :: rest) T φ := by
  obtain ⟨T', h1, h2⟩ := r
  exact ⟨T', .consA hm hi hd ob h1, h2⟩
theorem TA.consT {o : Oper} (hm : nth? cs k = some i) (hk : V.ka = k) (hd : o.dst = none) (ob : ObT P M S k h l ops T V o) (r : TA P M S h l ops cs V (i + 1) (k + 1) rest T φ) : TA P M S h l ops cs V i k (o :: rest) T φ := by
  obtain ⟨T', h1, h2⟩ := r
  exact ⟨T', .consT hm hk hd ob h1, h2⟩
theorem TA.nil (hk : k = cs.length) (kk : φ T) : TA P M S h l ops cs V i k [] T φ := ⟨T, .nil hk, kk⟩
theorem TA.isTA {os : List Oper} (kk : TA P M S h l ops cs V i k os T φ) : TA P M S h l ops cs V i k os T φ := kk
theorem TA.isN {d : Nat} (kk : TA P M S h l ops cs V i k (⟨some d, op, ty, pos, aft, none⟩ :: rest) T φ) : TA P M S h l ops cs V i k (⟨some d, op, ty, pos, aft, none⟩ :: rest) T φ := kk
theorem TA.isG {d : Nat} {g : Nat × Bool} (kk : TA P M S h l ops cs V i k (⟨some d, op, ty, pos, aft, some g⟩ :: rest) T φ) : TA P M S h l ops cs V i k (⟨some d, op, ty, pos, aft, some g⟩ :: rest) T φ := kk
theorem TA.isSt (kk : TA P M S h l ops cs V i k (⟨none, op, ty, pos, aft, none⟩ :: rest) T φ) : TA P M S h l ops cs V i k (⟨none, op, ty, pos, aft, none⟩ :: rest) T φ := kk
theorem St.drawA {id : Nat} {os : List Oper} {M1 D0 : Blks} (W cs : List Nat) (S : Nat → List (Blks → GH → Prop)) (V : Av) [Mixed P] (h1 : okAll os.toArray 0 os = true) (h3 : smallDst nn os = true) (h4 : okCsX os cs = true) (h7 : okAv V cs os = true) (hc : noClash l W os = true)
    (hM : M = M1 ++ D0) (hS : HS (S 0) 0 D0 h)
    (t : TA P M1 S h l os.toArray cs V 0 0 os [] (fun T' => ∀ h' D β, GH.le h h' → HS (S β) cs.length D h' → FinT ((V.ad, .v (.pointer (some ⟨β, 0, none⟩))) :: T') l h' W (fun lf => Qs nn E Q .normal lf h' (M1 ++ D)))) : St P nn E (.region id os.toArray true) Q l h M := by
  obtain ⟨T', h5, h6⟩ := t
  exact St.drawA0 W cs h1 h3 h4 h7 hM hS h5 hc h6
theorem ObV.alloc {V : Av} {t : TypeId} {dsc sz z ag} [TI P t dsc sz z ag] (ht : t = V.t) (hz : cellsL z = some V.zs) : ObV P V ⟨d, .alloc t, ty, pos, aft, none⟩ := ⟨rfl, fun a w => by
  subst ht
  simp only [execOp, Instr.alloc, Sem.run_bind, TI.zero (P := P) (t := V.t), Result.andThen_ok, newVar, newRow, cellsL_eq hz]; rfl⟩
theorem ObT.of {V : Av} {o : Oper} {R : Blks → GH → Prop} {R' : Nat → Blks → GH → Prop} (hk : (S 0)[k]? = some R) (hk' : ∀ b, (S b)[k + 1]? = some (R' b)) (hg0 : o.guard = none)
    (c : ∀ b h' D, GH.le h h' → (∃ h2, GH.le h2 h' ∧ R D h2) → ∃ l' D', selL ((V.ad, .v (.pointer (some ⟨b, 0, none⟩))) :: T) l (o.looksAt ops) = some l' ∧ SOp P h' (M ++ (D ++ [(b, cel V.zs V.t)])) l' ops o (M ++ D') ∧ R' b D' h') : ObT P M S k h l ops T V o := by
  refine ⟨hg0, fun b a w h' D hle hg hS hf => ?_⟩
  obtain ⟨R0, h1, hR0, hle1, hR⟩ := hS
  rw [hk] at hR0
  injection hR0 with hR0
  subst hR0
  obtain ⟨l', D', hs, ⟨_, so⟩, hR'⟩ := c b h' D hle ⟨h1, hle1, hR⟩
  have hev := selL_ev hs hf
  obtain ⟨w', h2, h3, h4⟩ := so a w (fun t _ v hv => hev t v hv) hg
  exact ⟨w', h', D', h2, h3, h4, R' b, h', hk' b, GH.le.refl _, hR'⟩
theorem ObT.q {V : Av} {o : Oper} (t : Nat) {Qt : Value → GH → Prop} (ht : lkT T t = some (.q Qt)) (hne : Nat.beq V.ad t = false) (hm : memN t (o.looksAt ops) = true) (hg0 : o.guard = none) (kq : ∀ x h1, GH.le h h1 → (∃ h2, GH.le h2 h1 ∧ Qt x h2) → ObT P M S k h1 l ops ((t, .v x) :: T) V o) : ObT P M S k h l ops T V o := by
  refine ⟨hg0, fun b a w h' D hle hg hS hf => ?_⟩
  have h0 := hf t (memN_iff.1 hm)
  simp only [lkT, hne, cond_false] at h0
  rw [ht] at h0
  obtain ⟨x, hx, hq⟩ := h0
  refine (kq x h' hle hq).2 b a w h' D (GH.le.refl _) hg hS (fun u hu => ?_)
  have h1 := hf u hu
  simp only [lkT] at h1 ⊢
  cases hb0 : Nat.beq V.ad u with
  | true => rw [hb0] at h1; exact h1
  | false =>
    rw [hb0] at h1
    simp only [cond_false] at h1 ⊢
    cases hb : Nat.beq t u with
    | true =>
      have := Nat.eq_of_beq_eq_true hb
      subst this
      exact ⟨x, hx, rfl⟩
    | false => exact h1
end
end Go.Proofs.YtfookachkcgdpaaDoor
