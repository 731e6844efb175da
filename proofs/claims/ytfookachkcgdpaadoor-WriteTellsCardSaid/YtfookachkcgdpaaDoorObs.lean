/- The engine's rule for a region whose order is open: the operations are gone through once, in the order of the text; each may rest only on what it must come after. Plain theorems; no condition. -/
import Derived.Test.YtfookachkcgdpaaDoorEff
set_option linter.unusedVariables false
set_option linter.unusedSimpArgs false
namespace Go.Proofs.YtfookachkcgdpaaDoor
open Go.RowKit

theorem blt_lt {a b : Nat} (h : Nat.blt a b = true) : a < b := by
  have : a + 1 ≤ b := by simpa [Nat.blt] using h
  omega
inductive Ent where
  | v (x : Value)
  | q (Q : Value → GH → Prop)
abbrev Tb := List (Nat × Ent)
def lkT : Tb → Nat → Option Ent
  | [], _ => none
  | (k, e) :: r, t => cond (Nat.beq k t) (some e) (lkT r t)
def Ent.holds : Ent → Value → GH → Prop
  | .v y, x, _ => x = y
  | .q Q, x, h => ∃ h1, GH.le h1 h ∧ Q x h1
theorem Ent.holds.le {e : Ent} {x : Value} {h h' : GH} (k : e.holds x h) (hle : GH.le h h') : e.holds x h' := by
  cases e with
  | v y => exact k
  | q Q => obtain ⟨h1, a, b⟩ := k; exact ⟨h1, a.trans hle, b⟩
/-- What an operation finds in the slots that it reads. -/
def Finds (a : Act) (h : GH) (T : Tb) (l : Fr) (ts : List Nat) : Prop := ∀ t ∈ ts,
  match lkT T t with
  | some e => ∃ x, a.tmps[t]? = some x ∧ e.holds x h
  | none => ∀ v, lk l t = some v → a.tmps[t]? = some v
def selL (T : Tb) (l : Fr) : List Nat → Option Fr
  | [] => some []
  | t :: r => match lkT T t with
    | some (.v x) => match selL T l r with
      | none => none
      | some r' => some ((t, x) :: r')
    | some (.q _) => none
    | none => match lk l t with
      | some x => match selL T l r with
        | none => none
        | some r' => some ((t, x) :: r')
      | none => selL T l r
theorem selL_ev {T : Tb} {l l' : Fr} {a : Act} {h : GH} {ts : List Nat} (hs : selL T l ts = some l') (hf : Finds a h T l ts) : Ev a l' := by
  induction ts generalizing l' with
  | nil => simp only [selL] at hs; injection hs with hs; subst hs; intro t v ht; cases ht
  | cons t r ih =>
    have hf' : Finds a h T l r := fun u hu => hf u (by simp [hu])
    have h0 := hf t (by simp)
    simp only [selL] at hs
    have mk : ∀ x r', a.tmps[t]? = some x → selL T l r = some r' → Ev a ((t, x) :: r') := fun x r' hx hr u v hu => by
      simp only [lk] at hu
      cases hb : Nat.beq t u with
      | true => rw [hb] at hu; have := Nat.eq_of_beq_eq_true hb; subst this; simp only [cond_true] at hu; rw [← hu]; exact hx
      | false => rw [hb] at hu; exact ih hr hf' u v hu
    cases hk : lkT T t with
    | some e =>
      rw [hk] at hs h0
      cases e with
      | v x =>
        simp only [] at hs
        obtain ⟨y, hy, rfl⟩ := h0
        cases hr : selL T l r with
        | none => rw [hr] at hs; cases hs
        | some r' => rw [hr] at hs; injection hs with hs; subst hs; exact mk _ r' hy hr
      | q Q => cases hs
    | none =>
      rw [hk] at hs h0
      simp only [] at hs
      cases hl : lk l t with
      | some x =>
        rw [hl] at hs
        simp only [] at hs
        cases hr : selL T l r with
        | none => rw [hr] at hs; cases hs
        | some r' => rw [hr] at hs; injection hs with hs; subst hs; exact mk _ r' (h0 x hl) hr
      | none => rw [hl] at hs; exact ih hs hf'

def HS (S : List (Blks → GH → Prop)) (k : Nat) (D : Blks) (h : GH) : Prop := ∃ R h1, S[k]? = some R ∧ GH.le h1 h ∧ R D h1
theorem HS.le {S : List (Blks → GH → Prop)} {k : Nat} {D : Blks} {h h' : GH} (x : HS S k D h) (hle : GH.le h h') : HS S k D h' := by
  obtain ⟨R, h1, a, b, c⟩ := x
  exact ⟨R, h1, a, b.trans hle, c⟩
/-- What is owed for one operation. -/
def Ob (P : Program) (M : Blks) (h : GH) (l : Fr) (ops : Array Oper) (T : Tb) (o : Oper) (e : Ent) : Prop :=
  ∀ a w h' D, GH.le h h' → Good w h' (M ++ D) → Finds a h' T l (o.looksAt ops) → ∀ (K : Act → World → Prop) (Q : Exit → Act → World → Prop),
    (∀ v w' h'', Good w' h'' (M ++ D) → Step w h' (M ++ D) w' h'' (M ++ D) → e.holds v h'' → K (a.put o.dst v) w') → if Region.wanted o (yielded ops a.tmps) then o.wp P a w K Q else K (a.put o.dst undef) w
/-- The same for one that writes what is not held still. -/
def ObM (P : Program) (M : Blks) (S : List (Blks → GH → Prop)) (k : Nat) (h : GH) (l : Fr) (ops : Array Oper) (T : Tb) (o : Oper) (e : Ent) : Prop :=
  ∀ a w h' D, GH.le h h' → Good w h' (M ++ D) → HS S k D h' → Finds a h' T l (o.looksAt ops) → ∀ (K : Act → World → Prop) (Q : Exit → Act → World → Prop),
    (∀ v w' h'' D', Good w' h'' (M ++ D') → Step w h' (M ++ D) w' h'' (M ++ D') → HS S (k + 1) D' h'' → e.holds v h'' → K (a.put o.dst v) w') → Region.wanted o (yielded ops a.tmps) = true ∧ o.wp P a w K Q
def memN : Nat → List Nat → Bool
  | _, [] => false
  | t, x :: r => Nat.beq t x || memN t r
theorem memN_iff {t : Nat} {l : List Nat} : memN t l = true ↔ t ∈ l := by
  induction l with
  | nil => simp [memN]
  | cons x r ih => simp [memN, ih]
def ons (o : Oper) : List Nat := (o.after.toList.filter (Region.binds .any)).map (·.on)
def allLt (n : Nat) : List Nat → Bool
  | [] => true
  | x :: r => Nat.blt x n && allLt n r
def hasAll (xs : List Nat) : Nat → Bool
  | 0 => true
  | k + 1 => memN k xs && hasAll xs k
theorem allLt_iff {n : Nat} {l : List Nat} : allLt n l = true ↔ ∀ x ∈ l, x < n := by
  induction l with
  | nil => simp [allLt]
  | cons x r ih => simp [allLt, ih, Nat.blt, Nat.succ_le_iff]
theorem hasAll_iff {l : List Nat} {k : Nat} : hasAll l k = true ↔ ∀ x, x < k → x ∈ l := by
  induction k with
  | zero => simp [hasAll]
  | succ k ih =>
    simp only [hasAll, Bool.and_eq_true, memN_iff, ih]
    constructor
    · rintro ⟨h1, h2⟩ x hx
      rcases Nat.lt_succ_iff_lt_or_eq.1 hx with h | rfl
      · exact h2 x h
      · exact h1
    · intro h; exact ⟨h k (by omega), fun x hx => h x (by omega)⟩

def dstOf (o : Oper) : Nat := o.dst.getD 0
def dIn : Option Tmp → List Nat → Bool
  | none, _ => false
  | some d, r => memN d r
def eqD : Option Tmp → Option Tmp → Bool
  | some a, some b => Nat.beq a b
  | _, _ => false
/-- op number i (text) against a later one. -/
def okPair (ops : Array Oper) (i : Nat) (x y : Oper) : Bool :=
  !(eqD x.dst y.dst) && (!(dIn x.dst (y.looksAt ops)) || memN i (ons y)) && (!(dIn y.dst (x.looksAt ops)) || memN i (ons y))
def okLater (ops : Array Oper) (i : Nat) (x : Oper) : List Oper → Bool
  | [] => true
  | y :: r => okPair ops i x y && okLater ops i x r
def okAll (ops : Array Oper) : Nat → List Oper → Bool
  | _, [] => true
  | i, x :: r => allLt i (ons x) && okLater ops i x r && okAll ops (i + 1) r
/-- behind number p: what is written there is not read ahead of it, and a store comes behind all ahead of p and all earlier stores. -/
def noLook (ops : Array Oper) (d : Option Tmp) : List Oper → Bool
  | [] => true
  | x :: r => !(dIn d (x.looksAt ops)) && noLook ops d r
def okBehind (ops : Array Oper) (p : Nat) : Nat → List Oper → List Nat → Bool
  | _, [], _ => true
  | i, x :: r, sts => (match x.dst with
    | some _ => Nat.blt i p || noLook ops x.dst (ops.toList.take (i + 1))
    | none => Nat.ble p i && hasAll (ons x) p && sts.all (fun j => memN j (ons x))) && okBehind ops p (i + 1) r (match x.dst with | some _ => sts | none => i :: sts)
def okChain : List Nat → List Oper → Bool
  | a :: b :: r, os => (match nth? os b with | some o => memN a (ons o) | none => false) && Nat.blt a b && okChain (b :: r) os
  | _, _ => true
structure AllOk (ops : Array Oper) (s : Nat) (l : List Oper) : Prop where
  lt : ∀ (i : Nat) (x : Oper), l[i]? = some x → ∀ j ∈ ons x, j < s + i
  pair : ∀ (i j : Nat) (x y : Oper), i < j → l[i]? = some x → l[j]? = some y → okPair ops (s + i) x y = true
theorem okLater_iff {ops : Array Oper} {i : Nat} {x : Oper} {r : List Oper} : okLater ops i x r = true ↔ ∀ y ∈ r, okPair ops i x y = true := by
  induction r with
  | nil => simp [okLater]
  | cons y r ih => simp [okLater, ih]
theorem okAll_spec {ops : Array Oper} {s : Nat} {l : List Oper} (h : okAll ops s l = true) : AllOk ops s l := by
  induction l generalizing s with
  | nil => exact ⟨fun i x hx => by simp at hx, fun i j x y _ hx => by simp at hx⟩
  | cons z r ih =>
    simp only [okAll, Bool.and_eq_true] at h
    obtain ⟨⟨h1, h3⟩, h4⟩ := h
    have k := ih h4
    refine ⟨fun i x hx => ?_, fun i j x y hij hx hy => ?_⟩
    · cases i with
      | zero => simp at hx; subst hx; simpa using allLt_iff.1 h1
      | succ i => have := k.lt i x (by simpa using hx); intro j hj; have := this j hj; omega
    · cases j with
      | zero => omega
      | succ j =>
        cases i with
        | zero => simp at hx; subst hx; simpa using okLater_iff.1 h3 y (List.mem_of_getElem? (by simpa using hy))
        | succ i => have := k.pair i j x y (by omega) (by simpa using hx) (by simpa using hy); rwa [show s + 1 + i = s + (i + 1) by omega] at this
theorem noLook_iff {ops : Array Oper} {d : Option Tmp} {l : List Oper} : noLook ops d l = true ↔ ∀ x ∈ l, dIn d (x.looksAt ops) = false := by
  induction l with
  | nil => simp [noLook]
  | cons x r ih => simp [noLook, ih]
theorem okBehind_spec {ops : Array Oper} {p s : Nat} {l : List Oper} {sts : List Nat} (h : okBehind ops p s l sts = true) : ∀ (i : Nat) (x : Oper), l[i]? = some x →
    (∀ d, x.dst = some d → s + i < p ∨ ∀ y ∈ ops.toList.take (s + i + 1), dIn x.dst (y.looksAt ops) = false) ∧
    (x.dst = none → p ≤ s + i ∧ (∀ j, j < p → j ∈ ons x) ∧ (∀ j ∈ sts, j ∈ ons x) ∧ ∀ (j : Nat) (y : Oper), j < i → l[j]? = some y → y.dst = none → s + j ∈ ons x) := by
  induction l generalizing s sts with
  | nil => intro i x hx; simp at hx
  | cons z r ih =>
    simp only [okBehind, Bool.and_eq_true] at h
    obtain ⟨h1, h2⟩ := h
    intro i x hx
    cases i with
    | zero =>
      simp at hx
      subst hx
      cases hd : z.dst with
      | some d =>
        rw [hd] at h1
        simp only [Bool.or_eq_true, noLook_iff] at h1
        refine ⟨fun d' _ => h1.imp (fun e => blt_lt e) (fun e => by simpa using e), fun e => by cases e⟩
      | none =>
        rw [hd] at h1
        simp only [Bool.and_eq_true, hasAll_iff, List.all_eq_true, memN_iff] at h1
        exact ⟨fun d' e => (by cases e), fun _ => ⟨Nat.le_of_ble_eq_true h1.1.1, h1.1.2, h1.2, fun j y hj => by omega⟩⟩
    | succ i =>
      have := ih h2 i x (by simpa using hx)
      rw [show s + 1 + i = s + (i + 1) by omega] at this
      refine ⟨this.1, fun e => ?_⟩
      obtain ⟨k1, k2, k3, k4⟩ := this.2 e
      refine ⟨k1, k2, fun j hj => k3 j ?_, fun j y hj hy hyd => ?_⟩
      · split
        · exact hj
        · simp [hj]
      · cases j with
        | zero =>
          simp at hy
          subst hy
          exact k3 _ (by rw [hyd]; simp)
        | succ j => have := k4 j y (by omega) (by simpa using hy) hyd; rwa [show s + 1 + j = s + (j + 1) by omega] at this

inductive Tbl (P : Program) (M : Blks) (S : List (Blks → GH → Prop)) (h : GH) (l : Fr) (ops : Array Oper) (p : Nat) (cs : List Nat) : Nat → Nat → List Oper → Tb → Tb → Prop
  | nil {i k : Nat} {T : Tb} (hk : k = cs.length) : Tbl P M S h l ops p cs i k [] T T
  | cons {i k : Nat} {o : Oper} {d : Nat} {e : Ent} {rest : List Oper} {T T' : Tb} (hi : Nat.blt i p = true) (hm : memN i cs = false) (hd : o.dst = some d) (ob : Ob P M h l ops T o e) (r : Tbl P M S h l ops p cs (i + 1) k rest ((d, e) :: T) T') : Tbl P M S h l ops p cs i k (o :: rest) T T'
  | consM {i k : Nat} {o : Oper} {d : Nat} {e : Ent} {rest : List Oper} {T T' : Tb} (hi : Nat.blt i p = true) (hm : nth? cs k = some i) (hd : o.dst = some d) (ob : ObM P M S k h l ops T o e) (r : Tbl P M S h l ops p cs (i + 1) (k + 1) rest ((d, e) :: T) T') : Tbl P M S h l ops p cs i k (o :: rest) T T'
  | consF {i k : Nat} {o : Oper} {d : Nat} {v : Value} {l' : Fr} {rest : List Oper} {T T' : Tb} (hi : Nat.ble p i = true) (hd : o.dst = some d) (hg : o.guard = none) (hs : selL T l (o.looksAt ops) = some l') (hv : NOp P (fun _ => none) [] l' o v) (r : Tbl P M S h l ops p cs (i + 1) k rest ((d, .v v) :: T) T') : Tbl P M S h l ops p cs i k (o :: rest) T T'
  | consS {i k : Nat} {o : Oper} {rest : List Oper} {T T' : Tb} (hi : Nat.ble p i = true) (hd : o.dst = none) (r : Tbl P M S h l ops p cs (i + 1) k rest T T') : Tbl P M S h l ops p cs i k (o :: rest) T T'
def tblOf : List Oper → List (Option Ent) → Tb
  | o :: os, some e :: es => (dstOf o, e) :: tblOf os es
  | _ :: os, none :: es => tblOf os es
  | _, _ => []
/-- What is known of operation number i. -/
inductive Item (P : Program) (M : Blks) (S : List (Blks → GH → Prop)) (h : GH) (l : Fr) (ops : Array Oper) (p : Nat) (cs : List Nat) (i : Nat) (o : Oper) (T : Tb) : Option Ent → Prop
  | n {e : Ent} (hi : i < p) (hm : i ∉ cs) (hd : o.dst = some (dstOf o)) (ob : Ob P M h l ops T o e) : Item P M S h l ops p cs i o T (some e)
  | m {e : Ent} {k : Nat} (hi : i < p) (hm : cs[k]? = some i) (hd : o.dst = some (dstOf o)) (ob : ObM P M S k h l ops T o e) : Item P M S h l ops p cs i o T (some e)
  | f {v : Value} {l' : Fr} (hi : p ≤ i) (hd : o.dst = some (dstOf o)) (hg : o.guard = none) (hs : selL T l (o.looksAt ops) = some l') (hv : NOp P (fun _ => none) [] l' o v) : Item P M S h l ops p cs i o T (some (.v v))
  | s (hi : p ≤ i) (hd : o.dst = none) : Item P M S h l ops p cs i o T none
theorem Tbl.items {P : Program} {M : Blks} {S : List (Blks → GH → Prop)} {h : GH} {l : Fr} {ops : Array Oper} {p : Nat} {cs : List Nat} {i k : Nat} {os : List Oper} {T T' : Tb} (t : Tbl P M S h l ops p cs i k os T T') :
    ∃ es : List (Option Ent), es.length = os.length ∧ T' = (tblOf os es).reverse ++ T ∧ ∀ (j : Nat) (o : Oper), os[j]? = some o → ∃ e, es[j]? = some e ∧ Item P M S h l ops p cs (i + j) o ((tblOf (os.take j) (es.take j)).reverse ++ T) e := by
  have hdo : ∀ {o : Oper} {d : Nat}, o.dst = some d → dstOf o = d := fun hd => by unfold dstOf; rw [hd]; rfl
  induction t with
  | nil hk => exact ⟨[], rfl, rfl, fun j o hj => by simp at hj⟩
  | @cons i k o d e rest T T' hi hm hd ob r ih =>
    obtain ⟨es, h1, h2, h3⟩ := ih
    have e1 := hdo hd
    refine ⟨some e :: es, by simp [h1], by rw [h2]; simp [tblOf, e1], fun j x hx => ?_⟩
    cases j with
    | zero => simp at hx; subst hx; exact ⟨_, rfl, .n (blt_lt hi) (fun hmem => by rw [Nat.add_zero] at hmem; rw [memN_iff.2 hmem] at hm; cases hm) (by rw [hd, e1]) (by simpa [tblOf] using ob)⟩
    | succ j => obtain ⟨e', h4, h5⟩ := h3 j x (by simpa using hx); refine ⟨e', by simpa using h4, ?_⟩; simpa [tblOf, e1, show i + 1 + j = i + (j + 1) by omega] using h5
  | @consM i k o d e rest T T' hi hm hd ob r ih =>
    obtain ⟨es, h1, h2, h3⟩ := ih
    have e1 := hdo hd
    refine ⟨some e :: es, by simp [h1], by rw [h2]; simp [tblOf, e1], fun j x hx => ?_⟩
    cases j with
    | zero => simp at hx; subst hx; exact ⟨_, rfl, .m (k := k) (blt_lt hi) (by rw [nth?_eq] at hm; simpa using hm) (by rw [hd, e1]) (by simpa [tblOf] using ob)⟩
    | succ j => obtain ⟨e', h4, h5⟩ := h3 j x (by simpa using hx); refine ⟨e', by simpa using h4, ?_⟩; simpa [tblOf, e1, show i + 1 + j = i + (j + 1) by omega] using h5
  | @consF i k o d v l' rest T T' hi hd hg hs hv r ih =>
    obtain ⟨es, h1, h2, h3⟩ := ih
    have e1 := hdo hd
    refine ⟨some (.v v) :: es, by simp [h1], by rw [h2]; simp [tblOf, e1], fun j x hx => ?_⟩
    cases j with
    | zero => simp at hx; subst hx; exact ⟨_, rfl, .f (l' := l') (by have := Nat.le_of_ble_eq_true hi; omega) (by rw [hd, e1]) hg (by simpa [tblOf] using hs) hv⟩
    | succ j => obtain ⟨e', h4, h5⟩ := h3 j x (by simpa using hx); refine ⟨e', by simpa using h4, ?_⟩; simpa [tblOf, e1, show i + 1 + j = i + (j + 1) by omega] using h5
  | @consS i k o rest T T' hi hd r ih =>
    obtain ⟨es, h1, h2, h3⟩ := ih
    refine ⟨none :: es, by simp [h1], by rw [h2]; simp [tblOf], fun j x hx => ?_⟩
    cases j with
    | zero => simp at hx; subst hx; exact ⟨_, rfl, .s (by have := Nat.le_of_ble_eq_true hi; omega) hd⟩
    | succ j => obtain ⟨e', h4, h5⟩ := h3 j x (by simpa using hx); refine ⟨e', by simpa using h4, ?_⟩; simpa [tblOf, show i + 1 + j = i + (j + 1) by omega] using h5
theorem ready_iff {ops : Array Oper} {listed : Array Bool} {i : Nat} : i ∈ Region.ready .any ops listed ↔ ∃ o, ops[i]? = some o ∧ listed.getD i true = false ∧ ∀ j ∈ ons o, listed.getD j false = true := by
  unfold Region.ready
  rw [List.mem_filter]
  constructor
  · rintro ⟨h1, h2⟩
    simp only [Bool.and_eq_true, Bool.not_eq_true'] at h2
    obtain ⟨h2, h3⟩ := h2
    cases ho : ops[i]? with
    | none => rw [ho] at h3; simp at h3
    | some o =>
      refine ⟨o, rfl, h2, fun j hj => ?_⟩
      rw [ho] at h3
      simp only [Option.map_some, Option.getD_some] at h3
      unfold ons at hj
      obtain ⟨e, he, rfl⟩ := List.mem_map.1 hj
      obtain ⟨he1, he2⟩ := List.mem_filter.1 he
      have := Array.all_eq_true_iff_forall_mem.1 h3 e (by simpa using he1)
      simpa [he2] using this
  · rintro ⟨o, ho, h2, h3⟩
    have hi : i < ops.size := (Array.getElem?_eq_some_iff.1 ho).1
    refine ⟨List.mem_range.2 hi, ?_⟩
    simp only [Bool.and_eq_true, Bool.not_eq_true', ho, Option.map_some, Option.getD_some]
    refine ⟨h2, Array.all_eq_true_iff_forall_mem.2 fun e he => ?_⟩
    cases hb : Region.binds .any e with
    | false => simp
    | true => simpa using h3 e.on (List.mem_map.2 ⟨e, List.mem_filter.2 ⟨by simpa using he, hb⟩, rfl⟩)
theorem getD_set {l : Array Bool} {i j : Nat} {d : Bool} (hi : i < l.size) : (l.setIfInBounds i true).getD j d = if i = j then true else l.getD j d := by
  simp only [Array.getD_eq_getD_getElem?, Array.getElem?_setIfInBounds]
  by_cases e : i = j
  · rw [if_pos e, if_pos e, if_pos (e ▸ hi)]; rfl
  · rw [if_neg e, if_neg e]



theorem put_get {a : Act} {d : Nat} {v : Value} {t : Nat} (hd : d < a.tmps.size) : (a.put (some d) v).tmps[t]? = if d = t then some v else a.tmps[t]? := by
  simp only [Act.put, Array.getElem?_setIfInBounds]
  by_cases e : d = t
  · rw [if_pos e, if_pos e, if_pos hd]
  · rw [if_neg e, if_neg e]
theorem lkT_append (A B : Tb) (t : Nat) : lkT (A ++ B) t = (match lkT A t with | some e => some e | none => lkT B t) := by
  induction A with
  | nil => rfl
  | cons x A ih =>
    obtain ⟨k, e⟩ := x
    simp only [List.cons_append, lkT]
    cases Nat.beq k t <;> simp [ih]
theorem lkT_tblOf : ∀ {os : List Oper} {es : List (Option Ent)}, es.length = os.length → (∀ (i : Nat) (o : Oper) (e : Ent), os[i]? = some o → es[i]? = some (some e) → o.dst = some (dstOf o)) → ∀ t,
    match lkT (tblOf os es).reverse t with
    | some e => ∃ (i : Nat) (o : Oper), os[i]? = some o ∧ o.dst = some t ∧ es[i]? = some (some e)
    | none => ∀ (i : Nat) (o : Oper) (e : Ent), os[i]? = some o → es[i]? = some (some e) → o.dst ≠ some t := by
  intro os
  induction os with
  | nil => intro es hl _ t; cases es with
    | nil => simp [tblOf, lkT]
    | cons e es => simp at hl
  | cons o os ih =>
    intro es hl hd t
    cases es with
    | nil => simp at hl
    | cons e es =>
      have ih' := ih (es := es) (by simpa using hl) (fun i o' e' h1 h2 => hd (i + 1) o' e' (by simpa using h1) (by simpa using h2)) t
      have lift : ∀ {r : Option Ent}, (match r with | some e => ∃ (i : Nat) (o : Oper), os[i]? = some o ∧ o.dst = some t ∧ es[i]? = some (some e) | none => True) → (match r with | some e' => ∃ (i : Nat) (x : Oper), (o :: os)[i]? = some x ∧ x.dst = some t ∧ (e :: es)[i]? = some (some e') | none => True) := by
        intro r hr
        cases r with
        | none => trivial
        | some e' => obtain ⟨i, x, h1, h2, h3⟩ := hr; exact ⟨i + 1, x, by simpa using h1, h2, by simpa using h3⟩
      cases e with
      | none =>
        simp only [tblOf]
        cases hk : lkT (tblOf os es).reverse t with
        | some e' => rw [hk] at ih'; obtain ⟨i, x, h1, h2, h3⟩ := ih'; exact ⟨i + 1, x, by simpa using h1, h2, by simpa using h3⟩
        | none =>
          rw [hk] at ih'
          intro i x e' hx he
          cases i with
          | zero => simp at he
          | succ i => exact ih' i x e' (by simpa using hx) (by simpa using he)
      | some e0 =>
        simp only [tblOf, List.reverse_cons, lkT_append]
        cases hk : lkT (tblOf os es).reverse t with
        | some e' => rw [hk] at ih'; obtain ⟨i, x, h1, h2, h3⟩ := ih'; exact ⟨i + 1, x, by simpa using h1, h2, by simpa using h3⟩
        | none =>
          rw [hk] at ih'
          have hdo := hd 0 o e0 rfl rfl
          simp only [lkT]
          cases hb : Nat.beq (dstOf o) t with
          | true => exact ⟨0, o, rfl, by rw [hdo, Nat.eq_of_beq_eq_true hb], rfl⟩
          | false =>
            simp only [cond_false]
            intro i x e' hx he
            cases i with
            | zero =>
              simp at hx
              subst hx
              rw [hdo]
              intro e
              injection e with e
              rw [e] at hb; simp at hb
            | succ i => exact ih' i x e' (by simpa using hx) (by simpa using he)

structure Core (ops : Array Oper) (es : List (Option Ent)) (l : Fr) (nn : Nat) (listed : Array Bool) (a : Act) (h : GH) : Prop where
  size : listed.size = ops.size
  defers : a.defers = []
  tsize : a.tmps.size = nn
  done : ∀ (i : Nat) (o : Oper) (e : Ent), ops[i]? = some o → es[i]? = some (some e) → listed.getD i false = true → ∃ x, a.tmps[dstOf o]? = some x ∧ e.holds x h
  base : ∀ t v, lk l t = some v → (∀ (i : Nat) (o : Oper), ops[i]? = some o → listed.getD i false = true → o.dst ≠ some t) → a.tmps[t]? = some v
  closed : ∀ (i : Nat) (o : Oper), ops[i]? = some o → listed.getD i false = true → ∀ j ∈ ons o, listed.getD j false = true
section
variable {ops : Array Oper} {es : List (Option Ent)} {l : Fr} {nn : Nat} {listed : Array Bool} {a : Act} {h h' : GH}
theorem dst_ne (hA : AllOk ops 0 ops.toList) {i j : Nat} {x y : Oper} (hne : i ≠ j) (hx : ops[i]? = some x) (hy : ops[j]? = some y) {d : Nat} (h1 : x.dst = some d) : y.dst ≠ some d := by
  intro h2
  have key : ∀ {i j : Nat} {x y : Oper}, i < j → ops[i]? = some x → ops[j]? = some y → x.dst = some d → y.dst = some d → False := by
    intro i j x y hij hx hy h1 h2
    have := hA.pair i j x y hij (by simpa using hx) (by simpa using hy)
    unfold okPair at this
    simp [h1, h2, eqD] at this
  rcases Nat.lt_or_gt_of_ne hne with hlt | hgt
  · exact key hlt hx hy h1 h2
  · exact key hgt hy hx h2 h1
theorem Core.finds (hA : AllOk ops 0 ops.toList) (hl : es.length = ops.size) (hes : ∀ (i : Nat) (o : Oper) (e : Ent), ops[i]? = some o → es[i]? = some (some e) → o.dst = some (dstOf o)) (hsome : ∀ (i : Nat) (o : Oper), ops[i]? = some o → es[i]? = some none → o.dst = none)
    (c : Core ops es l nn listed a h) {i : Nat} {o : Oper} (ho : ops[i]? = some o) (hil : listed.getD i false = false) (hon : ∀ j ∈ ons o, listed.getD j false = true) :
    Finds a h (tblOf (ops.toList.take i) (es.take i)).reverse l (o.looksAt ops) := by
  intro t ht
  have hit : i < ops.size := (Array.getElem?_eq_some_iff.1 ho).1
  have hz := lkT_tblOf (os := ops.toList.take i) (es := es.take i) (by simp [hl]) (fun k x e h1 h2 => by
    rw [List.getElem?_take] at h1 h2
    by_cases hki : k < i
    · rw [if_pos hki] at h1 h2; exact hes k x e (by simpa using h1) h2
    · rw [if_neg hki] at h1; cases h1) t
  cases hk : lkT (tblOf (ops.toList.take i) (es.take i)).reverse t with
  | some e =>
    rw [hk] at hz
    obtain ⟨k, x, h1, h2, h3⟩ := hz
    have hki : k < i := by have := (List.getElem?_eq_some_iff.1 h1).1; simp at this; omega
    rw [List.getElem?_take, if_pos hki] at h1 h3
    have h1' : ops[k]? = some x := by simpa using h1
    have hpair := hA.pair k i x o hki h1 (by simpa using ho)
    unfold okPair at hpair
    simp only [Bool.and_eq_true, Bool.or_eq_true, Bool.not_eq_true', memN_iff] at hpair
    have hin : dIn x.dst (o.looksAt ops) = true := by rw [h2]; exact memN_iff.2 ht
    have hkon : k ∈ ons o := by
      rcases hpair.1.2 with h4 | h4
      · rw [hin] at h4; cases h4
      · simpa using h4
    obtain ⟨y, hy, hye⟩ := c.done k x e h1' h3 (hon k hkon)
    have hdx := hes k x e h1' h3
    rw [h2] at hdx
    injection hdx with hdx
    rw [← hdx] at hy
    exact ⟨y, hy, hye⟩
  | none =>
    rw [hk] at hz
    intro v hv
    refine c.base t v hv fun k x h1 hkl hke => ?_
    have hklt : k < ops.size := (Array.getElem?_eq_some_iff.1 h1).1
    rcases Nat.lt_trichotomy k i with hlt | heq | hgt
    · have hek := List.getElem?_eq_getElem (l := es) (i := k) (by omega)
      generalize es[k]'(by omega) = e0 at hek
      cases e0 with
      | none => rw [hsome k x h1 hek] at hke; cases hke
      | some e => exact hz k x e (by rw [List.getElem?_take, if_pos hlt]; simpa using h1) (by rw [List.getElem?_take, if_pos hlt]; exact hek) hke
    · subst heq; rw [hil] at hkl; cases hkl
    · have hpair := hA.pair i k o x hgt (by simpa using ho) (by simpa using h1)
      unfold okPair at hpair
      simp only [Bool.and_eq_true, Bool.or_eq_true, Bool.not_eq_true', memN_iff] at hpair
      have hin : dIn x.dst (o.looksAt ops) = true := by rw [hke]; exact memN_iff.2 ht
      have hion : i ∈ ons x := by
        rcases hpair.2 with h4 | h4
        · rw [hin] at h4; cases h4
        · simpa using h4
      have := c.closed k x h1 hkl i hion
      rw [hil] at this; cases this
theorem Core.put (hA : AllOk ops 0 ops.toList) (hes : ∀ (i : Nat) (o : Oper) (e : Ent), ops[i]? = some o → es[i]? = some (some e) → o.dst = some (dstOf o))
    (c : Core ops es l nn listed a h) {i : Nat} {o : Oper} {e : Ent} {v : Value} (ho : ops[i]? = some o) (he : es[i]? = some (some e)) (hn : dstOf o < nn) (hon : ∀ j ∈ ons o, listed.getD j false = true) (hle : GH.le h h') (hv : e.holds v h') :
    Core ops es l nn (listed.setIfInBounds i true) (a.put (some (dstOf o)) v) h' := by
  have hit : i < ops.size := (Array.getElem?_eq_some_iff.1 ho).1
  have hset : ∀ j d, (listed.setIfInBounds i true).getD j d = if i = j then true else listed.getD j d := fun j d => getD_set (by rw [c.size]; exact hit)
  have hd := hes i o e ho he
  have hdl : dstOf o < a.tmps.size := by rw [c.tsize]; exact hn
  refine ⟨by simp [c.size], c.defers, by simp [Act.put, c.tsize], ?_, ?_, ?_⟩
  · intro k x e' h1 h2 h3
    rw [put_get hdl]
    by_cases hki : i = k
    · subst hki
      rw [ho] at h1; injection h1 with h1; subst h1
      rw [he] at h2; injection h2 with h2; injection h2 with h2; subst h2
      rw [if_pos rfl]
      exact ⟨v, rfl, hv⟩
    · rw [hset, if_neg hki] at h3
      have hdx := hes k x e' h1 h2
      have hne : dstOf o ≠ dstOf x := fun e1 => dst_ne hA hki ho h1 hd (by rw [hdx, e1])
      rw [if_neg hne]
      obtain ⟨y, hy, hye⟩ := c.done k x e' h1 h2 h3
      exact ⟨y, hy, hye.le hle⟩
  · intro t u hu hnw
    have hne : dstOf o ≠ t := fun e1 => hnw i o ho (by rw [hset, if_pos rfl]) (by rw [hd, e1])
    rw [put_get hdl, if_neg hne]
    exact c.base t u hu fun k x h1 hkl => hnw k x h1 (by rw [hset]; split <;> simp_all)
  · intro k x h1 hkl j hj
    rw [hset]
    split
    · rfl
    · by_cases hki : i = k
      · subst hki
        rw [ho] at h1; injection h1 with h1; subst h1
        exact hon j hj
      · rw [hset, if_neg hki] at hkl
        exact c.closed k x h1 hkl j hj
theorem Core.skip (c : Core ops es l nn listed a h) {i : Nat} {o : Oper} (ho : ops[i]? = some o) (hd : o.dst = none) (he : es[i]? = some none) (hon : ∀ j ∈ ons o, listed.getD j false = true) :
    Core ops es l nn (listed.setIfInBounds i true) a h := by
  have hit : i < ops.size := (Array.getElem?_eq_some_iff.1 ho).1
  have hset : ∀ j d, (listed.setIfInBounds i true).getD j d = if i = j then true else listed.getD j d := fun j d => getD_set (by rw [c.size]; exact hit)
  refine ⟨by simp [c.size], c.defers, c.tsize, ?_, ?_, ?_⟩
  · intro k x e' h1 h2 h3
    by_cases hki : i = k
    · subst hki; rw [he] at h2; cases h2
    · rw [hset, if_neg hki] at h3
      exact c.done k x e' h1 h2 h3
  · intro t u hu hnw
    exact c.base t u hu fun k x h1 hkl => hnw k x h1 (by rw [hset]; split <;> simp_all)
  · intro k x h1 hkl j hj
    rw [hset]
    split
    · rfl
    · by_cases hki : i = k
      · subst hki
        rw [ho] at h1; injection h1 with h1; subst h1
        exact hon j hj
      · rw [hset, if_neg hki] at hkl
        exact c.closed k x h1 hkl j hj
end
def unl (n : Nat) (listed : Array Bool) : Nat := (List.range n).countP (fun i => !listed.getD i true)
theorem unl_set {n i : Nat} {listed : Array Bool} (hs : listed.size = n) (hi : i < n) (hf : listed.getD i true = false) : unl n listed = unl n (listed.setIfInBounds i true) + 1 := by
  have hset : ∀ j d, (listed.setIfInBounds i true).getD j d = if i = j then true else listed.getD j d := fun j d => getD_set (by omega)
  have key : ∀ m, (List.range m).countP (fun j => !listed.getD j true) = (List.range m).countP (fun j => !(listed.setIfInBounds i true).getD j true) + (if i < m then 1 else 0) := by
    intro m
    induction m with
    | zero => simp
    | succ m ihm =>
      rw [List.range_succ, List.countP_append, List.countP_append, ihm]
      by_cases e1 : i = m
      · subst e1
        have h1 : [i].countP (fun j => !listed.getD j true) = 1 := by simp only [List.countP_cons, List.countP_nil, hf]; rfl
        have h2 : [i].countP (fun j => !(listed.setIfInBounds i true).getD j true) = 0 := by simp only [List.countP_cons, List.countP_nil, hset]; simp
        rw [h1, h2, if_neg (by omega), if_pos (by omega)]
      · have h1 : [m].countP (fun j => !(listed.setIfInBounds i true).getD j true) = [m].countP (fun j => !listed.getD j true) := by simp only [List.countP_cons, List.countP_nil, hset, if_neg e1]
        rw [h1]
        by_cases e2 : i < m
        · rw [if_pos e2, if_pos (by omega)]; omega
        · rw [if_neg e2, if_neg (by omega)]; omega
  have := key n
  rw [if_pos hi] at this
  exact this
theorem getD_tf {L : Array Bool} {i : Nat} (hi : L.getD i false = true) : L.getD i true = true := by
  simp only [Array.getD_eq_getD_getElem?] at hi ⊢
  cases hx : L[i]? with
  | none => rfl
  | some b => rw [hx] at hi; simpa using hi
theorem getD_ft {L : Array Bool} {i : Nat} (hlt : i < L.size) (hi : L.getD i false = false) : L.getD i true = false := by
  simp only [Array.getD_eq_getD_getElem?] at hi ⊢
  rw [Array.getElem?_eq_getElem hlt] at hi ⊢
  simpa using hi
theorem getD_ff {L : Array Bool} {i : Nat} (hi : L.getD i true = false) : L.getD i false = false := by
  cases hx : L.getD i false with
  | false => rfl
  | true => rw [getD_tf hx] at hi; cases hi
/-- If something is left, its least is ready. -/
theorem least_ready {ops : Array Oper} {listed : Array Bool} (hA : AllOk ops 0 ops.toList) (hs : listed.size = ops.size) (hex : ∃ j, j < ops.size ∧ listed.getD j false = false) :
    ∃ m, m < ops.size ∧ listed.getD m false = false ∧ (∀ j, j < m → listed.getD j false = true) ∧ m ∈ Region.ready .any ops listed := by
  obtain ⟨j, hj1, hj2⟩ := hex
  induction j using Nat.strongRecOn with
  | _ j ihj =>
    by_cases hq : ∃ k, k < j ∧ listed.getD k false = false
    · obtain ⟨k, hk1, hk2⟩ := hq; exact ihj k hk1 (by omega) hk2
    · have hall : ∀ k, k < j → listed.getD k false = true := fun k hk => by
        cases hx : listed.getD k false with
        | true => rfl
        | false => exact (hq ⟨k, hk, hx⟩).elim
      refine ⟨j, hj1, hj2, hall, ready_iff.2 ⟨ops[j], Array.getElem?_eq_getElem hj1, getD_ft (by omega) hj2, fun k hk => hall k ?_⟩⟩
      have := hA.lt j ops[j] (by simp [hj1]) k hk
      omega

theorem Good.empty (w : World) : Good w (fun _ => none) [] := ⟨fun _ _ hb => (by cases hb), fun _ hq => (by cases hq), fun _ hq => (by cases hq), List.Pairwise.nil⟩
/-! ### the stores at the end, and the rule -/
def SOp (P : Program) (h : GH) (M : Blks) (lf : Fr) (ops : Array Oper) (o : Oper) (M' : Blks) : Prop := o.guard = none ∧
  ∀ (a : Act) (w : World), (∀ t ∈ o.looksAt ops, ∀ v, lk lf t = some v → a.tmps[t]? = some v) → Good w h M → ∃ w', (execOp a.eval o).run P w = .ok .skip w' ∧ Good w' h M' ∧ Step w h M w' h M'
def stsOf : List Oper → List Oper
  | [] => []
  | o :: r => match o.dst with
    | none => o :: stsOf r
    | some _ => stsOf r
def SQ (P : Program) (nn : Nat) (E : Env) (Q : Exit → Act → World → Prop) (ops : Array Oper) (lf : Fr) (h : GH) : List Oper → Blks → Prop
  | [], M => Qs nn E Q .normal lf h M
  | o :: r, M => ∃ M', SOp P h M lf ops o M' ∧ SQ P nn E Q ops lf h r M'
/-- The stores that are still to come. -/
def rem (listed : Array Bool) : Nat → List Oper → List Oper
  | _, [] => []
  | i, o :: r => match o.dst with
    | none => if listed.getD i true then rem listed (i + 1) r else o :: rem listed (i + 1) r
    | some _ => rem listed (i + 1) r
theorem rem_none {listed : Array Bool} {i : Nat} {l : List Oper} (h : ∀ (j : Nat) (o : Oper), l[j]? = some o → o.dst = none → listed.getD (i + j) true = false) : rem listed i l = stsOf l := by
  induction l generalizing i with
  | nil => rfl
  | cons o r ih =>
    have ih' := ih (i := i + 1) fun j x hx hd => by have := h (j + 1) x (by simpa using hx) hd; rwa [show i + (j + 1) = i + 1 + j by omega] at this
    simp only [rem, stsOf]
    cases hd : o.dst with
    | some d => exact ih'
    | none => have := h 0 o rfl hd; simp only [Nat.add_zero] at this; rw [this]; simp [ih']
theorem rem_nil {listed : Array Bool} {i : Nat} {l : List Oper} (h : ∀ (j : Nat) (o : Oper), l[j]? = some o → o.dst = none → listed.getD (i + j) true = true) : rem listed i l = [] := by
  induction l generalizing i with
  | nil => rfl
  | cons o r ih =>
    have ih' := ih (i := i + 1) fun j x hx hd => by have := h (j + 1) x (by simpa using hx) hd; rwa [show i + (j + 1) = i + 1 + j by omega] at this
    simp only [rem]
    cases hd : o.dst with
    | some d => exact ih'
    | none => have := h 0 o rfl hd; simp only [Nat.add_zero] at this; rw [this]; simpa using ih'
theorem rem_set {listed : Array Bool} {k : Nat} {l : List Oper} {i : Nat} (hk : k < listed.size) (hf : listed.getD k true = false) (o : Oper) (ho : l[k - i]? = some o) (hik : i ≤ k) (hd : o.dst = none) (hfirst : ∀ (j : Nat) (x : Oper), i + j < k → l[j]? = some x → x.dst = none → listed.getD (i + j) true = true) :
    rem listed i l = o :: rem (listed.setIfInBounds k true) i l := by
  have hset : ∀ j d, (listed.setIfInBounds k true).getD j d = if k = j then true else listed.getD j d := fun j d => getD_set hk
  have hsame : ∀ (l : List Oper) (i : Nat), k < i → rem (listed.setIfInBounds k true) i l = rem listed i l := by
    intro l
    induction l with
    | nil => intro i _; rfl
    | cons x r ih =>
      intro i hki
      simp only [rem, hset, if_neg (show ¬ k = i by omega), ih (i + 1) (by omega)]
  induction l generalizing i with
  | nil => simp at ho
  | cons x r ih =>
    rcases Nat.eq_or_lt_of_le hik with he | hlt
    · subst he
      simp at ho
      subst ho
      simp only [rem, hd, hf, hset, if_pos rfl]
      rw [hsame r (i + 1) (by omega)]
      simp
    · have ih' := ih (i := i + 1) (by rw [show k - i = (k - (i + 1)) + 1 by omega] at ho; simpa using ho) (by omega) (fun j y hj hy hyd => by
        have := hfirst (j + 1) y (by omega) (by simpa using hy) hyd; rwa [show i + (j + 1) = i + 1 + j by omega] at this)
      simp only [rem]
      cases hxd : x.dst with
      | some d => exact ih'
      | none =>
        have := hfirst 0 x (by omega) rfl hxd
        simp only [Nat.add_zero] at this
        simp only [this, hset, if_neg (show ¬ k = i by omega), if_true]
        exact ih'
section
variable {P : Program} {nn : Nat} {E : Env} {Q : Exit → Act → World → Prop} {l : Fr} {h : GH} {M : Blks} {ops : Array Oper} {es : List (Option Ent)} {S : List (Blks → GH → Prop)} {p : Nat} {cs : List Nat}
structure Setup (P : Program) (M : Blks) (S : List (Blks → GH → Prop)) (h : GH) (l : Fr) (ops : Array Oper) (p : Nat) (cs : List Nat) (nn : Nat) (es : List (Option Ent)) : Prop where
  all : AllOk ops 0 ops.toList
  behind : ∀ (i : Nat) (x : Oper), ops[i]? = some x → (∀ d, x.dst = some d → i < p ∨ ∀ y ∈ ops.toList.take (i + 1), dIn x.dst (y.looksAt ops) = false) ∧
    (x.dst = none → p ≤ i ∧ (∀ j, j < p → j ∈ ons x) ∧ ∀ (j : Nat) (y : Oper), j < i → ops[j]? = some y → y.dst = none → j ∈ ons x)
  len : es.length = ops.size
  item : ∀ (i : Nat) (o : Oper), ops[i]? = some o → ∃ e, es[i]? = some e ∧ Item P M S h l ops p cs i o (tblOf (ops.toList.take i) (es.take i)).reverse e
  small : ∀ (i : Nat) (o : Oper), ops[i]? = some o → o.dst ≠ none → dstOf o < nn
theorem Setup.hes (s : Setup P M S h l ops p cs nn es) : ∀ (i : Nat) (o : Oper) (e : Ent), ops[i]? = some o → es[i]? = some (some e) → o.dst = some (dstOf o) := fun i o e ho he => by
  obtain ⟨e', he', it⟩ := s.item i o ho
  rw [he] at he'
  injection he' with he'
  subst he'
  cases it <;> assumption
theorem Setup.hnone (s : Setup P M S h l ops p cs nn es) : ∀ (i : Nat) (o : Oper), ops[i]? = some o → es[i]? = some none → o.dst = none := fun i o ho he => by
  obtain ⟨e', he', it⟩ := s.item i o ho
  rw [he] at he'
  injection he' with he'
  subst he'
  cases it
  assumption
/-- What the slots behind the first part hold. -/
def LF (ops : Array Oper) (es : List (Option Ent)) (l : Fr) (p : Nat) (a0 : Act) (lf : Fr) : Prop := ∀ t v, lk lf t = some v →
  (∃ (i : Nat) (o : Oper), ops[i]? = some o ∧ o.dst = some t ∧ (es[i]? = some (some (.v v)) ∨ (i < p ∧ a0.tmps[t]? = some v))) ∨ (lk l t = some v ∧ ∀ (i : Nat) (o : Oper), ops[i]? = some o → o.dst ≠ some t)
theorem phase2 (s : Setup P M S h l ops p cs nn es) {h' hq : GH} {a0 : Act} {lf : Fr} (hlf : LF ops es l p a0 lf) :
    ∀ (fuel : Nat) (listed : Array Bool) (a : Act) (w : World) (Mk : Blks), fuel = unl ops.size listed → (∀ j, j < p → j < ops.size → listed.getD j false = true) → Core ops es l nn listed a h' → Inv E w hq Mk →
      (∀ (i : Nat) (o : Oper) (d : Nat), i < p → ops[i]? = some o → o.dst = some d → a.tmps[d]? = a0.tmps[d]?) → SQ P nn E Q ops lf hq (rem listed 0 ops.toList) Mk → wpAny P .any ops Q fuel listed a w := by
  -- a slot that is read holds what lf says
  have slot : ∀ (listed : Array Bool) (a : Act) (o : Oper) (i : Nat), Core ops es l nn listed a h' → (∀ j, j < p → j < ops.size → listed.getD j false = true) → (∀ (i : Nat) (o : Oper) (d : Nat), i < p → ops[i]? = some o → o.dst = some d → a.tmps[d]? = a0.tmps[d]?) →
      ∀ t v, lk lf t = some v → (∀ (k : Nat) (x : Oper), ops[k]? = some x → x.dst = some t → listed.getD k false = true) → a.tmps[t]? = some v := by
    intro listed a o i c hall hkeep t v ht hw
    rcases hlf t v ht with ⟨k, x, h1, h2, h3⟩ | ⟨h1, h2⟩
    · rcases h3 with h3 | ⟨h3, h4⟩
      · obtain ⟨y, hy, hye⟩ := c.done k x _ h1 h3 (hw k x h1 h2)
        have hdx := s.hes k x _ h1 h3
        rw [h2] at hdx
        injection hdx with hdx
        rw [← hdx] at hy
        rw [hy]
        exact congrArg some hye
      · rw [hkeep k x t h3 h1 h2]; exact h4
    · exact c.base t v h1 fun k x hx _ => h2 k x hx
  intro fuel
  induction fuel with
  | zero =>
    intro listed a w Mk hf hall c hi hkeep hsq
    have hfull : ∀ j, j < ops.size → listed.getD j false = true := fun j hj => by
      cases hx : listed.getD j false with
      | true => rfl
      | false =>
        have h1 := getD_ft (by rw [c.size]; exact hj) hx
        have : 0 < unl ops.size listed := List.countP_pos_iff.2 ⟨j, List.mem_range.2 hj, by simp [h1]⟩
        omega
    have hrem : rem listed 0 ops.toList = [] := rem_nil fun j o ho hd => by
      rw [Nat.zero_add]; exact getD_tf (hfull j (by have := (List.getElem?_eq_some_iff.1 ho).1; simpa using this))
    rw [hrem] at hsq
    refine ⟨List.eq_nil_iff_forall_not_mem.2 fun i hi => ?_, hsq a w ⟨c.defers, c.tsize, fun t v ht => slot listed a default 0 c hall hkeep t v ht fun k x hx _ => hfull k (Array.getElem?_eq_some_iff.1 hx).1⟩ hi⟩
    obtain ⟨o, ho, hl, _⟩ := ready_iff.1 hi
    rw [getD_tf (hfull i (Array.getElem?_eq_some_iff.1 ho).1)] at hl
    cases hl
  | succ fuel ih =>
    intro listed a w Mk hf hall c hi hkeep hsq
    have hex : ∃ j, j < ops.size ∧ listed.getD j false = false := by
      have : 0 < unl ops.size listed := by omega
      obtain ⟨j, hj, hx⟩ := List.countP_pos_iff.1 this
      exact ⟨j, List.mem_range.1 hj, getD_ff (by simpa using hx)⟩
    obtain ⟨m, _, _, _, hmr⟩ := least_ready s.all c.size hex
    refine ⟨fun e => by rw [e] at hmr; simp at hmr, fun i hir => ?_⟩
    obtain ⟨o, ho, hil, hon⟩ := ready_iff.1 hir
    have hilt := (Array.getElem?_eq_some_iff.1 ho).1
    have hil' := getD_ff hil
    have hset : ∀ j d, (listed.setIfInBounds i true).getD j d = if i = j then true else listed.getD j d := fun j d => getD_set (by rw [c.size]; exact hilt)
    have hip : p ≤ i := Nat.le_of_not_lt fun hlt => by rw [hall i hlt hilt] at hil'; cases hil'
    have hall' : ∀ j, j < p → j < ops.size → (listed.setIfInBounds i true).getD j false = true := fun j hj hj' => by rw [hset]; split <;> simp_all
    have hfuel : fuel = unl ops.size (listed.setIfInBounds i true) := by have := unl_set (n := ops.size) c.size hilt hil; omega
    obtain ⟨e, he, it⟩ := s.item i o ho
    have hloc : ∀ t ∈ o.looksAt ops, ∀ v, lk lf t = some v → a.tmps[t]? = some v := fun t ht v hv => slot listed a o i c hall hkeep t v hv fun k x hx hxd => by
      have hkl := (Array.getElem?_eq_some_iff.1 hx).1
      rcases Nat.lt_or_ge k i with hlt | hgt
      · by_cases hkp : k < p
        · exact hall k hkp hkl
        · have hpair := s.all.pair k i x o hlt (by simpa using hx) (by simpa using ho)
          unfold okPair at hpair
          simp only [Bool.and_eq_true, Bool.or_eq_true, Bool.not_eq_true', memN_iff] at hpair
          have hin : dIn x.dst (o.looksAt ops) = true := by rw [hxd]; exact memN_iff.2 ht
          rcases hpair.1.2 with h4 | h4
          · rw [hin] at h4; cases h4
          · exact hon k (by simpa using h4)
      · rcases (s.behind k x hx).1 t hxd with h1 | h1
        · omega
        · have := h1 o (List.mem_of_getElem? (i := i) (by rw [List.getElem?_take, if_pos (by omega)]; simpa using ho))
          rw [hxd] at this
          have hin : dIn (some t) (o.looksAt ops) = true := memN_iff.2 ht
          rw [hin] at this; cases this
    cases it with
    | n hi' => omega
    | m hi' => omega
    | @f v l' _ hd hg hs hv =>
      have hfind := c.finds s.all s.len s.hes s.hnone ho hil' hon
      have hrun := hv a w (fun _ => none) (GH.le.refl _) (Good.empty w) (selL_ev hs hfind)
      unfold wpOp
      rw [ho]
      simp only []
      have hw : Region.wanted o (yielded ops a.tmps) = true := by simp only [Region.wanted, hg]
      rw [if_pos hw]
      refine .inl ?_
      unfold Oper.wp
      rw [hrun]
      show wpAny P .any ops Q fuel (listed.setIfInBounds i true) (a.put o.dst v) w
      rw [hd]
      have c' := c.put s.all s.hes ho he (s.small i o ho (by rw [hd]; simp)) hon (GH.le.refl _) (e := .v v) (v := v) rfl
      refine ih _ _ w Mk hfuel hall' c' hi ?_ ?_
      · intro k x d hk hx hxd
        rw [put_get (by rw [c.tsize]; exact s.small i o ho (by rw [hd]; simp)), if_neg (fun e1 => dst_ne s.all (by omega : i ≠ k) ho hx hd (by rw [hxd, e1]))]
        exact hkeep k x d hk hx hxd
      · have : ∀ (L : List Oper) (k : Nat), (∀ (j : Nat) (x : Oper), L[j]? = some x → k + j = i → x.dst ≠ none) → rem (listed.setIfInBounds i true) k L = rem listed k L := by
          intro L
          induction L with
          | nil => intro k _; rfl
          | cons x r ihL =>
            intro k hk
            have ih2 := ihL (k + 1) fun j y hy hj => hk (j + 1) y (by simpa using hy) (by omega)
            simp only [rem]
            cases hxd : x.dst with
            | some d => exact ih2
            | none =>
              have hne : i ≠ k := fun e1 => hk 0 x rfl (by omega) hxd
              simp only [hset, if_neg hne, ih2]
        rw [this ops.toList 0 fun j x hx hj => by
          have : j = i := by omega
          subst this
          have hx' : ops[j]? = some x := by simpa using hx
          rw [ho] at hx'; injection hx' with hx'; subst hx'; rw [hd]; simp]
        exact hsq
    | s _ hd =>
      have hrem := rem_set (listed := listed) (k := i) (l := ops.toList) (i := 0) (by rw [c.size]; exact hilt) hil o (by simpa using ho) (Nat.zero_le _) hd (fun j x hj hx hxd => by
        rw [Nat.zero_add] at hj ⊢
        exact getD_tf (hon j (((s.behind i o ho).2 hd).2.2 j x hj (by simpa using hx) hxd)))
      rw [hrem] at hsq
      obtain ⟨M', ⟨hg, hsop⟩, hsq'⟩ := hsq
      obtain ⟨w', hrun, hg', hst'⟩ := hsop a w hloc hi.good
      unfold wpOp
      rw [ho]
      simp only []
      have hw : Region.wanted o (yielded ops a.tmps) = true := by simp only [Region.wanted, hg]
      rw [if_pos hw]
      refine .inl ?_
      unfold Oper.wp
      rw [hrun]
      show wpAny P .any ops Q fuel (listed.setIfInBounds i true) (a.put o.dst undef) w'
      rw [hd]
      exact ih _ _ w' M' hfuel hall' (c.skip ho hd he hon) (hi.next hg' hst') hkeep hsq'
theorem phase1 (s : Setup P M S h l ops p cs nn es) (hchain : ∀ (k a b : Nat) (o : Oper), cs[k]? = some a → cs[k + 1]? = some b → ops[b]? = some o → a ∈ ons o) (hnd : ∀ (j k c : Nat), cs[j]? = some c → cs[k]? = some c → j = k) (hcp : ∀ c ∈ cs, c < p ∧ c < ops.size) {w0 : World} {M0 : Blks}
    (hend : ∀ a w h' D, GH.le h h' → Good w h' (M ++ D) → Step w0 h M0 w h' (M ++ D) → HS S cs.length D h' → a.defers = [] → a.tmps.size = nn →
      (∀ (i : Nat) (o : Oper) (e : Ent), i < p → ops[i]? = some o → es[i]? = some (some e) → ∃ x, a.tmps[dstOf o]? = some x ∧ e.holds x h') → ∃ lf hq, LF ops es l p a lf ∧ SQ P nn E Q ops lf hq (stsOf ops.toList) (M ++ D) ∧ Inv E w hq (M ++ D)) :
    ∀ (fuel : Nat) (listed : Array Bool) (a : Act) (w : World) (h' : GH) (D : Blks) (k : Nat), fuel = unl ops.size listed → (∀ (i : Nat) (o : Oper), ops[i]? = some o → o.dst = none → listed.getD i true = false) → k ≤ cs.length → (∀ (j c : Nat), cs[j]? = some c → (listed.getD c false = true ↔ j < k)) →
      HS S k D h' → GH.le h h' → Good w h' (M ++ D) → Step w0 h M0 w h' (M ++ D) → Core ops es l nn listed a h' → wpAny P .any ops Q fuel listed a w := by
  intro fuel
  induction fuel with
  | zero =>
    intro listed a w h' D k hf hst hk hck hS hle hg hsp c
    have hfull : ∀ j, j < ops.size → listed.getD j false = true := fun j hj => by
      cases hx : listed.getD j false with
      | true => rfl
      | false =>
        have h1 := getD_ft (by rw [c.size]; exact hj) hx
        have : 0 < unl ops.size listed := List.countP_pos_iff.2 ⟨j, List.mem_range.2 hj, by simp [h1]⟩
        omega
    have hkc : k = cs.length := by
      refine Nat.le_antisymm hk (Nat.le_of_not_lt fun hlt => ?_)
      have h1 := List.getElem?_eq_getElem hlt
      have := (hck k _ h1).1 (hfull _ (hcp _ (List.getElem_mem hlt)).2)
      omega
    subst hkc
    obtain ⟨lf, hq, h1, h2, h3⟩ := hend a w h' D hle hg hsp hS c.defers c.tsize fun i o e hi ho he => c.done i o e ho he (hfull i (Array.getElem?_eq_some_iff.1 ho).1)
    exact phase2 s h1 0 listed a w (M ++ D) hf (fun j _ hj => hfull j hj) c h3 (fun _ _ _ _ _ _ => rfl) (by rw [rem_none fun j o ho hd => by rw [Nat.zero_add]; exact hst j o (by simpa using ho) hd]; exact h2)
  | succ fuel ih =>
    intro listed a w h' D k hf hst hk hck hS hle hg hsp c
    by_cases hall : ∀ j, j < p → j < ops.size → listed.getD j false = true
    · have hkc : k = cs.length := by
        refine Nat.le_antisymm hk (Nat.le_of_not_lt fun hlt => ?_)
        have h1 := List.getElem?_eq_getElem hlt
        have h2 := hcp _ (List.getElem_mem hlt)
        have := (hck k _ h1).1 (hall _ h2.1 h2.2)
        omega
      subst hkc
      obtain ⟨lf, hq, h1, h2, h3⟩ := hend a w h' D hle hg hsp hS c.defers c.tsize fun i o e hi ho he => c.done i o e ho he (hall i hi (Array.getElem?_eq_some_iff.1 ho).1)
      exact phase2 s h1 (fuel + 1) listed a w (M ++ D) hf hall c h3 (fun _ _ _ _ _ _ => rfl) (by rw [rem_none fun j o ho hd => by rw [Nat.zero_add]; exact hst j o (by simpa using ho) hd]; exact h2)
    have hex : ∃ j, j < p ∧ j < ops.size ∧ listed.getD j false = false := by
      refine Classical.byContradiction fun hno => hall fun j hj hj' => ?_
      cases hx : listed.getD j false with
      | true => rfl
      | false => exact (hno ⟨j, hj, hj', hx⟩).elim
    obtain ⟨m, _, _, _, hmr⟩ := least_ready s.all c.size (by obtain ⟨j, _, h1, h2⟩ := hex; exact ⟨j, h1, h2⟩)
    refine ⟨fun e => by rw [e] at hmr; simp at hmr, fun i hir => ?_⟩
    obtain ⟨o, ho, hil, hon⟩ := ready_iff.1 hir
    have hilt := (Array.getElem?_eq_some_iff.1 ho).1
    have hil' := getD_ff hil
    have hset : ∀ j d, (listed.setIfInBounds i true).getD j d = if i = j then true else listed.getD j d := fun j d => getD_set (by rw [c.size]; exact hilt)
    have hfuel : fuel = unl ops.size (listed.setIfInBounds i true) := by have := unl_set (n := ops.size) c.size hilt hil; omega
    obtain ⟨e, he, it⟩ := s.item i o ho
    have hdn : o.dst ≠ none := fun hd => by
      obtain ⟨j, hj1, hj2, hj3⟩ := hex
      rw [hon j (((s.behind i o ho).2 hd).2.1 j hj1)] at hj3; cases hj3
    have hfind := c.finds s.all s.len s.hes s.hnone ho hil' hon
    have hst' : ∀ (j : Nat) (x : Oper), ops[j]? = some x → x.dst = none → (listed.setIfInBounds i true).getD j true = false := fun j x hx hxd => by
      have hne : i ≠ j := fun e1 => by subst e1; rw [ho] at hx; injection hx with hx; subst hx; exact hdn hxd
      rw [hset, if_neg hne]; exact hst j x hx hxd
    unfold wpOp
    rw [ho]
    simp only []
    have hckn : (∀ j c, cs[j]? = some c → c ≠ i) → ∀ (j c : Nat), cs[j]? = some c → ((listed.setIfInBounds i true).getD c false = true ↔ j < k) := fun hni j c hjc => by
      rw [hset, if_neg (fun e1 => hni j c hjc e1.symm)]; exact hck j c hjc
    cases it with
    | s hi' hd => exact (hdn hd).elim
    | @f v l' hi' hd hgd hs hv =>
      have hrun := hv a w (fun _ => none) (GH.le.refl _) (Good.empty w) (selL_ev hs hfind)
      have hw : Region.wanted o (yielded ops a.tmps) = true := by simp only [Region.wanted, hgd]
      rw [if_pos hw]
      refine .inl ?_
      unfold Oper.wp
      rw [hrun]
      show wpAny P .any ops Q fuel (listed.setIfInBounds i true) (a.put o.dst v) w
      have c' := c.put s.all s.hes ho he (s.small i o ho hdn) hon (GH.le.refl _) (e := .v v) (v := v) rfl
      rw [hd]
      exact ih _ _ w h' D k hfuel hst' hk (hckn fun j c' hjc e1 => by have := (hcp c' (List.mem_of_getElem? hjc)).1; omega) hS hle hg hsp c'
    | @n e hi' hm hd ob =>
      have := ob a w h' D hle hg hfind (wpAny P .any ops Q fuel (listed.setIfInBounds i true)) Q fun v w' h'' hg' hst2 hv => by
        have c' := c.put s.all s.hes ho he (s.small i o ho hdn) hon hst2.le hv
        rw [hd]
        exact ih _ _ w' h'' D k hfuel hst' hk (hckn fun j c' hjc e1 => by subst e1; exact hm (List.mem_of_getElem? hjc)) (hS.le hst2.le) (hle.trans hst2.le) hg' (hsp.trans hst2) c'
      split at this
      · rename_i hw; rw [if_pos hw]; exact .inl this
      · rename_i hw; rw [if_neg hw]; exact this
    | @m e k' hi' hm hd ob =>
      have hkk : k = k' := by
        have h1 := hck k' i hm
        have h2 : ¬ k' < k := fun hlt => by rw [h1.2 hlt] at hil'; cases hil'
        refine Nat.le_antisymm (Nat.le_of_not_lt h2) (Nat.le_of_not_lt fun hlt => ?_)
        -- the one ahead of it in the chain is listed
        obtain ⟨q, rfl⟩ : ∃ q, k' = q + 1 := ⟨k' - 1, by omega⟩
        have hql : q < cs.length := by have := (List.getElem?_eq_some_iff.1 hm).1; omega
        have hq := List.getElem?_eq_getElem hql
        have := hon _ (hchain q _ i o hq hm ho)
        have := (hck q _ hq).1 this
        omega
      subst hkk
      have hklt : k < cs.length := (List.getElem?_eq_some_iff.1 hm).1
      obtain ⟨hw, hwp⟩ := ob a w h' D hle hg hS hfind (wpAny P .any ops Q fuel (listed.setIfInBounds i true)) Q fun v w' h'' D' hg' hst2 hS' hv => by
        have c' := c.put s.all s.hes ho he (s.small i o ho hdn) hon hst2.le hv
        rw [hd]
        refine ih _ _ w' h'' D' (k + 1) hfuel hst' (by omega) (fun j c' hjc => ?_) hS' (hle.trans hst2.le) hg' (hsp.trans hst2) c'
        rw [hset]
        by_cases e1 : i = c'
        · subst e1
          have := hnd j k i hjc hm
          subst this
          simp
        · rw [if_neg e1, hck j c' hjc]
          constructor
          · intro h1; omega
          · intro h1
            rcases Nat.lt_succ_iff_lt_or_eq.1 h1 with h2 | h2
            · exact h2
            · subst h2; rw [hjc] at hm; injection hm with hm; exact (e1 hm.symm).elim
      rw [if_pos hw]
      exact .inl hwp
end

/-! ### the rule -/
def okCs (p : Nat) (cs : List Nat) (os : List Oper) : Bool := allLt p cs && okChain cs os
theorem okChain_spec {cs : List Nat} {os : List Oper} (h : okChain cs os = true) : (∀ (k a b : Nat) (o : Oper), cs[k]? = some a → cs[k + 1]? = some b → os[b]? = some o → a ∈ ons o) ∧ ∀ (j k a b : Nat), j < k → cs[j]? = some a → cs[k]? = some b → a < b := by
  induction cs with
  | nil => exact ⟨fun k a b o h => by simp at h, fun j k a b _ h => by simp at h⟩
  | cons x r ih =>
    cases r with
    | nil => exact ⟨fun k a b o h1 h2 => by simp at h2, fun j k a b hjk h1 h2 => by cases k with | zero => omega | succ k => simp at h2⟩
    | cons y r =>
      simp only [okChain, Bool.and_eq_true] at h
      obtain ⟨⟨h1, h2⟩, h3⟩ := h
      obtain ⟨i1, i2⟩ := ih h3
      have hxy := blt_lt h2
      refine ⟨fun k a b o ha hb ho => ?_, fun j k a b hjk ha hb => ?_⟩
      · cases k with
        | zero =>
          simp at ha hb
          subst ha hb
          rw [nth?_eq, ho] at h1
          exact memN_iff.1 h1
        | succ k => exact i1 k a b o (by simpa using ha) (by simpa using hb) ho
      · cases k with
        | zero => omega
        | succ k =>
          cases j with
          | zero =>
            simp at ha
            subst ha
            cases k with
            | zero => simp at hb; subst hb; exact hxy
            | succ k => have := i2 0 (k + 1) y b (by omega) (by simp) (by simpa using hb); omega
          | succ j => exact i2 j k a b (by omega) (by simpa using ha) (by simpa using hb)
def smallDst (n : Nat) : List Oper → Bool
  | [] => true
  | o :: r => (match o.dst with | none => true | some d => Nat.blt d n) && smallDst n r
theorem smallDst_iff {n : Nat} {os : List Oper} (h : smallDst n os = true) : ∀ o ∈ os, o.dst ≠ none → dstOf o < n := by
  induction os with
  | nil => intro o ho; cases ho
  | cons x r ih =>
    simp only [smallDst, Bool.and_eq_true] at h
    intro o ho hd
    rcases List.mem_cons.1 ho with rfl | ho
    · cases hx : o.dst with
      | none => exact (hd hx).elim
      | some d => rw [hx] at h; unfold dstOf; rw [hx]; exact blt_lt h.1
    · exact ih h.2 o ho hd
def noClash (l : Fr) (W : List Nat) : List Oper → Bool
  | [] => true
  | o :: r => (match o.dst with | none => true | some d => memN d W || (lk l d).isNone) && noClash l W r
theorem noClash_iff {l : Fr} {W : List Nat} {os : List Oper} (h : noClash l W os = true) : ∀ o ∈ os, ∀ d, o.dst = some d → d ∈ W ∨ lk l d = none := by
  induction os with
  | nil => intro o ho; cases ho
  | cons x r ih =>
    simp only [noClash, Bool.and_eq_true] at h
    intro o ho d hd
    rcases List.mem_cons.1 ho with rfl | ho
    · rw [hd] at h; simpa [memN_iff] using h.1
    · exact ih h.2 o ho d hd
def FinT (T : Tb) (l : Fr) (h' : GH) : List Nat → (Fr → Prop) → Prop
  | [], φ => φ l
  | t :: r, φ => match lkT T t with
    | some (.v x) => FinT T l h' r (fun lf => φ ((t, x) :: lf))
    | some (.q Q) => ∀ x, (∃ h1, GH.le h1 h' ∧ Q x h1) → FinT T l h' r (fun lf => φ ((t, x) :: lf))
    | none => False
def finL (T : Tb) (l : Fr) : List Nat → Option Fr
  | [] => some l
  | t :: r => match lkT T t with
    | some (.v x) => match finL T l r with
      | none => none
      | some r' => some ((t, x) :: r')
    | _ => none
theorem finT_of_finL {T : Tb} {l : Fr} {h' : GH} {W : List Nat} {lf : Fr} (hf : finL T l W = some lf) {φ : Fr → Prop} (hφ : φ lf) : FinT T l h' W φ := by
  induction W generalizing lf φ with
  | nil => simp only [finL] at hf; injection hf with hf; subst hf; exact hφ
  | cons t r ih =>
    simp only [finL] at hf
    simp only [FinT]
    cases hk : lkT T t with
    | none => rw [hk] at hf; cases hf
    | some e =>
      rw [hk] at hf
      cases e with
      | q Q => cases hf
      | v x =>
        simp only [] at hf
        cases hr : finL T l r with
        | none => rw [hr] at hf; cases hf
        | some r' => rw [hr] at hf; injection hf with hf; subst hf; exact ih hr hφ
section
variable {P : Program} {nn : Nat} {E : Env} {Q : Exit → Act → World → Prop} {l : Fr} {h : GH} {M : Blks}
theorem finT_lf {ops : Array Oper} {es : List (Option Ent)} {S : List (Blks → GH → Prop)} {p : Nat} {cs : List Nat} {M1 : Blks} (s : Setup P M1 S h l ops p cs nn es) {a : Act} {h' : GH}
    (hdone : ∀ (i : Nat) (o : Oper) (e : Ent), i < p → ops[i]? = some o → es[i]? = some (some e) → ∃ x, a.tmps[dstOf o]? = some x ∧ e.holds x h') {W : List Nat} (hc : noClash l W ops.toList = true) {φ : Fr → Prop} (hf : FinT (tblOf ops.toList es).reverse l h' W φ) :
    ∃ lf, φ lf ∧ LF ops es l p a lf := by
  have gen : ∀ (W0 : List Nat) (φ : Fr → Prop), FinT (tblOf ops.toList es).reverse l h' W0 φ → ∃ lf, φ lf ∧ ∀ t v, lk lf t = some v → (∃ (i : Nat) (o : Oper), ops[i]? = some o ∧ o.dst = some t ∧ (es[i]? = some (some (.v v)) ∨ (i < p ∧ a.tmps[t]? = some v))) ∨ (t ∉ W0 ∧ lk l t = some v) := by
    intro W0
    induction W0 with
    | nil => intro φ hφ; exact ⟨l, hφ, fun t v ht => .inr ⟨by simp, ht⟩⟩
    | cons u r ih =>
      intro φ hφ
      simp only [FinT] at hφ
      have hz := lkT_tblOf (os := ops.toList) (es := es) (by simp [s.len]) (fun i o e h1 h2 => s.hes i o e (by simpa using h1) h2) u
      have fin : ∀ (x : Value), (∃ (i : Nat) (o : Oper), ops[i]? = some o ∧ o.dst = some u ∧ (es[i]? = some (some (.v x)) ∨ (i < p ∧ a.tmps[u]? = some x))) → FinT (tblOf ops.toList es).reverse l h' r (fun lf => φ ((u, x) :: lf)) → ∃ lf, φ lf ∧ ∀ t v, lk lf t = some v → (∃ (i : Nat) (o : Oper), ops[i]? = some o ∧ o.dst = some t ∧ (es[i]? = some (some (.v v)) ∨ (i < p ∧ a.tmps[t]? = some v))) ∨ (t ∉ u :: r ∧ lk l t = some v) := by
        intro x hx hfx
        obtain ⟨lf, h1, h2⟩ := ih _ hfx
        refine ⟨(u, x) :: lf, h1, fun t v ht => ?_⟩
        simp only [lk] at ht
        cases hb : Nat.beq u t with
        | true =>
          rw [hb] at ht
          have := Nat.eq_of_beq_eq_true hb
          subst this
          simp only [cond_true] at ht
          injection ht with ht
          subst ht
          exact .inl hx
        | false =>
          rw [hb] at ht
          rcases h2 t v ht with h3 | ⟨h3, h4⟩
          · exact .inl h3
          · refine .inr ⟨fun hm => ?_, h4⟩
            rcases List.mem_cons.1 hm with e | hm
            · rw [e] at hb; simp at hb
            · exact h3 hm
      cases hk : lkT (tblOf ops.toList es).reverse u with
      | none => rw [hk] at hφ; exact hφ.elim
      | some e =>
        rw [hk] at hφ hz
        obtain ⟨i, o, h1, h2, h3⟩ := hz
        have h1' : ops[i]? = some o := by simpa using h1
        cases e with
        | v x => exact fin x ⟨i, o, h1', h2, .inl h3⟩ hφ
        | q Qx =>
          have hip : i < p := by
            obtain ⟨e', he', it⟩ := s.item i o h1'
            rw [h3] at he'
            injection he' with he'
            subst he'
            cases it <;> assumption
          obtain ⟨x, hx, hxe⟩ := hdone i o _ hip h1' h3
          have hd := s.hes i o _ h1' h3
          rw [h2] at hd
          injection hd with hd
          rw [← hd] at hx
          exact fin x ⟨i, o, h1', h2, .inr ⟨hip, hx⟩⟩ (hφ x hxe)
  obtain ⟨lf, h1, h2⟩ := gen W φ hf
  refine ⟨lf, h1, fun t v ht => ?_⟩
  rcases h2 t v ht with h3 | ⟨h3, h4⟩
  · exact .inl h3
  · refine .inr ⟨h4, fun i o ho hd => ?_⟩
    rcases noClash_iff hc o (List.mem_of_getElem? (i := i) (by simpa using ho)) t hd with h5 | h5
    · exact h3 h5
    · rw [h4] at h5; cases h5
class Mixed (P : Program) : Prop where
  m : P.follows .mixedOrders = true
theorem draw_core {id : Nat} {os : List Oper} {T' : Tb} {S : List (Blks → GH → Prop)} {M1 D0 : Blks} (p : Nat) (W cs : List Nat) [Mixed P] (hp : Nat.ble p os.length = true) (h1 : okAll os.toArray 0 os = true) (h2 : okBehind os.toArray p 0 os [] = true) (h3 : smallDst nn os = true) (h4 : okCs p cs os = true)
    (hM : M = M1 ++ D0) (hS : HS S 0 D0 h) (ht : Tbl P M1 S h l os.toArray p cs 0 0 os [] T') (hc : noClash l W os = true)
    (k : ∀ (w : World) h' D, GH.le h h' → HS S cs.length D h' → Inv E w h' (M1 ++ D) → ∃ hq, Inv E w hq (M1 ++ D) ∧ FinT T' l h' W (fun lf => SQ P nn E Q os.toArray lf hq (stsOf os) (M1 ++ D))) :
    St P nn E (.region id os.toArray true) Q l h M := fun a w ha hi => by
  subst hM
  obtain ⟨es, he1, he2, he3⟩ := ht.items
  rw [List.append_nil] at he2
  have hA := okAll_spec h1
  have hB := okBehind_spec h2
  simp only [okCs, Bool.and_eq_true] at h4
  obtain ⟨hc1, hc2⟩ := okChain_spec h4.2
  have hpl := Nat.le_of_ble_eq_true hp
  have hset : Setup P M1 S h l os.toArray p cs nn es := by
    refine ⟨by simpa using hA, fun i x hx => ?_, by simpa using he1, fun i o ho => ?_, fun i o ho hd => smallDst_iff h3 o (List.mem_of_getElem? (i := i) (by simpa using ho)) hd⟩
    · have := hB i x (by simpa using hx)
      rw [Nat.zero_add] at this
      refine ⟨this.1, fun e => ?_⟩
      obtain ⟨k1, k2, _, k4⟩ := this.2 e
      exact ⟨k1, k2, fun j y hj hy hyd => by have := k4 j y hj (by simpa using hy) hyd; rwa [Nat.zero_add] at this⟩
    · obtain ⟨e, h5, h6⟩ := he3 i o (by simpa using ho)
      rw [Nat.zero_add, List.append_nil] at h6
      exact ⟨e, h5, by simpa using h6⟩
  have hi1 := hi.next hi.good.drew Step.drew
  refine wp_region_any Mixed.m ?_
  refine phase1 (E := E) hset (fun k a b o h5 h6 h7 => hc1 k a b o h5 h6 (by simpa using h7)) (fun j k c h5 h6 => ?_) (fun c hcm => ⟨allLt_iff.1 h4.1 c hcm, by have := allLt_iff.1 h4.1 c hcm; simp; omega⟩) (w0 := w.drew) (M0 := M1 ++ D0) ?_
    _ _ a w.drew h D0 0 ?_ ?_ (Nat.zero_le _) ?_ hS (GH.le.refl _) hi1.good (Step.refl _ _ _) ⟨by simp, ha.defers, ha.size, ?_, fun t v hv _ => ha.ev t v hv, ?_⟩
  · rcases Nat.lt_trichotomy j k with hlt | he | hgt
    · have := hc2 j k c c hlt h5 h6; omega
    · exact he
    · have := hc2 k j c c hgt h6 h5; omega
  · intro a' w' h' D hle hg hst hSD hde hsz hdone
    have hi2 := hi1.next hg hst
    obtain ⟨hq, hiq, hfin⟩ := k w' h' D hle hSD hi2
    rw [he2] at hfin
    obtain ⟨lf, hsq, hlf⟩ := finT_lf hset hdone (by simpa using hc) (by simpa using hfin)
    exact ⟨lf, hq, hlf, by simpa using hsq, hiq⟩
  · have : ∀ n, n ≤ os.length → (List.range n).countP (fun i => !(Array.replicate os.toArray.size false).getD i true) = n := by
      intro n
      induction n with
      | zero => intro _; simp
      | succ n ih =>
        intro hn
        rw [List.range_succ, List.countP_append, ih (by omega)]
        have h0 : (Array.replicate os.toArray.size false).getD n true = false := by simp [Array.getD_eq_getD_getElem?, show n < os.length by omega]
        have h1 : [n].countP (fun i => !(Array.replicate os.toArray.size false).getD i true) = 1 := by simp only [List.countP_cons, List.countP_nil, h0]; rfl
        omega
    have := this os.length (Nat.le_refl _)
    unfold unl
    simp only [List.size_toArray] at this ⊢
    exact this.symm
  · intro i o ho _
    have hlt := (Array.getElem?_eq_some_iff.1 ho).1
    have hlt' : i < os.length := by simpa using hlt
    simp [Array.getD_eq_getD_getElem?, hlt']
  · intro j c _
    constructor
    · intro hx
      exfalso
      simp only [Array.getD_eq_getD_getElem?, Array.getElem?_replicate] at hx
      split at hx <;> simp at hx
    · intro hx; omega
  · intro i o e _ _ hx
    exfalso
    simp only [Array.getD_eq_getD_getElem?, Array.getElem?_replicate] at hx
    split at hx <;> simp at hx
  · intro i o _ hx
    exfalso
    simp only [Array.getD_eq_getD_getElem?, Array.getElem?_replicate] at hx
    split at hx <;> simp at hx
/-- A region that draws, in general. -/
theorem St.drawG {id : Nat} {os : List Oper} {T' : Tb} {S : List (Blks → GH → Prop)} {M1 D0 : Blks} (p : Nat) (W cs : List Nat) [Mixed P] (hp : Nat.ble p os.length = true) (h1 : okAll os.toArray 0 os = true) (h2 : okBehind os.toArray p 0 os [] = true) (h3 : smallDst nn os = true) (h4 : okCs p cs os = true)
    (hM : M = M1 ++ D0) (hS : HS S 0 D0 h) (ht : Tbl P M1 S h l os.toArray p cs 0 0 os [] T') (hc : noClash l W os = true)
    (k : ∀ h' D, GH.le h h' → HS S cs.length D h' → FinT T' l h' W (fun lf => SQ P nn E Q os.toArray lf h' (stsOf os) (M1 ++ D))) :
    St P nn E (.region id os.toArray true) Q l h M := draw_core p W cs hp h1 h2 h3 h4 hM hS ht hc fun w h' D hle hSD hi => ⟨h', hi, k h' D hle hSD⟩
/-- One whose values are all determined, and in which nothing else is written. -/
theorem St.drawV {id : Nat} {os : List Oper} {T' : Tb} {lf : Fr} (p : Nat) (W : List Nat) [Mixed P] (hp : Nat.ble p os.length = true) (h1 : okAll os.toArray 0 os = true) (h2 : okBehind os.toArray p 0 os [] = true) (h3 : smallDst nn os = true)
    (ht : Tbl P M [fun D _ => D = []] h l os.toArray p [] 0 0 os [] T') (hc : noClash l W os = true) (hf : finL T' l W = some lf) (k : SQ P nn E Q os.toArray lf h (stsOf os) M) :
    St P nn E (.region id os.toArray true) Q l h M := fun a w ha hi => draw_core (E := E) (M1 := M) (D0 := []) p W [] hp h1 h2 h3 rfl (List.append_nil _).symm ⟨_, h, rfl, GH.le.refl _, rfl⟩ ht hc (fun w' h' D hle hSD hi' => by
  obtain ⟨R, h1', hR, _, hD⟩ := hSD
  simp only [List.length_nil, List.getElem?_cons_zero, Option.some.injEq] at hR
  subst hR
  have hD' : D = [] := hD
  subst hD'
  refine ⟨h, ⟨⟨fun b o hb => hi'.good.sat b o (hle b o hb), hi'.good.mem, fun q hq => ?_, hi'.good.dis⟩, { hi'.step with le := hi.step.le, fresh := hi.step.fresh }⟩, finT_of_finL hf (by simpa using k)⟩
  cases hx : h q.1 with
  | none => rfl
  | some o => have := hle _ _ hx; rw [hi'.good.sep q hq] at this; cases this) a w ha hi
end
end Go.Proofs.YtfookachkcgdpaaDoor
/- What is owed for each operation of a region that draws. Plain theorems; no condition. -/
set_option linter.unusedVariables false
set_option linter.unusedSimpArgs false
namespace Go.Proofs.YtfookachkcgdpaaDoor
open Go.RowKit
section
variable {P : Program} {nn : Nat} {E : Env} {Q : Exit → Act → World → Prop} {l l' : Fr} {h : GH} {M : Blks} {ops : Array Oper} {T : Tb}
variable {d : Option Tmp} {ty : TypeId} {pos : String} {aft : Array Edge} {g : Option (Nat × Bool)} {op : Op}
theorem wanted_none (y : Nat → Option Bool) : Region.wanted ⟨d, op, ty, pos, aft, none⟩ y = true := rfl
theorem wanted_some {j dj : Nat} {b want : Bool} {a : Act} (ha : Ev a l) (hj : (ops[j]?).bind (·.dst) = some dj) (hb : lk l dj = some (.bool b)) :
    Region.wanted ⟨d, op, ty, pos, aft, some (j, want)⟩ (yielded ops a.tmps) = (b == want) := by
  simp only [Region.wanted, yielded, hj, Option.bind_some, ha dj _ hb]
  cases b <;> cases want <;> rfl
theorem Ob.n {v : Value} (hs : selL T l (Oper.looksAt ops ⟨d, op, ty, pos, aft, none⟩) = some l') (hv : NOp P h M l' ⟨d, op, ty, pos, aft, none⟩ v) : Ob P M h l ops T ⟨d, op, ty, pos, aft, none⟩ (.v v) := by
  intro a w h' D hle hg hf K Q k
  rw [wanted_none, if_pos rfl]
  unfold Oper.wp
  rw [hv a w h' hle hg.left (selL_ev hs hf)]
  exact k v w h' hg (Step.refl _ _ _) rfl
theorem Ob.gT {j dj : Nat} {want : Bool} {v : Value} (hs : selL T l (Oper.looksAt ops ⟨d, op, ty, pos, aft, some (j, want)⟩) = some l') (hj : (ops[j]?).bind (·.dst) = some dj) (hb : lk l' dj = some (.bool want)) (hv : NOp P h M l' ⟨d, op, ty, pos, aft, some (j, want)⟩ v) :
    Ob P M h l ops T ⟨d, op, ty, pos, aft, some (j, want)⟩ (.v v) := by
  intro a w h' D hle hg hf K Q k
  have hev := selL_ev hs hf
  rw [wanted_some hev hj hb, beq_self_eq_true, if_pos rfl]
  unfold Oper.wp
  rw [hv a w h' hle hg.left hev]
  exact k v w h' hg (Step.refl _ _ _) rfl
theorem Ob.gF {j dj : Nat} {want : Bool} (hs : selL T l (Oper.looksAt ops ⟨d, op, ty, pos, aft, some (j, want)⟩) = some l') (hj : (ops[j]?).bind (·.dst) = some dj) (hb : lk l' dj = some (.bool (!want))) :
    Ob P M h l ops T ⟨d, op, ty, pos, aft, some (j, want)⟩ (.v undef) := by
  intro a w h' D hle hg hf K Q k
  have hev := selL_ev hs hf
  rw [wanted_some hev hj hb, if_neg (by cases want <;> simp)]
  exact k undef w h' hg (Step.refl _ _ _) rfl
/-- An operand of which only a predicate is known. -/
theorem Ob.q {o : Oper} {e : Ent} (t : Nat) {Qt : Value → GH → Prop} (ht : lkT T t = some (.q Qt)) (hm : memN t (o.looksAt ops) = true) (k : ∀ x h1, GH.le h h1 → (∃ h2, GH.le h2 h1 ∧ Qt x h2) → Ob P M h1 l ops ((t, .v x) :: T) o e) : Ob P M h l ops T o e := by
  intro a w h' D hle hg hf K Q kk
  have h0 := hf t (memN_iff.1 hm)
  rw [ht] at h0
  obtain ⟨x, hx, hq⟩ := h0
  refine k x h' hle hq a w h' D (GH.le.refl _) hg (fun u hu => ?_) K Q kk
  simp only [lkT]
  cases hb : Nat.beq t u with
  | true =>
    have := Nat.eq_of_beq_eq_true hb
    subst this
    exact ⟨x, hx, rfl⟩
  | false => exact hf u hu
theorem ob_call {f : Nat} [CF P f] {args : List Operand} {ats : Array TypeId} {vs : List Value} {Qv : Value → GH → Prop} {a : Act} {w : World} {h' : GH} {M0 : Blks} {K : Act → World → Prop} {Q : Exit → Act → World → Prop} (hg : Good w h' M0) (hev : Ev a l') (hx : lks l' args = some vs)
    (c : Fn P h' [] f vs.toArray fun u h2 M2 => Qv u h2 ∧ M2 = []) (k : ∀ v w' h'', Good w' h'' M0 → Step w h' M0 w' h'' M0 → Qv v h'' → K (a.put d v) w') :
    Oper.wp P ⟨d, .call { callee := .value (.func f), args := args.toArray, argTypes := ats }, ty, pos, aft, g⟩ a w K Q := by
  unfold Oper.wp
  rw [run_call hev hx w, Oper.upon_enter]
  have hg0 : Good w h' ([] ++ M0) := hg
  refine (c w hg0.left).mono ?_
  rintro e w' ⟨v, h2, M2, rfl, hi, hq, rfl⟩
  exact k v w' h2 (Good.app (M := []) hg0 hi.good hi.step) (hi.step.app M0) hq
/-- A contract holds wherever more is known. -/
def Up (P : Program) (h : GH) (f : Nat) (args : Array Value) (v : Value) : Prop := ∀ h', GH.le h h' → FnV P h' f args v
theorem FnV.q {f : Nat} {args : Array Value} {v : Value} {h' : GH} (c : FnV P h' f args v) : Fn P h' [] f args fun u h2 M2 => (u = v ∧ h2 = h') ∧ M2 = [] := c.mono fun u h2 M2 _ ⟨h1, h2, h3⟩ => ⟨⟨h1, h2⟩, h3⟩
theorem Ob.callV {f : Nat} [CF P f] {args : List Operand} {ats : Array TypeId} {vs : List Value} {v : Value} (hs : selL T l (Oper.looksAt ops ⟨d, .call { callee := .value (.func f), args := args.toArray, argTypes := ats }, ty, pos, aft, none⟩) = some l') (hx : lks l' args = some vs)
    (c : Up P h f vs.toArray v) : Ob P M h l ops T ⟨d, .call { callee := .value (.func f), args := args.toArray, argTypes := ats }, ty, pos, aft, none⟩ (.v v) := by
  intro a w h' D hle hg hf K Q k
  rw [wanted_none, if_pos rfl]
  exact ob_call (Qv := fun u h2 => u = v ∧ h2 = h') hg (selL_ev hs hf) hx (c h' hle).q fun u w' h2 hg2 hs2 hq => k u w' h2 hg2 hs2 hq.1
theorem Ob.callVT {j dj : Nat} {want : Bool} {f : Nat} [CF P f] {args : List Operand} {ats : Array TypeId} {vs : List Value} {v : Value} (hs : selL T l (Oper.looksAt ops ⟨d, .call { callee := .value (.func f), args := args.toArray, argTypes := ats }, ty, pos, aft, some (j, want)⟩) = some l')
    (hj : (ops[j]?).bind (·.dst) = some dj) (hb : lk l' dj = some (.bool want)) (hx : lks l' args = some vs)
    (c : Up P h f vs.toArray v) : Ob P M h l ops T ⟨d, .call { callee := .value (.func f), args := args.toArray, argTypes := ats }, ty, pos, aft, some (j, want)⟩ (.v v) := by
  intro a w h' D hle hg hf K Q k
  have hev := selL_ev hs hf
  rw [wanted_some hev hj hb, beq_self_eq_true, if_pos rfl]
  exact ob_call (Qv := fun u h2 => u = v ∧ h2 = h') hg hev hx (c h' hle).q fun u w' h2 hg2 hs2 hq => k u w' h2 hg2 hs2 hq.1
theorem Ob.callP {f : Nat} [CF P f] {args : List Operand} {ats : Array TypeId} {vs : List Value} {post : Value → GH → Prop} (hs : selL T l (Oper.looksAt ops ⟨d, .call { callee := .value (.func f), args := args.toArray, argTypes := ats }, ty, pos, aft, none⟩) = some l') (hx : lks l' args = some vs)
    (c : ∀ h', GH.le h h' → FnP P h' f vs.toArray post) : Ob P M h l ops T ⟨d, .call { callee := .value (.func f), args := args.toArray, argTypes := ats }, ty, pos, aft, none⟩ (.q post) := by
  intro a w h' D hle hg hf K Q k
  rw [wanted_none, if_pos rfl]
  exact ob_call (Qv := post) hg (selL_ev hs hf) hx (c h' hle) fun u w' h2 hg2 hs2 hq => k u w' h2 hg2 hs2 ⟨h2, GH.le.refl _, hq⟩
/-- A new block, of which it is known at once that it stays: without a frame of its own. -/
theorem Good.newKnown {w : World} {M0 : Blks} (g : Good w h M0) (o : Obj) : ∃ h', h' w.heap.size = some o ∧ Good (w.alloc o) h' M0 ∧ Step w h M0 (w.alloc o) h' M0 := by
  obtain ⟨h', hle, hat, hi⟩ := Inv.newKnown (E := ⟨w, h, M0⟩) ⟨g, Step.refl _ _ _⟩ o
  exact ⟨h', hat, hi.good, hi.step⟩
def LitQ (len : Nat) (r : List Value) (e : TypeId) (v : Value) (h : GH) : Prop := ∃ b, v = .slice (some ⟨b, 0, none⟩) len len ∧ h b = some (cel r e)
theorem Ob.lit {t e : TypeId} {len sz : Nat} {d2 : TypeDesc} {s1 : Nat} {z1 z : Value} {a1 ag : Bool} {parts : List (Nat × Operand)} {vs : List (Nat × Value)} {cs : List (Nat × List Value)} {r zs : List Value} [TI P t (.slice e) s1 z1 a1] [TI P e d2 sz z ag]
    (hs : selL T l (Oper.looksAt ops ⟨d, .buildSlice t len parts.toArray, ty, pos, aft, none⟩) = some l') (hp : lkps l' parts = some vs) (hc : CellsL vs cs) (hz : cellsL z = some zs) (hsz : lenIs zs sz = true) (hs0 : Nat.blt 0 (len * sz) = true) (hbig : Nat.ble (len * sz) 16777216 = true)
    (hf : fillL (plS sz 0 len) (zerosL zs len) cs = some r) : Ob P M h l ops T ⟨d, .buildSlice t len parts.toArray, ty, pos, aft, none⟩ (.q (LitQ len r e)) := by
  intro a w h' D hle hg hfi K Q k
  rw [wanted_none, if_pos rfl]
  have hev := selL_ev hs hfi
  have hrun := run_buildSlice (P := P) (t := t) (e := e) hc hz hsz hs0 hbig hf w
  unfold Oper.wp
  simp only [execOp, List.map_toArray, hev.evalps hp, Sem.run_bind]
  rw [hrun]
  simp only [Result.andThen_ok, Sem.run_pure]
  obtain ⟨h2, hat, hg2, hs2⟩ := hg.newKnown (cel r e)
  exact k _ _ h2 hg2 hs2 ⟨h2, GH.le.refl _, _, rfl, hat⟩
/-- A call that writes what is not held still. -/
theorem ObM.call {S : List (Blks → GH → Prop)} {k : Nat} {R R' : Blks → GH → Prop} {f : Nat} [CF P f] {args : List Operand} {ats : Array TypeId} {vs : List Value} {post : Value → GH → Prop} (hk : S[k]? = some R) (hk' : S[k + 1]? = some R')
    (hs : selL T l (Oper.looksAt ops ⟨d, .call { callee := .value (.func f), args := args.toArray, argTypes := ats }, ty, pos, aft, none⟩) = some l') (hx : lks l' args = some vs)
    (c : ∀ h' D, GH.le h h' → (∃ h2, GH.le h2 h' ∧ R D h2) → Fn P h' D f vs.toArray fun u h2 D' => post u h2 ∧ R' D' h2) : ObM P M S k h l ops T ⟨d, .call { callee := .value (.func f), args := args.toArray, argTypes := ats }, ty, pos, aft, none⟩ (.q post) := by
  intro a w h' D hle hg hS hf K Q kk
  refine ⟨rfl, ?_⟩
  obtain ⟨R0, h1, hR0, hle1, hR⟩ := hS
  rw [hk] at hR0
  injection hR0 with hR0
  subst hR0
  unfold Oper.wp
  rw [run_call (selL_ev hs hf) hx w, Oper.upon_enter]
  have hgp : Good w h' (D ++ M) := hg.perm List.perm_append_comm
  refine (c h' D hle ⟨h1, hle1, hR⟩ w hgp.left).mono ?_
  rintro e w' ⟨v, h2, D', rfl, hi, hq, hR'⟩
  have hg2 := Good.app hgp hi.good hi.step
  have hs2 := hi.step.app M
  refine kk v w' h2 D' (hg2.perm List.perm_append_comm) ?_ ⟨R', h2, hk', GH.le.refl _, hR'⟩ ⟨h2, GH.le.refl _, hq⟩
  exact { hs2 with frame := fun b hb hM => hs2.frame b hb fun q hq => hM q (List.perm_append_comm.subset hq), own := fun q hq => (hs2.own q (List.perm_append_comm.subset hq)).imp (fun ⟨r, hr, e⟩ => ⟨r, List.perm_append_comm.subset hr, e⟩) id }

theorem SQ.nil {lf : Fr} (k : Qs nn E Q .normal lf h M) : SQ P nn E Q ops lf h [] M := k
theorem SQ.cons {lf : Fr} {o : Oper} {r : List Oper} {M' : Blks} (s : SOp P h M lf ops o M') (k : SQ P nn E Q ops lf h r M') : SQ P nn E Q ops lf h (o :: r) M := ⟨M', s, k⟩
theorem SOp.store {t e : TypeId} {x y : Operand} {b off sz : Nat} {v : Value} {c xs xs' : List Value} {M' : Blks} {lf : Fr} {dsc z ag} [TI P t dsc sz z ag] (i : Nat) (hx : lko lf x = some (.pointer (some ⟨b, off, none⟩))) (hy : lko lf y = some v) (hc : cellsL v = some c)
    (hsz : lenIs c sz = true) (h1 : OneL c) (hM : nth? M i = some (b, cel xs e)) (hst : stL xs off c = some xs') (hup : updM M i (b, cel xs' e) = some M') :
    SOp P h M lf ops ⟨none, .store t x y, ty, pos, aft, none⟩ M' := by
  refine ⟨rfl, fun a w hl hg => ?_⟩
  have ev : ∀ {z : Operand} {u : Value}, z = x ∨ z = y → lko lf z = some u → a.eval z = u := by
    intro z u hz hu
    cases z with
    | tmp k =>
      have := hl k (by rcases hz with rfl | rfl <;> simp [Oper.looksAt, Op.operands]) u hu
      simp only [Act.eval, Array.getD_eq_getD_getElem?, this]; rfl
    | const u' => simpa [lko, Act.eval] using hu
    | global g => simpa [lko, Act.eval] using hu
    | func f => simpa [lko, Act.eval] using hu
  obtain ⟨A, B, rfl, rfl⟩ := updM_mem hM hup
  have hb := hg.mem (b, cel xs e) (by simp)
  have hle : off + c.length ≤ xs.length ∧ xs' = putL xs off c := by
    unfold stL at hst
    split at hst
    · rename_i hble; rw [force_eq] at hst; injection hst with hst; exact ⟨Nat.le_of_ble_eq_true hble, hst.symm⟩
    · cases hst
  have hstore := run_storeCells_at P b off e c 0 xs.toArray w hb (by simpa using hle.1) h1.all
  have hrow : (xs.toArray.toList.take (off + 0) ++ c ++ xs.toArray.toList.drop (off + 0 + c.length)).toArray = xs'.toArray := by
    rw [hle.2, putL_eq xs off c hle.1]; rfl
  rw [hrow] at hstore
  refine ⟨w.setRow b xs'.toArray, ?_, Good.upd hg (setRow_heap hb _) (fun x hx => setRow_other w b _ hx), Step.upd hg rfl rfl rfl (by simp [World.setRow]) (fun x hx => setRow_other w b _ hx)⟩
  simp only [execOp, ev (.inl rfl) hx, ev (.inr rfl) hy, Instr.storeAt, Instr.sureAddr, Sem.run_bind, Sem.run_pure, Result.andThen_ok, storeVar, TI.size (P := P) (t := t), cellsL_eq hc, List.size_toArray, lenIs_eq hsz]
  rw [if_neg (by simp)]
  simp only [hstore, Result.andThen_ok]
theorem SOp.store2 {t e : TypeId} {x y : Operand} {b off sz : Nat} {v : Value} {c xs xs' : List Value} {M' : Blks} {lf : Fr} {dsc z ag} [TI P t dsc sz z ag] (i : Nat) (hx : lko lf x = some (.pointer (some ⟨b, off, none⟩))) (hM : nth? M i = some (b, cel xs e)) (hy : lko lf y = some v) (hc : cellsL v = some c)
    (hsz : lenIs c sz = true) (h1 : OneL c) (hst : stL xs off c = some xs') (hup : updM M i (b, cel xs' e) = some M') :
    SOp P h M lf ops ⟨none, .store t x y, ty, pos, aft, none⟩ M' := SOp.store i hx hy hc hsz h1 hM hst hup
/-- A call that writes one of the blocks that are owned. -/
def setM : Blks → Nat → Nat × Obj → Blks
  | [], _, _ => []
  | _ :: r, 0, q => q :: r
  | x :: r, i + 1, q => x :: setM r i q
theorem nth_split {M : Blks} {i : Nat} {q : Nat × Obj} (hi : nth? M i = some q) : ∃ A B, M = A ++ q :: B ∧ ∀ q', setM M i q' = A ++ q' :: B := by
  induction M generalizing i with
  | nil => cases hi
  | cons x r ih =>
    cases i with
    | zero => simp only [nth?] at hi; injection hi with hi; subst hi; exact ⟨[], r, rfl, fun _ => rfl⟩
    | succ i =>
      simp only [nth?] at hi
      obtain ⟨A, B, h1, h2⟩ := ih hi
      exact ⟨x :: A, B, by rw [h1]; rfl, fun q' => by simp [setM, h2 q']⟩
theorem SL.callR {rest : List Oper} {d : Nat} {f : Nat} [CF P f] {args : List Operand} {ats : Array TypeId} {vs : List Value} {b : Nat} {o : Obj} {post : Value → GH → Obj → Prop} (i : Nat) (hx : lks l args = some vs) (hM : nth? M i = some (b, o))
    (c : Fn P h [(b, o)] f vs.toArray fun v h' M' => ∃ o', M' = [(b, o')] ∧ post v h' o') (hd : Nat.blt d nn = true) (k : ∀ v h' o', GH.le h h' → post v h' o' → SL P nn E ops Q rest ((d, v) :: l) h' (setM M i (b, o'))) :
    SL P nn E ops Q (⟨some d, .call { callee := .value (.func f), args := args.toArray, argTypes := ats }, ty, pos, aft, none⟩ :: rest) l h M := by
  obtain ⟨A, B, h1, h2⟩ := nth_split hM
  have hp : ∀ o', (A ++ (b, o') :: B).Perm ((b, o') :: (A ++ B)) := fun o' => List.perm_middle
  refine SL.perm ((b, o) :: (A ++ B)) (h1 ▸ hp o) (SL.callG (Mc := [(b, o)]) (R := A ++ B) hx c rfl hd fun v h' M' hle ⟨o', hM', hpost⟩ => ?_)
  subst hM'
  have := k v h' o' hle hpost
  rw [h2] at this
  exact SL.perm _ (hp o').symm this

/-! ### the table, with what is asked behind it -/
section
variable {S : List (Blks → GH → Prop)} {p : Nat} {cs : List Nat} {i k : Nat} {rest : List Oper} {φ : Tb → Prop}
def TK (P : Program) (M : Blks) (S : List (Blks → GH → Prop)) (h : GH) (l : Fr) (ops : Array Oper) (p : Nat) (cs : List Nat) (i k : Nat) (os : List Oper) (T : Tb) (φ : Tb → Prop) : Prop := ∃ T', Tbl P M S h l ops p cs i k os T T' ∧ φ T'
theorem TK.cons {o : Oper} {d : Nat} {e : Ent} (hm : memN i cs = false) (hd : o.dst = some d) (ob : Ob P M h l ops T o e) (hi : Nat.blt i p = true) (r : TK P M S h l ops p cs (i + 1) k rest ((d, e) :: T) φ) : TK P M S h l ops p cs i k (o :: rest) T φ := by
  obtain ⟨T', h1, h2⟩ := r
  exact ⟨T', .cons hi hm hd ob h1, h2⟩
theorem TK.consM {o : Oper} {d : Nat} {e : Ent} (hm : nth? cs k = some i) (hd : o.dst = some d) (ob : ObM P M S k h l ops T o e) (hi : Nat.blt i p = true) (r : TK P M S h l ops p cs (i + 1) (k + 1) rest ((d, e) :: T) φ) : TK P M S h l ops p cs i k (o :: rest) T φ := by
  obtain ⟨T', h1, h2⟩ := r
  exact ⟨T', .consM hi hm hd ob h1, h2⟩
theorem TK.consF {o : Oper} {d : Nat} {v : Value} (hd : o.dst = some d) (hg : o.guard = none) (hs : selL T l (o.looksAt ops) = some l') (hv : NOp P (fun _ => none) [] l' o v) (hi : Nat.ble p i = true) (r : TK P M S h l ops p cs (i + 1) k rest ((d, .v v) :: T) φ) : TK P M S h l ops p cs i k (o :: rest) T φ := by
  obtain ⟨T', h1, h2⟩ := r
  exact ⟨T', .consF hi hd hg hs hv h1, h2⟩
theorem TK.consS {o : Oper} (hd : o.dst = none) (hi : Nat.ble p i = true) (r : TK P M S h l ops p cs (i + 1) k rest T φ) : TK P M S h l ops p cs i k (o :: rest) T φ := by
  obtain ⟨T', h1, h2⟩ := r
  exact ⟨T', .consS hi hd h1, h2⟩
theorem TK.nilV {lf : Fr} {W : List Nat} {os : List Oper} {ops' : Array Oper} {M' : Blks} (hk : k = cs.length) (hf : finL T l W = some lf) (kk : SQ P nn E Q ops' lf h (stsOf os) M') : TK P M S h l ops p cs i k [] T (fun T' => ∃ lf, finL T' l W = some lf ∧ SQ P nn E Q ops' lf h (stsOf os) M') :=
  ⟨T, .nil hk, lf, hf, kk⟩
theorem TK.nilG (hk : k = cs.length) (kk : φ T) : TK P M S h l ops p cs i k [] T φ := ⟨T, .nil hk, kk⟩
theorem TK.isTK {os : List Oper} (kk : TK P M S h l ops p cs i k os T φ) : TK P M S h l ops p cs i k os T φ := kk
theorem TK.isHead {os : List Oper} (hi : Nat.blt i p = true) (kk : TK P M S h l ops p cs i k os T φ) : TK P M S h l ops p cs i k os T φ := kk
theorem TK.isTail {os : List Oper} (hi : Nat.ble p i = true) (kk : TK P M S h l ops p cs i k os T φ) : TK P M S h l ops p cs i k os T φ := kk
theorem TK.isN {d : Nat} (kk : TK P M S h l ops p cs i k (⟨some d, op, ty, pos, aft, none⟩ :: rest) T φ) : TK P M S h l ops p cs i k (⟨some d, op, ty, pos, aft, none⟩ :: rest) T φ := kk
theorem TK.isG {d : Nat} {g : Nat × Bool} (kk : TK P M S h l ops p cs i k (⟨some d, op, ty, pos, aft, some g⟩ :: rest) T φ) : TK P M S h l ops p cs i k (⟨some d, op, ty, pos, aft, some g⟩ :: rest) T φ := kk
theorem TK.isBin {op : BinOp} {x y : Operand} {xt yt : TypeId} (kk : TK P M S h l ops p cs i k (⟨d, .binOp op xt x y yt, ty, pos, aft, g⟩ :: rest) T φ) : TK P M S h l ops p cs i k (⟨d, .binOp op xt x y yt, ty, pos, aft, g⟩ :: rest) T φ := kk
theorem TK.isLd {t : TypeId} {x : Operand} (kk : TK P M S h l ops p cs i k (⟨d, .load t x, ty, pos, aft, g⟩ :: rest) T φ) : TK P M S h l ops p cs i k (⟨d, .load t x, ty, pos, aft, g⟩ :: rest) T φ := kk
theorem TK.isTa {x : Operand} {t u : TypeId} {b : Bool} (kk : TK P M S h l ops p cs i k (⟨d, .typeAssert x t u b, ty, pos, aft, g⟩ :: rest) T φ) : TK P M S h l ops p cs i k (⟨d, .typeAssert x t u b, ty, pos, aft, g⟩ :: rest) T φ := kk
theorem TK.isCall {c : Call} (kk : TK P M S h l ops p cs i k (⟨d, .call c, ty, pos, aft, g⟩ :: rest) T φ) : TK P M S h l ops p cs i k (⟨d, .call c, ty, pos, aft, g⟩ :: rest) T φ := kk
theorem SQ.isSQ {lf : Fr} {r : List Oper} (kk : SQ P nn E Q ops lf h r M) : SQ P nn E Q ops lf h r M := kk
theorem St.drawV' {id : Nat} {os : List Oper} (p : Nat) (W : List Nat) [Mixed P] (hp : Nat.ble p os.length = true) (h1 : okAll os.toArray 0 os = true) (h2 : okBehind os.toArray p 0 os [] = true) (h3 : smallDst nn os = true) (hc : noClash l W os = true)
    (t : TK P M [fun D _ => D = []] h l os.toArray p [] 0 0 os [] (fun T' => ∃ lf, finL T' l W = some lf ∧ SQ P nn E Q os.toArray lf h (stsOf os) M)) : St P nn E (.region id os.toArray true) Q l h M := by
  obtain ⟨T', h4, lf, h5, h6⟩ := t
  exact St.drawV p W hp h1 h2 h3 h4 hc h5 h6
theorem St.drawG' {id : Nat} {os : List Oper} {M1 D0 : Blks} (p : Nat) (W cs : List Nat) (S : List (Blks → GH → Prop)) [Mixed P] (hp : Nat.ble p os.length = true) (h1 : okAll os.toArray 0 os = true) (h2 : okBehind os.toArray p 0 os [] = true) (h3 : smallDst nn os = true) (h4 : okCs p cs os = true) (hc : noClash l W os = true)
    (hM : M = M1 ++ D0) (hS : HS S 0 D0 h)
    (t : TK P M1 S h l os.toArray p cs 0 0 os [] (fun T' => ∀ h' D, GH.le h h' → HS S cs.length D h' → FinT T' l h' W (fun lf => SQ P nn E Q os.toArray lf h' (stsOf os) (M1 ++ D)))) : St P nn E (.region id os.toArray true) Q l h M := by
  obtain ⟨T', h5, h6⟩ := t
  exact St.drawG p W cs hp h1 h2 h3 h4 hM hS h5 hc h6
end
end
end Go.Proofs.YtfookachkcgdpaaDoor
