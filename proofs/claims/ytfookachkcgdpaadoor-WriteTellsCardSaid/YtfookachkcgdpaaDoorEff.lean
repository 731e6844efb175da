/- An engine of this work: states of a walk as lists (frame, memory known to stay, memory owned), one lemma an operation. Plain theorems; no condition. -/
import Derived.WalkKit
import Derived.WalkSpells
import Derived.WalkLawsBesides
import Derived.Orders
import Derived.Deep.LoopGhost
import Derived.KernelRfl
set_option linter.unusedVariables false
set_option linter.unusedSimpArgs false
namespace Go.Proofs.YtfookachkcgdpaaDoor
open Go.RowKit

/-! ### 1. Frames as lists -/
abbrev Fr := List (Nat × Value)
def lk : Fr → Nat → Option Value
  | [], _ => none
  | (k, v) :: r, t => cond (Nat.beq k t) (some v) (lk r t)
def lko (l : Fr) : Operand → Option Value
  | .tmp t => lk l t
  | .const v => some v
  | .global g => some (.pointer (some ⟨g, 0, none⟩))
  | .func f => some (.func (.func f) #[] #[])
def lks (l : Fr) : List Operand → Option (List Value)
  | [] => some []
  | x :: r => match lko l x with
    | none => none
    | some v => match lks l r with
      | none => none
      | some vs => some (v :: vs)
def lkps (l : Fr) : List (Nat × Operand) → Option (List (Nat × Value))
  | [] => some []
  | (i, x) :: r => match lko l x with
    | none => none
    | some v => match lkps l r with
      | none => none
      | some vs => some ((i, v) :: vs)

def Ev (a : Act) (l : Fr) : Prop := ∀ t v, lk l t = some v → a.tmps[t]? = some v
structure Has (n : Nat) (a : Act) (l : Fr) : Prop where
  defers : a.defers = []
  size : a.tmps.size = n
  ev : Ev a l

theorem Ev.eval {a : Act} {l : Fr} (h : Ev a l) {x : Operand} {v : Value} (hx : lko l x = some v) : a.eval x = v := by
  cases x with
  | tmp t =>
    have := h t v hx
    simp only [Act.eval, Array.getD_eq_getD_getElem?, this]; rfl
  | const u => simpa [lko, Act.eval] using hx
  | global g => simpa [lko, Act.eval] using hx
  | func f => simpa [lko, Act.eval] using hx
theorem Ev.evals {a : Act} {l : Fr} (h : Ev a l) {xs : List Operand} {vs : List Value} (hx : lks l xs = some vs) : xs.map a.eval = vs := by
  induction xs generalizing vs with
  | nil => simpa [lks] using hx
  | cons x r ih =>
    simp only [lks] at hx
    cases hv : lko l x with
    | none => rw [hv] at hx; cases hx
    | some v =>
      rw [hv] at hx
      simp only [] at hx
      cases hr : lks l r with
      | none => rw [hr] at hx; cases hx
      | some us =>
        rw [hr] at hx
        injection hx with hx
        subst hx
        simp [h.eval hv, ih hr]
theorem Ev.evalps {a : Act} {l : Fr} (h : Ev a l) {xs : List (Nat × Operand)} {vs : List (Nat × Value)} (hx : lkps l xs = some vs) : xs.map (fun p => (p.1, a.eval p.2)) = vs := by
  induction xs generalizing vs with
  | nil => simpa [lkps] using hx
  | cons x r ih =>
    obtain ⟨i, x⟩ := x
    simp only [lkps] at hx
    cases hv : lko l x with
    | none => rw [hv] at hx; cases hx
    | some v =>
      rw [hv] at hx
      simp only [] at hx
      cases hr : lkps l r with
      | none => rw [hr] at hx; cases hx
      | some us =>
        rw [hr] at hx
        injection hx with hx
        subst hx
        simp [h.eval hv, ih hr]
theorem Has.put {n : Nat} {a : Act} {l : Fr} (h : Has n a l) {d : Nat} (hd : Nat.blt d n = true) (v : Value) : Has n (a.put (some d) v) ((d, v) :: l) := by
  have hd' : d < n := by have : d + 1 ≤ n := by simpa [Nat.blt] using hd
                         omega
  refine ⟨h.defers, by simp [Act.put, h.size], fun t u ht => ?_⟩
  simp only [lk] at ht
  simp only [Act.put]
  rw [Array.getElem?_setIfInBounds]
  by_cases e : d = t
  · subst e
    have : Nat.beq d d = true := by simp
    rw [this] at ht
    simp only [cond_true] at ht
    rw [if_pos rfl, if_pos (by rw [h.size]; exact hd'), ht]
  · have : Nat.beq d t = false := by
      cases hb : Nat.beq d t with
      | false => rfl
      | true => exact absurd (Nat.eq_of_beq_eq_true hb) e
    rw [this] at ht
    simp only [cond_false] at ht
    rw [if_neg e]
    exact h.ev t u ht
theorem Has.put0 {n : Nat} {a : Act} {l : Fr} (h : Has n a l) (v : Value) : Has n (a.put none v) l := h
/-- What a frame must still bear. -/
def Sub : Fr → Fr → Prop
  | [], _ => True
  | (k, v) :: r, l => lk l k = some v ∧ Sub r l
theorem Sub.lk {r l : Fr} (h : Sub r l) : ∀ t v, lk r t = some v → lk l t = some v := by
  induction r with
  | nil => intro t v ht; cases ht
  | cons x r ih =>
    intro t v ht
    obtain ⟨k, u⟩ := x
    simp only [Go.Proofs.YtfookachkcgdpaaDoor.lk] at ht
    cases hb : Nat.beq k t with
    | true =>
      rw [hb] at ht
      have := Nat.eq_of_beq_eq_true hb
      subst this
      simp only [cond_true] at ht
      rw [← ht]; exact h.1
    | false => rw [hb] at ht; exact ih h.2 t v ht
theorem Has.sub {n : Nat} {a : Act} {l r : Fr} (h : Has n a l) (hs : Sub r l) : Has n a r := ⟨h.defers, h.size, fun t v ht => h.ev t v (hs.lk t v ht)⟩

theorem Has.sub' {n : Nat} {a : Act} {l r : Fr} (h : Has n a l) (hs : ∀ t v, lk r t = some v → lk l t = some v) : Has n a r := ⟨h.defers, h.size, fun t v ht => h.ev t v (hs t v ht)⟩

/-! ### 2. Memory: what is known to stay (GH), what is owned (Blks) -/
abbrev GH := Nat → Option Obj
abbrev Blks := List (Nat × Obj)
def GH.le (h h' : GH) : Prop := ∀ b o, h b = some o → h' b = some o
theorem GH.le.refl (h : GH) : GH.le h h := fun _ _ x => x
theorem GH.le.trans {a b c : GH} (h : GH.le a b) (k : GH.le b c) : GH.le a c := fun x o hx => k x o (h x o hx)
def GH.ins (h : GH) (b : Nat) (o : Obj) : GH := fun x => if x = b then some o else h x
theorem GH.le_ins {h : GH} {b : Nat} {o : Obj} (hb : h b = none) : GH.le h (h.ins b o) := by
  intro x u hx
  unfold GH.ins
  split
  · rename_i e; subst e; rw [hb] at hx; cases hx
  · exact hx
theorem GH.ins_at (h : GH) (b : Nat) (o : Obj) : h.ins b o b = some o := by simp [GH.ins]

structure Good (w : World) (h : GH) (M : Blks) : Prop where
  sat : ∀ b o, h b = some o → w.heap[b]? = some o
  mem : ∀ p ∈ M, w.heap[p.1]? = some p.2
  sep : ∀ p ∈ M, h p.1 = none
  dis : M.Pairwise (fun p q => p.1 ≠ q.1)
structure Step (w : World) (h : GH) (M : Blks) (w' : World) (h' : GH) (M' : Blks) : Prop where
  os : w'.os = w.os
  tape : w'.tape = w.tape
  output : w'.output = w.output
  size : w.heap.size ≤ w'.heap.size
  le : GH.le h h'
  frame : ∀ b, b < w.heap.size → (∀ p ∈ M, p.1 ≠ b) → w'.heap[b]? = w.heap[b]?
  fresh : ∀ b o, h' b = some o → h b = some o ∨ w.heap.size ≤ b
  own : ∀ p ∈ M', (∃ q ∈ M, q.1 = p.1) ∨ w.heap.size ≤ p.1
theorem lt_of_some {w : World} {b : Nat} {o : Obj} (h : w.heap[b]? = some o) : b < w.heap.size := (Array.getElem?_eq_some_iff.1 h).1
theorem Step.refl (w : World) (h : GH) (M : Blks) : Step w h M w h M := ⟨rfl, rfl, rfl, Nat.le_refl _, GH.le.refl _, fun _ _ _ => rfl, fun _ _ x => .inl x, fun p hp => .inl ⟨p, hp, rfl⟩⟩
theorem Step.trans {w w1 w2 : World} {h h1 h2 : GH} {M M1 M2 : Blks} (s : Step w h M w1 h1 M1) (t : Step w1 h1 M1 w2 h2 M2) : Step w h M w2 h2 M2 where
  os := t.os.trans s.os
  tape := t.tape.trans s.tape
  output := t.output.trans s.output
  size := Nat.le_trans s.size t.size
  le := s.le.trans t.le
  frame := fun b hb hM => by
    rw [t.frame b (Nat.lt_of_lt_of_le hb s.size) (fun p hp e => ?_), s.frame b hb hM]
    rcases s.own p hp with ⟨q, hq, hqe⟩ | hge
    · exact hM q hq (hqe.trans e)
    · omega
  fresh := fun b o hb => by
    rcases t.fresh b o hb with h1 | h1
    · exact s.fresh b o h1
    · exact .inr (Nat.le_trans s.size h1)
  own := fun p hp => by
    rcases t.own p hp with ⟨q, hq, e⟩ | h1
    · rcases s.own q hq with ⟨r, hr, e'⟩ | h2
      · exact .inl ⟨r, hr, e'.trans e⟩
      · exact .inr (e ▸ h2)
    · exact .inr (Nat.le_trans s.size h1)
/-- The frame of a call: what the callee is not given stays. -/
theorem Good.app {w w' : World} {h h' : GH} {M M' R : Blks} (g : Good w h (M ++ R)) (g' : Good w' h' M') (s : Step w h M w' h' M') : Good w' h' (M' ++ R) := by
  have hlt : ∀ p ∈ R, p.1 < w.heap.size := fun p hp => lt_of_some (g.mem p (List.mem_append_right _ hp))
  have hne : ∀ p ∈ R, ∀ q ∈ M, q.1 ≠ p.1 := fun p hp q hq => (List.pairwise_append.1 g.dis).2.2 q hq p hp
  refine ⟨g'.sat, ?_, ?_, ?_⟩
  · intro p hp
    rcases List.mem_append.1 hp with hp | hp
    · exact g'.mem p hp
    · rw [s.frame p.1 (hlt p hp) (fun q hq => hne p hp q hq)]
      exact g.mem p (List.mem_append_right _ hp)
  · intro p hp
    rcases List.mem_append.1 hp with hp | hp
    · exact g'.sep p hp
    · cases hx : h' p.1 with
      | none => rfl
      | some o =>
        rcases s.fresh p.1 o hx with h1 | h1
        · rw [g.sep p (List.mem_append_right _ hp)] at h1; cases h1
        · have := hlt p hp; omega
  · refine List.pairwise_append.2 ⟨g'.dis, (List.pairwise_append.1 g.dis).2.1, fun p hp q hq e => ?_⟩
    rcases s.own p hp with ⟨r, hr, e'⟩ | h1
    · exact hne q hq r hr (e'.trans e)
    · have := hlt q hq; omega
theorem Step.app {w w' : World} {h h' : GH} {M M' : Blks} (R : Blks) (s : Step w h M w' h' M') : Step w h (M ++ R) w' h' (M' ++ R) where
  os := s.os
  tape := s.tape
  output := s.output
  size := s.size
  le := s.le
  frame := fun b hb hM => s.frame b hb fun p hp => hM p (List.mem_append_left _ hp)
  fresh := s.fresh
  own := fun p hp => by
    rcases List.mem_append.1 hp with hp | hp
    · rcases s.own p hp with ⟨q, hq, e⟩ | h1
      · exact .inl ⟨q, List.mem_append_left _ hq, e⟩
      · exact .inr h1
    · exact .inl ⟨p, List.mem_append_right _ hp, rfl⟩
theorem Good.left {w : World} {h : GH} {M R : Blks} (g : Good w h (M ++ R)) : Good w h M :=
  ⟨g.sat, fun p hp => g.mem p (List.mem_append_left _ hp), fun p hp => g.sep p (List.mem_append_left _ hp), (List.pairwise_append.1 g.dis).1⟩
theorem Good.sublist {w : World} {h : GH} {M R : Blks} (g : Good w h M) (s : R.Sublist M) : Good w h R :=
  ⟨g.sat, fun p hp => g.mem p (s.subset hp), fun p hp => g.sep p (s.subset hp), g.dis.sublist s⟩
theorem Step.sublist {w w' : World} {h h' : GH} {M M' R : Blks} (g : Step w h M w' h' M') (s : R.Sublist M') : Step w h M w' h' R :=
  { g with own := fun p hp => g.own p (s.subset hp) }
theorem Good.perm {w : World} {h : GH} {M R : Blks} (g : Good w h M) (s : M.Perm R) : Good w h R :=
  ⟨g.sat, fun p hp => g.mem p (s.symm.subset hp), fun p hp => g.sep p (s.symm.subset hp), s.pairwise g.dis (fun hab e => hab e.symm)⟩
theorem Step.perm {w w' : World} {h h' : GH} {M M' R : Blks} (g : Step w h M w' h' M') (s : M'.Perm R) : Step w h M w' h' R :=
  { g with own := fun p hp => g.own p (s.symm.subset hp) }

structure Env where
  w0 : World
  h0 : GH
  M0 : Blks
structure Inv (E : Env) (w : World) (h : GH) (M : Blks) : Prop where
  good : Good w h M
  step : Step E.w0 E.h0 E.M0 w h M
theorem Inv.next {E : Env} {w w' : World} {h h' : GH} {M M' : Blks} (i : Inv E w h M) (g : Good w' h' M') (s : Step w h M w' h' M') : Inv E w' h' M' := ⟨g, i.step.trans s⟩
theorem Inv.sublist {E : Env} {w : World} {h : GH} {M R : Blks} (i : Inv E w h M) (s : R.Sublist M) : Inv E w h R := ⟨i.good.sublist s, i.step.sublist s⟩
theorem Inv.perm {E : Env} {w : World} {h : GH} {M R : Blks} (i : Inv E w h M) (s : M.Perm R) : Inv E w h R := ⟨i.good.perm s, i.step.perm s⟩

/-! ### 3. What a call says -/
def Post (E : Env) (post : Value → GH → Blks → Prop) (e : Ending) (w : World) : Prop := ∃ v h M, e = .returned v ∧ Inv E w h M ∧ post v h M
def Fn (P : Program) (h : GH) (M : Blks) (f : Nat) (args : Array Value) (post : Value → GH → Blks → Prop) : Prop :=
  ∀ w, Good w h M → Calls P f args w (Post ⟨w, h, M⟩ post)
theorem Fn.mono {P : Program} {h : GH} {M : Blks} {f : Nat} {args : Array Value} {post post' : Value → GH → Blks → Prop} (c : Fn P h M f args post)
    (k : ∀ v h' M', GH.le h h' → post v h' M' → post' v h' M') : Fn P h M f args post' :=
  fun w g => (c w g).mono fun e w' ⟨v, h', M', he, hi, hp⟩ => ⟨v, h', M', he, hi, k v h' M' hi.step.le hp⟩

/-! ### 4. Code and lists of operations -/
def St (P : Program) (n : Nat) (E : Env) (c : Code) (Q : Exit → Act → World → Prop) (l : Fr) (h : GH) (M : Blks) : Prop :=
  ∀ a w, Has n a l → Inv E w h M → c.wp P Q a w
def SL (P : Program) (n : Nat) (E : Env) (ops : Array Oper) (Q : Exit → Act → World → Prop) (rest : List Oper) (l : Fr) (h : GH) (M : Blks) : Prop :=
  ∀ a w, Has n a l → Inv E w h M → wpList P ops Q rest a w
def Qs (n : Nat) (E : Env) (Q : Exit → Act → World → Prop) (e : Exit) (l : Fr) (h : GH) (M : Blks) : Prop :=
  ∀ a w, Has n a l → Inv E w h M → Q e a w

section
variable {P : Program} {n : Nat} {E : Env} {Q : Exit → Act → World → Prop} {l : Fr} {h : GH} {M : Blks} {ops : Array Oper} {rest : List Oper}

theorem St.seq {x y : Code} (k : St P n E x (Exit.then (y.wp P Q) Q) l h M) : St P n E (.seq x y) Q l h M := fun a w ha hi => wp_seq (k a w ha hi)
theorem St.skip (k : Qs n E Q .normal l h M) : St P n E .skip Q l h M := fun a w ha hi => wp_skip (k a w ha hi)
theorem St.ret (k : Qs n E Q .ret l h M) : St P n E .ret Q l h M := fun a w ha hi => wp_ret (k a w ha hi)
theorem St.exit {id : Nat} (k : Qs n E Q (.exit id) l h M) : St P n E (.exit id) Q l h M := fun a w ha hi => wp_exit (k a w ha hi)
theorem St.block {id : Nat} {c : Code} (k : St P n E c (Exit.inBlock id Q) l h M) : St P n E (.block id c) Q l h M := fun a w ha hi => wp_block (k a w ha hi)
theorem St.region {id : Nat} {os : List Oper} (k : SL P n E os.toArray Q os l h M) : St P n E (.region id os.toArray false) Q l h M := fun a w ha hi => wp_region_lit (k a w ha hi)
theorem St.condT {c : Operand} {x y : Code} (hc : lko l c = some (.bool true)) (k : St P n E x Q l h M) : St P n E (.cond c x y) Q l h M := fun a w ha hi => wp_cond_true (ha.ev.eval hc) (k a w ha hi)
theorem St.condF {c : Operand} {x y : Code} (hc : lko l c = some (.bool false)) (k : St P n E y Q l h M) : St P n E (.cond c x y) Q l h M := fun a w ha hi => wp_cond_false (ha.ev.eval hc) (k a w ha hi)
theorem St.condB {c : Operand} {x y : Code} {t : Bool} (hc : lko l c = some (.bool t)) (k1 : t = true → St P n E x Q l h M) (k2 : t = false → St P n E y Q l h M) : St P n E (.cond c x y) Q l h M :=
  fun a w ha hi => wp_cond_split (ha.ev.eval hc) (fun e => k1 e a w ha hi) (fun e => k2 e a w ha hi)
theorem St.sub {c : Code} (r : Fr) (k : St P n E c Q r h M) (hs : Sub r l) : St P n E c Q l h M := fun a w ha hi => k a w (ha.sub hs) hi
theorem SL.sub (r : Fr) (k : SL P n E ops Q rest r h M) (hs : Sub r l) : SL P n E ops Q rest l h M := fun a w ha hi => k a w (ha.sub hs) hi
theorem Qs.sub {e : Exit} (r : Fr) (k : Qs n E Q e r h M) (hs : Sub r l) : Qs n E Q e l h M := fun a w ha hi => k a w (ha.sub hs) hi
theorem St.keep {c : Code} (R : Blks) (s : R.Sublist M) (k : St P n E c Q l h R) : St P n E c Q l h M := fun a w ha hi => k a w ha (hi.sublist s)
theorem SL.keep (R : Blks) (s : R.Sublist M) (k : SL P n E ops Q rest l h R) : SL P n E ops Q rest l h M := fun a w ha hi => k a w ha (hi.sublist s)
theorem Qs.keep {e : Exit} (R : Blks) (s : R.Sublist M) (k : Qs n E Q e l h R) : Qs n E Q e l h M := fun a w ha hi => k a w ha (hi.sublist s)
theorem St.perm {c : Code} (R : Blks) (s : M.Perm R) (k : St P n E c Q l h R) : St P n E c Q l h M := fun a w ha hi => k a w ha (hi.perm s)
theorem SL.perm (R : Blks) (s : M.Perm R) (k : SL P n E ops Q rest l h R) : SL P n E ops Q rest l h M := fun a w ha hi => k a w ha (hi.perm s)
theorem Qs.perm {e : Exit} (R : Blks) (s : M.Perm R) (k : Qs n E Q e l h R) : Qs n E Q e l h M := fun a w ha hi => k a w ha (hi.perm s)
theorem SL.nil (k : Qs n E Q .normal l h M) : SL P n E ops Q [] l h M := fun a w ha hi => wpList_nil (k a w ha hi)
theorem Qs.then_normal {y : Code} {Q' : Exit → Act → World → Prop} (k : St P n E y Q l h M) : Qs n E (Exit.then (y.wp P Q) Q') .normal l h M := fun a w ha hi => k a w ha hi
theorem Qs.then_ret {K : Act → World → Prop} (k : Qs n E Q .ret l h M) : Qs n E (Exit.then K Q) .ret l h M := fun a w ha hi => k a w ha hi
theorem Qs.then_exit {K : Act → World → Prop} {id : Nat} (k : Qs n E Q (.exit id) l h M) : Qs n E (Exit.then K Q) (.exit id) l h M := fun a w ha hi => k a w ha hi
theorem Qs.block_normal {id : Nat} (k : Qs n E Q .normal l h M) : Qs n E (Exit.inBlock id Q) .normal l h M := fun a w ha hi => k a w ha hi
theorem Qs.block_ret {id : Nat} (k : Qs n E Q .ret l h M) : Qs n E (Exit.inBlock id Q) .ret l h M := fun a w ha hi => k a w ha hi
theorem Qs.block_here {id : Nat} (k : Qs n E Q .normal l h M) : Qs n E (Exit.inBlock id Q) (.exit id) l h M := fun a w ha hi => by simpa [Exit.inBlock] using k a w ha hi
theorem Qs.block_other {id j : Nat} (hne : Nat.beq j id = false) (k : Qs n E Q (.exit j) l h M) : Qs n E (Exit.inBlock id Q) (.exit j) l h M := fun a w ha hi => by
  have : j ≠ id := by rintro rfl; simp at hne
  simpa [Exit.inBlock, this] using k a w ha hi
/-- Some state of a family. -/
def Some_ (n : Nat) (E : Env) {α : Type} (L : α → Fr) (H : α → GH) (B : α → Blks) (φ : α → Prop) (a : Act) (w : World) : Prop := ∃ x, φ x ∧ Has n a (L x) ∧ Inv E w (H x) (B x)
theorem Some_.intro {α : Type} {L : α → Fr} {H : α → GH} {B : α → Blks} {φ : α → Prop} {K : Act → World → Prop} (x : α) (hx : φ x) (hK : ∀ a w, Some_ n E L H B φ a w → K a w) (hh : H x = h) (hB : B x = M) (hs : Sub (L x) l)
    {Q' : Exit → Act → World → Prop} : Qs n E (Exit.then K Q') .normal l h M := fun a w ha hi => hK a w ⟨x, hx, ha.sub hs, by rw [hh, hB]; exact hi⟩
/-- Where ways meet again. -/
theorem St.cut {x y : Code} {α : Type} (L : α → Fr) (H : α → GH) (B : α → Blks) (φ : α → Prop)
    (k1 : St P n E x (Exit.then (Some_ n E L H B φ) Q) l h M) (k2 : ∀ x, φ x → St P n E y Q (L x) (H x) (B x)) : St P n E (.seq x y) Q l h M :=
  St.seq fun a w ha hi => wp_mono (k1 a w ha hi) fun e a' w' hq => by
    cases e with
    | normal =>
      obtain ⟨x, hx, ha', hi'⟩ := hq
      exact k2 x hx a' w' ha' hi'
    | _ => exact hq
theorem St.loop {c : Code} {α : Type} (L : α → Fr) (H : α → GH) (B : α → Blks) (φ : α → Prop) (m : α → Nat) (x0 : α) (h0 : φ x0) (hh : H x0 = h) (hB : B x0 = M) (hs : Sub (L x0) l)
    (round : ∀ x, φ x → St P n E c (Exit.then (Some_ n E L H B (fun y => φ y ∧ m y < m x)) Q) (L x) (H x) (B x)) : St P n E (.loop c) Q l h M := fun a w ha hi => by
  refine wp_loop_ghost (fun k a w => ∃ x, φ x ∧ m x = k ∧ Has n a (L x) ∧ Inv E w (H x) (B x)) (m x0) ⟨x0, h0, rfl, ha.sub hs, by rw [hh, hB]; exact hi⟩ ?_
  rintro k a w ⟨x, hx, rfl, ha, hi⟩
  refine wp_mono (round x hx a w ha hi) fun e a' w' hq => ?_
  cases e with
  | normal =>
    obtain ⟨y, ⟨hy, hlt⟩, ha', hi'⟩ := hq
    exact ⟨m y, hlt, y, hy, rfl, ha', hi'⟩
  | _ => exact hq
end
end Go.Proofs.YtfookachkcgdpaaDoor
/- The engine's lemmas for operations that only compute or read. Plain theorems; no condition. -/
set_option linter.unusedVariables false
set_option linter.unusedSimpArgs false
namespace Go.Proofs.YtfookachkcgdpaaDoor
open Go.RowKit

/-- What is known of a type. -/
class TI (P : Program) (t : TypeId) (d : outParam TypeDesc) (sz : outParam Nat) (z : outParam Value) (ag : outParam Bool) : Prop where
  und : P.underlying t = some d
  size : ∀ w, (sizeOf t).run P w = .ok sz w
  zero : ∀ w, (zeroValue t).run P w = .ok z w
  agg : ∀ w, (isAgg t).run P w = .ok ag w
/-- A function that is entered. -/
class CF (P : Program) (f : Nat) : Prop where
  run : ∀ args w, (callFunc f args).run P w = .ok (.enter f args) w
/-- Places of a struct's fields. -/
class SP (P : Program) (t : TypeId) (fs : outParam (Array Field)) (pl : outParam (Array (Nat × Nat))) : Prop where
  und : P.underlying t = some (.struct fs)
  places : ∀ w, ((fs.mapM fun f => do pure (f.offset, ← sizeOf f.type) : Sem (Array (Nat × Nat)))).run P w = .ok pl w

/-- A field's place. -/
class FA (P : Program) (s : TypeId) (i : Nat) (o : outParam Nat) : Prop where
  run : ∀ b off w, (Instr.fieldAt s (.pointer (some ⟨b, off, none⟩)) i).run P w = .ok (.pointer (some ⟨b, off + o, none⟩)) w

def NOp (P : Program) (h : GH) (M : Blks) (l : Fr) (o : Oper) (v : Value) : Prop :=
  ∀ a w h', GH.le h h' → Good w h' M → Ev a l → (execOp a.eval o).run P w = .ok (.value v) w

section
variable {P : Program} {nn : Nat} {E : Env} {Q : Exit → Act → World → Prop} {l : Fr} {h : GH} {M : Blks} {ops : Array Oper} {rest : List Oper}
variable {d : Option Tmp} {ty : TypeId} {pos : String} {aft : Array Edge} {g : Option (Nat × Bool)}

/-! ### the step -/
theorem SL.n {d : Nat} {op : Op} {v : Value} (hv : NOp P h M l ⟨some d, op, ty, pos, aft, none⟩ v) (hd : Nat.blt d nn = true) (k : SL P nn E ops Q rest ((d, v) :: l) h M) :
    SL P nn E ops Q (⟨some d, op, ty, pos, aft, none⟩ :: rest) l h M := fun a w ha hi => by
  refine wpList_plain rfl fun K hK => ?_
  unfold Oper.wp
  rw [hv a w h (GH.le.refl _) hi.good ha.ev]
  exact hK _ _ (k _ w (ha.put hd v) hi)
theorem wanted_of {d j dj : Nat} {op : Op} {b want : Bool} {a : Act} (ha : Ev a l) (hj : (ops[j]?).bind (·.dst) = some dj) (hb : lk l dj = some (.bool b)) :
    Region.wanted ⟨some d, op, ty, pos, aft, some (j, want)⟩ (yielded ops a.tmps) = (b == want) := by
  simp only [Region.wanted, yielded, hj, Option.bind_some, ha dj _ hb]
  cases b <;> cases want <;> rfl
theorem SL.gT {d j dj : Nat} {op : Op} {want : Bool} {v : Value} (hj : (ops[j]?).bind (·.dst) = some dj) (hb : lk l dj = some (.bool want)) (hv : NOp P h M l ⟨some d, op, ty, pos, aft, some (j, want)⟩ v)
    (hd : Nat.blt d nn = true) (k : SL P nn E ops Q rest ((d, v) :: l) h M) : SL P nn E ops Q (⟨some d, op, ty, pos, aft, some (j, want)⟩ :: rest) l h M := fun a w ha hi => by
  refine wpList_step fun K hK => ?_
  rw [wanted_of ha.ev hj hb, beq_self_eq_true, if_pos rfl]
  unfold Oper.wp
  rw [hv a w h (GH.le.refl _) hi.good ha.ev]
  exact hK _ _ (k _ w (ha.put hd v) hi)
theorem SL.gF {d j dj : Nat} {op : Op} {want : Bool} (hj : (ops[j]?).bind (·.dst) = some dj) (hb : lk l dj = some (.bool (!want)))
    (hd : Nat.blt d nn = true) (k : SL P nn E ops Q rest ((d, undef) :: l) h M) : SL P nn E ops Q (⟨some d, op, ty, pos, aft, some (j, want)⟩ :: rest) l h M := fun a w ha hi => by
  refine wpList_step fun K hK => ?_
  rw [wanted_of ha.ev hj hb, if_neg (by cases want <;> simp)]
  exact hK _ _ (k _ w (ha.put hd undef) hi)

/-! ### moves -/
theorem NOp.move {x : Operand} {v : Value} (hx : lko l x = some v) : NOp P h M l ⟨d, .move x, ty, pos, aft, g⟩ v := fun a w h' _ _ ha => by simp [execOp, ha.eval hx]
theorem NOp.assign {x : Operand} {v : Value} (hx : lko l x = some v) : NOp P h M l ⟨d, .assign x, ty, pos, aft, g⟩ v := fun a w h' _ _ ha => by simp [execOp, ha.eval hx]
theorem NOp.pickT {c x y : Operand} {v : Value} (hc : lko l c = some (.bool true)) (hx : lko l x = some v) : NOp P h M l ⟨d, .pick c x y, ty, pos, aft, g⟩ v :=
  fun a w h' _ _ ha => by simp [execOp, ha.eval hc, ha.eval hx, asBool]
theorem NOp.pickF {c x y : Operand} {v : Value} (hc : lko l c = some (.bool false)) (hx : lko l y = some v) : NOp P h M l ⟨d, .pick c x y, ty, pos, aft, g⟩ v :=
  fun a w h' _ _ ha => by simp [execOp, ha.eval hc, ha.eval hx, asBool]
def nth? {α : Type} : List α → Nat → Option α
  | [], _ => none
  | x :: _, 0 => some x
  | _ :: r, k + 1 => nth? r k
theorem nth?_eq {α : Type} (xs : List α) (i : Nat) : nth? xs i = xs[i]? := by
  induction xs generalizing i with
  | nil => rfl
  | cons x r ih => cases i with | zero => rfl | succ i => simpa [nth?] using ih i
theorem NOp.extract {x : Operand} {vs : List Value} {i : Nat} {v : Value} (hx : lko l x = some (.tuple vs.toArray)) (hi : nth? vs i = some v) : NOp P h M l ⟨d, .extract x i, ty, pos, aft, g⟩ v :=
  fun a w h' _ _ ha => by rw [nth?_eq] at hi; simp [execOp, ha.eval hx, Instr.extract, hi]
theorem NOp.nilCheck {x : Operand} {ad : Addr} (hx : lko l x = some (.pointer (some ad))) : NOp P h M l ⟨d, .nilCheck x, ty, pos, aft, g⟩ (.pointer (some ad)) :=
  fun a w h' _ _ ha => by simp [execOp, ha.eval hx]

/-! ### numbers, bools, strings -/
theorem NOp.bin {op : BinOp} {x y : Operand} {xt yt : TypeId} {u v r : Value} (hx : lko l x = some u) (hy : lko l y = some v)
    (hr : ∀ w, (do eqGuard op xt x y u v; binOp op xt u v : Sem Value).run P w = .ok r w) : NOp P h M l ⟨d, .binOp op xt x y yt, ty, pos, aft, g⟩ r := fun a w h' _ _ ha => by
  have := hr w
  simp only [Sem.run_bind] at this
  simp only [execOp, ha.eval hx, ha.eval hy, Sem.run_bind, this, Result.andThen_ok, Sem.run_pure]
theorem NOp.un {op : UnOp} {x : Operand} {xt : TypeId} {u r : Value} (hx : lko l x = some u) (hr : ∀ w, (Op.unary op u).run P w = .ok r w) : NOp P h M l ⟨d, .unOp op xt x, ty, pos, aft, g⟩ r := fun a w h' _ _ ha => by
  simp only [execOp, ha.eval hx, Sem.run_bind, hr w, Result.andThen_ok, Sem.run_pure]
theorem NOp.bi {b : Builtin} {xs : List Operand} {ats : Array TypeId} {vs : List Value} {r : Value} (hx : lks l xs = some vs)
    (hr : ∀ w (cs : Array Bool), (builtin b ats ty cs vs.toArray).run P w = .ok (.value r) w) : NOp P h M l ⟨d, .call { callee := .builtin b, args := xs.toArray, argTypes := ats }, ty, pos, aft, g⟩ r := fun a w h' _ _ ha => by
  have he := ha.evals hx
  simp only [execOp, resolve, invoke, Sem.run_bind, Sem.run_pure, Result.andThen_ok, List.map_toArray, he, hr w _]
section
variable {k : IntKind} {x y : Operand} {xt yt : TypeId} {m q : Int}
theorem NOp.add (hx : lko l x = some (.int k m)) (hy : lko l y = some (.int k q)) : NOp P h M l ⟨d, .binOp .add xt x y yt, ty, pos, aft, g⟩ (.int k (k.wrap (m + q))) :=
  NOp.bin hx hy fun w => by simp [go_sem, Op.intArith]
theorem NOp.sub (hx : lko l x = some (.int k m)) (hy : lko l y = some (.int k q)) : NOp P h M l ⟨d, .binOp .sub xt x y yt, ty, pos, aft, g⟩ (.int k (k.wrap (m - q))) :=
  NOp.bin hx hy fun w => by simp [go_sem, Op.intArith]
theorem NOp.mul (hx : lko l x = some (.int k m)) (hy : lko l y = some (.int k q)) : NOp P h M l ⟨d, .binOp .mul xt x y yt, ty, pos, aft, g⟩ (.int k (k.wrap (m * q))) :=
  NOp.bin hx hy fun w => by simp [go_sem, Op.intArith]
theorem wrap_in {m : Int} (h1 : -9223372036854775808 ≤ m) (h2 : m ≤ 9223372036854775807) : IntKind.i64.wrap m = m := by simp [IntKind.wrap, IntKind.bits, IntKind.signed]; omega
theorem NOp.addI (hx : lko l x = some (.int .i64 m)) (hy : lko l y = some (.int .i64 q)) (hr : -9223372036854775808 ≤ m + q ∧ m + q ≤ 9223372036854775807) : NOp P h M l ⟨d, .binOp .add xt x y yt, ty, pos, aft, g⟩ (.int .i64 (m + q)) := by
  have := NOp.add (P := P) (h := h) (M := M) (d := d) (ty := ty) (pos := pos) (aft := aft) (g := g) (xt := xt) (yt := yt) hx hy
  rwa [wrap_in hr.1 hr.2] at this
theorem NOp.subI (hx : lko l x = some (.int .i64 m)) (hy : lko l y = some (.int .i64 q)) (hr : -9223372036854775808 ≤ m - q ∧ m - q ≤ 9223372036854775807) : NOp P h M l ⟨d, .binOp .sub xt x y yt, ty, pos, aft, g⟩ (.int .i64 (m - q)) := by
  have := NOp.sub (P := P) (h := h) (M := M) (d := d) (ty := ty) (pos := pos) (aft := aft) (g := g) (xt := xt) (yt := yt) hx hy
  rwa [wrap_in hr.1 hr.2] at this
theorem NOp.mulI (hx : lko l x = some (.int .i64 m)) (hy : lko l y = some (.int .i64 q)) (hr : -9223372036854775808 ≤ m * q ∧ m * q ≤ 9223372036854775807) : NOp P h M l ⟨d, .binOp .mul xt x y yt, ty, pos, aft, g⟩ (.int .i64 (m * q)) := by
  have := NOp.mul (P := P) (h := h) (M := M) (d := d) (ty := ty) (pos := pos) (aft := aft) (g := g) (xt := xt) (yt := yt) hx hy
  rwa [wrap_in hr.1 hr.2] at this
theorem NOp.eql (hx : lko l x = some (.int k m)) (hy : lko l y = some (.int k q)) : NOp P h M l ⟨d, .binOp .eql xt x y yt, ty, pos, aft, g⟩ (.bool (decide (m = q))) :=
  NOp.bin hx hy fun w => by
    simp [go_sem]
    by_cases e : m = q <;> simp [e]
theorem NOp.neq (hx : lko l x = some (.int k m)) (hy : lko l y = some (.int k q)) : NOp P h M l ⟨d, .binOp .neq xt x y yt, ty, pos, aft, g⟩ (.bool (!decide (m = q))) :=
  NOp.bin hx hy fun w => by
    simp [go_sem]
    by_cases e : m = q <;> simp [e]
theorem NOp.lss (hx : lko l x = some (.int k m)) (hy : lko l y = some (.int k q)) : NOp P h M l ⟨d, .binOp .lss xt x y yt, ty, pos, aft, g⟩ (.bool (decide (m < q))) :=
  NOp.bin hx hy fun w => by simp [go_sem]
theorem NOp.leq (hx : lko l x = some (.int k m)) (hy : lko l y = some (.int k q)) : NOp P h M l ⟨d, .binOp .leq xt x y yt, ty, pos, aft, g⟩ (.bool (decide (m ≤ q))) :=
  NOp.bin hx hy fun w => by simp [go_sem]
theorem NOp.gtr (hx : lko l x = some (.int k m)) (hy : lko l y = some (.int k q)) : NOp P h M l ⟨d, .binOp .gtr xt x y yt, ty, pos, aft, g⟩ (.bool (decide (q < m))) :=
  NOp.bin hx hy fun w => by simp [go_sem]
theorem NOp.geq (hx : lko l x = some (.int k m)) (hy : lko l y = some (.int k q)) : NOp P h M l ⟨d, .binOp .geq xt x y yt, ty, pos, aft, g⟩ (.bool (decide (q ≤ m))) :=
  NOp.bin hx hy fun w => by simp [go_sem]
theorem NOp.rem (hx : lko l x = some (.int k m)) (hy : lko l y = some (.int k q)) (hq : q ≠ 0) : NOp P h M l ⟨d, .binOp .rem xt x y yt, ty, pos, aft, g⟩ (.int k (m.tmod q)) :=
  NOp.bin hx hy fun w => by simp [go_sem, Op.intDiv, hq]
theorem NOp.quo (hx : lko l x = some (.int k m)) (hy : lko l y = some (.int k q)) (hq : q ≠ 0) : NOp P h M l ⟨d, .binOp .quo xt x y yt, ty, pos, aft, g⟩ (.int k (k.wrap (m.tdiv q))) :=
  NOp.bin hx hy fun w => by simp [go_sem, Op.intDiv, hq]
theorem NOp.neg (hx : lko l x = some (.int k m)) : NOp P h M l ⟨d, .unOp .neg xt x, ty, pos, aft, g⟩ (.int k (k.wrap (-m))) :=
  NOp.un hx fun w => by simp [go_sem, Op.unary]
theorem NOp.not {b : Bool} (hx : lko l x = some (.bool b)) : NOp P h M l ⟨d, .unOp .not xt x, ty, pos, aft, g⟩ (.bool (!b)) :=
  NOp.un hx fun w => by simp [go_sem, Op.unary]
theorem beq_toList (s t : ByteArray) : (s.toList == t.toList) = decide (s = t) := by
  by_cases e : s = t
  · subst e; simp
  · simp only [e, decide_false]
    refine Bool.eq_false_iff.2 fun h => e ?_
    have h' := eq_of_beq h
    rw [ByteArray.toList_eq, ByteArray.toList_eq] at h'
    cases s; cases t; simp only [Array.toList_inj] at h'; simpa using h'
theorem NOp.addS {s t : ByteArray} (hx : lko l x = some (.string s)) (hy : lko l y = some (.string t)) (hl : s.size + t.size ≤ 9223372036854775807) : NOp P h M l ⟨d, .binOp .add xt x y yt, ty, pos, aft, g⟩ (.string (s ++ t)) :=
  NOp.bin hx hy fun w => by simp [go_sem, Op.stringOp]; omega
theorem NOp.eqlS {s t : ByteArray} (hx : lko l x = some (.string s)) (hy : lko l y = some (.string t)) : NOp P h M l ⟨d, .binOp .eql xt x y yt, ty, pos, aft, g⟩ (.bool (decide (s = t))) :=
  NOp.bin hx hy fun w => by simp [go_sem, Op.stringOp, beq_toList]
theorem NOp.neqS {s t : ByteArray} (hx : lko l x = some (.string s)) (hy : lko l y = some (.string t)) : NOp P h M l ⟨d, .binOp .neq xt x y yt, ty, pos, aft, g⟩ (.bool (!decide (s = t))) :=
  NOp.bin hx hy fun w => by simp [go_sem, Op.stringOp, beq_toList]
theorem lks_one {x : Operand} {v : Value} (hx : lko l x = some v) : lks l [x] = some [v] := by simp [lks, hx]
theorem lks_two {x y : Operand} {v u : Value} (hx : lko l x = some v) (hy : lko l y = some u) : lks l [x, y] = some [v, u] := by simp [lks, hx, hy]
theorem NOp.lenS {s : ByteArray} {z ag sz} [TI P xt .string sz z ag] (hx : lko l x = some (.string s)):
    NOp P h M l ⟨d, .call { callee := .builtin .len, args := #[x], argTypes := #[xt] }, ty, pos, aft, g⟩ (.int .i64 s.size) :=
  NOp.bi (lks_one hx) fun w cs => by simp [builtin, Builtin.len_, run_underlying (TI.und (P := P) (t := xt)), goInt]
theorem NOp.lenL {A : Option Addr} {m c : Nat} {e : TypeId} {z ag sz} [TI P xt (.slice e) sz z ag] (hx : lko l x = some (.slice A m c)) :
    NOp P h M l ⟨d, .call { callee := .builtin .len, args := #[x], argTypes := #[xt] }, ty, pos, aft, g⟩ (.int .i64 m) :=
  NOp.bi (lks_one hx) fun w cs => by simp [builtin, Builtin.len_, run_underlying (TI.und (P := P) (t := xt)), goInt]
end

/-! ### values of structs and interfaces -/
def notIface : TypeDesc → Bool
  | .interface _ => false
  | _ => true
theorem NOp.mkI {t : TypeId} {x : Operand} {v : Value} {dsc sz z ag} [TI P t dsc sz z ag] (hx : lko l x = some v) (hd : notIface dsc = true) : NOp P h M l ⟨d, .makeInterface t x, ty, pos, aft, g⟩ (.iface t v) := fun a w h' _ _ ha => by
  simp only [execOp, ha.eval hx, Instr.makeInterface, Sem.run_bind, run_underlying (TI.und (P := P) (t := t)), Result.andThen_ok]
  cases dsc <;> simp_all [notIface]
theorem NOp.taT {t A : TypeId} {x : Operand} {v : Value} {dsc sz z ag} [TI P A dsc sz z ag] (hx : lko l x = some (.iface A v)) (hd : notIface dsc = true) : NOp P h M l ⟨d, .typeAssert x t A true, ty, pos, aft, g⟩ (.tuple #[v, .bool true]) := fun a w h' _ _ ha => by
  simp only [execOp, ha.eval hx, Instr.typeAssert, Sem.run_bind, run_underlying (TI.und (P := P) (t := A)), Result.andThen_ok]
  cases dsc <;> simp_all [notIface]
theorem NOp.taF {t u A : TypeId} {x : Operand} {v : Value} {dsc sz z ag} [TI P A dsc sz z ag] (hx : lko l x = some (.iface u v)) (hne : Nat.beq u A = false) (hd : notIface dsc = true) : NOp P h M l ⟨d, .typeAssert x t A true, ty, pos, aft, g⟩ (.tuple #[z, .bool false]) := fun a w h' _ _ ha => by
  have hne' : u ≠ A := by rintro rfl; simp at hne
  simp only [execOp, ha.eval hx, Instr.typeAssert, Sem.run_bind, run_underlying (TI.und (P := P) (t := A)), Result.andThen_ok]
  cases dsc <;> simp_all [notIface, TI.zero (P := P) (t := A)]
theorem NOp.taN {t A : TypeId} {x : Operand} {dsc sz z ag} [TI P A dsc sz z ag] (hx : lko l x = some .nilIface) (hd : notIface dsc = true) : NOp P h M l ⟨d, .typeAssert x t A true, ty, pos, aft, g⟩ (.tuple #[z, .bool false]) := fun a w h' _ _ ha => by
  simp only [execOp, ha.eval hx, Instr.typeAssert, Sem.run_bind, run_underlying (TI.und (P := P) (t := A)), Result.andThen_ok]
  cases dsc <;> simp_all [notIface, TI.zero (P := P) (t := A)]
theorem NOp.taX {t A : TypeId} {x : Operand} {v : Value} {dsc sz z ag} [TI P A dsc sz z ag] (hx : lko l x = some (.iface A v)) (hd : notIface dsc = true) : NOp P h M l ⟨d, .typeAssert x t A false, ty, pos, aft, g⟩ v := fun a w h' _ _ ha => by
  simp only [execOp, ha.eval hx, Instr.typeAssert, Sem.run_bind, run_underlying (TI.und (P := P) (t := A)), Result.andThen_ok]
  cases dsc <;> simp_all [notIface]

/-- A value's cells, if its form is seen. -/
def cellsL : Value → Option (List Value)
  | .agg ⟨cs⟩ => some cs
  | v => some [v]
theorem cellsL_eq {v : Value} {c : List Value} (h : cellsL v = some c) : v.cells = c.toArray := by
  unfold cellsL at h
  split at h
  · injection h with h; subst h; rfl
  · rename_i hne
    injection h with h; subst h
    cases v <;> first | rfl | exact (hne _ rfl).elim
inductive CellsL : List (Nat × Value) → List (Nat × List Value) → Prop
  | nil : CellsL [] []
  | cons {i : Nat} {v : Value} {c : List Value} {vs : List (Nat × Value)} {cs : List (Nat × List Value)} (hv : cellsL v = some c) (r : CellsL vs cs) : CellsL ((i, v) :: vs) ((i, c) :: cs)
def putL : List Value → Nat → List Value → List Value
  | zs, _, [] => zs
  | [], _, _ => []
  | _ :: zs, 0, c :: cs => c :: putL zs 0 cs
  | z :: zs, k + 1, c :: cs => z :: putL zs k (c :: cs)
def lenIs : List Value → Nat → Bool
  | [], 0 => true
  | _ :: r, k + 1 => lenIs r k
  | _, _ => false
def force : List Value → Option (List Value)
  | [] => some []
  | x :: r => match force r with
    | none => none
    | some r' => some (x :: r')
def fillL (pl : List (Nat × Nat)) : List Value → List (Nat × List Value) → Option (List Value)
  | zs, [] => force zs
  | zs, (i, c) :: r => match nth? pl i with
    | none => none
    | some (o, z) => match lenIs c z with
      | true => match Nat.ble (o + z) zs.length with
        | true => fillL pl (putL zs o c) r
        | false => none
      | false => none
theorem force_eq (xs : List Value) : force xs = some xs := by induction xs with | nil => rfl | cons x r ih => simp [force, ih]
theorem lenIs_eq {xs : List Value} {k : Nat} (h : lenIs xs k = true) : xs.length = k := by
  induction xs generalizing k with
  | nil => cases k with | zero => rfl | succ k => simp [lenIs] at h
  | cons x r ih => cases k with | zero => simp [lenIs] at h | succ k => simp [ih (k := k) (by simpa [lenIs] using h)]
theorem putL_length (zs : List Value) (k : Nat) (cs : List Value) : (putL zs k cs).length = zs.length := by
  induction zs generalizing k cs with
  | nil => cases cs <;> rfl
  | cons z zs ih => cases cs with
    | nil => rfl
    | cons c cs => cases k with | zero => simp [putL, ih] | succ k => simp [putL, ih]
theorem putL_get (zs : List Value) (k : Nat) (cs : List Value) (hk : k + cs.length ≤ zs.length) (i : Nat) : (putL zs k cs)[i]? = if k ≤ i ∧ i < k + cs.length then cs[i - k]? else zs[i]? := by
  induction zs generalizing k cs i with
  | nil => cases cs with
    | nil => simp [putL]
    | cons c cs => simp at hk
  | cons z zs ih => cases cs with
    | nil => simp [putL]; intro h1 h2; omega
    | cons c cs =>
      cases k with
      | zero =>
        simp only [putL]
        cases i with
        | zero => simp
        | succ i =>
          have := ih 0 cs (by simp at hk; omega) i
          simp only [List.getElem?_cons_succ, this]
          simp
      | succ k =>
        simp only [putL]
        cases i with
        | zero => simp
        | succ i =>
          have := ih k (c :: cs) (by simp at hk ⊢; omega) i
          simp only [List.getElem?_cons_succ, this]
          simp [Nat.succ_sub_succ]
          by_cases e : k ≤ i ∧ i < k + (cs.length + 1)
          · rw [if_pos e, if_pos (by omega)]
          · rw [if_neg e, if_neg (by omega)]
theorem foldl_set_get (c : List Value) (off : Nat) (zs : Array Value) (k : Nat) : ((c.zipIdx k).foldl (fun cs (x : Value × Nat) => cs.setIfInBounds (off + x.2) x.1) zs).size = zs.size ∧
    ∀ i, ((c.zipIdx k).foldl (fun cs (x : Value × Nat) => cs.setIfInBounds (off + x.2) x.1) zs)[i]? = if off + k ≤ i ∧ i < off + k + c.length ∧ i < zs.size then c[i - (off + k)]? else zs[i]? := by
  induction c generalizing zs k with
  | nil =>
    refine ⟨rfl, fun i => ?_⟩
    simp only [List.zipIdx_nil, List.foldl_nil, List.length_nil, Nat.add_zero]
    rw [if_neg (by omega)]
  | cons x c ih =>
    obtain ⟨h1, h2⟩ := ih (zs.setIfInBounds (off + k) x) (k + 1)
    refine ⟨by simpa using h1, fun i => ?_⟩
    simp only [List.zipIdx_cons, List.foldl_cons]
    rw [h2 i]
    simp only [Array.size_setIfInBounds, List.length_cons, Array.getElem?_setIfInBounds]
    by_cases e : off + k = i
    · subst e
      rw [if_neg (by omega), if_pos rfl]
      by_cases e2 : off + k < zs.size
      · rw [if_pos e2, if_pos (by omega)]; simp
      · rw [if_neg e2, if_neg (by omega)]; simp; omega
    · rw [if_neg e]
      by_cases e2 : off + (k + 1) ≤ i ∧ i < off + (k + 1) + c.length ∧ i < zs.size
      · rw [if_pos e2, if_pos (by omega), show i - (off + k) = (i - (off + (k + 1))) + 1 by omega]; simp
      · rw [if_neg e2, if_neg (by omega)]
theorem foldl_put (c : List Value) (off : Nat) (zs : List Value) (h : off + c.length ≤ zs.length) : (c.toArray.zipIdx.foldl (fun cs (x : Value × Nat) => cs.setIfInBounds (off + x.2) x.1) zs.toArray) = (putL zs off c).toArray := by
  rw [← Array.foldl_toList]
  simp only [Array.toList_zipIdx]
  obtain ⟨h1, h2⟩ := foldl_set_get c off zs.toArray 0
  apply Array.ext_getElem?
  intro i
  rw [h2 i]
  simp only [List.getElem?_toArray, putL_get zs off c h, List.size_toArray, Nat.add_zero]
  by_cases e : off ≤ i ∧ i < off + c.length
  · rw [if_pos e, if_pos (by omega)]
  · rw [if_neg e, if_neg (by omega)]
theorem fill_of {pl : List (Nat × Nat)} {vs : List (Nat × Value)} {cs : List (Nat × List Value)} (hc : CellsL vs cs) : ∀ {zs r : List Value}, fillL pl zs cs = some r → Instr.fill (fun i => pl.toArray[i]?) zs.toArray vs = some r.toArray := by
  induction hc with
  | nil => intro zs r h; simp only [fillL, force_eq] at h; injection h with h; subst h; rfl
  | @cons i v c vs cs hv hr ih =>
    intro zs r h
    have hv := cellsL_eq hv
    simp only [fillL] at h
    rw [nth?_eq] at h
    simp only [Instr.fill]
    cases hp : pl[i]? with
    | none => rw [hp] at h; cases h
    | some p =>
      rw [hp] at h
      simp only [] at h
      cases hl : lenIs c p.2 with
      | false => rw [hl] at h; cases h
      | true =>
        rw [hl] at h
        simp only [] at h
        have hlen := lenIs_eq hl
        cases hb : Nat.ble (p.1 + p.2) zs.length with
        | false => rw [hb] at h; cases h
        | true =>
          rw [hb] at h
          simp only [] at h
          have hle : p.1 + p.2 ≤ zs.length := Nat.le_of_ble_eq_true hb
          have hp' : pl.toArray[i]? = some p := by simpa using hp
          rw [hp']
          simp only [hv, List.size_toArray, hlen]
          rw [if_neg (by simp; omega)]
          rw [foldl_put c p.1 zs (by omega)]
          exact ih h
theorem NOp.build {t : TypeId} {parts : List (Nat × Operand)} {vs : List (Nat × Value)} {cs : List (Nat × List Value)} {r zs : List Value} {fs : Array Field} {pl : List (Nat × Nat)} {dsc sz z ag}
    [TI P t dsc sz z ag] [SP P t fs pl.toArray] (hp : lkps l parts = some vs) (hc : CellsL vs cs) (hz : cellsL z = some zs) (hf : fillL pl zs cs = some r) : NOp P h M l ⟨d, .build t parts.toArray, ty, pos, aft, g⟩ (.agg r.toArray) := fun a w h' _ _ ha => by
  have he := ha.evalps hp
  have hpl := SP.places (P := P) (t := t) w
  have hfill := fill_of hc hf
  have hz := cellsL_eq hz
  simp only [execOp, Instr.build, Sem.run_bind, TI.zero (P := P) (t := t), Result.andThen_ok, run_underlying (SP.und (P := P) (t := t)), hpl, List.map_toArray, he, hz, hfill, Sem.run_pure]
end
end Go.Proofs.YtfookachkcgdpaaDoor
/- The engine's lemmas for memory, calls and results. Plain theorems; no condition. -/
set_option linter.unusedVariables false
set_option linter.unusedSimpArgs false
namespace Go.Proofs.YtfookachkcgdpaaDoor
open Go.RowKit

abbrev cel (xs : List Value) (e : TypeId) : Obj := .cells xs.toArray e (0, 0)
def takeL (xs : List Value) (off : Nat) : Nat → Option (List Value)
  | 0 => some []
  | k + 1 => match nth? xs off with
    | none => none
    | some v => match takeL xs (off + 1) k with
      | none => none
      | some vs => some (v :: vs)
def stL (xs : List Value) (off : Nat) (c : List Value) : Option (List Value) := match Nat.ble (off + c.length) xs.length with
  | true => force (putL xs off c)
  | false => none
def updM : Blks → Nat → Nat × Obj → Option Blks
  | [], _, _ => none
  | _ :: r, 0, p => some (p :: r)
  | x :: r, i + 1, p => match updM r i p with
    | none => none
    | some r' => some (x :: r')
def argF (i : Nat) : List Value → Option Fr
  | [] => some []
  | v :: r => match argF (i + 1) r with
    | none => none
    | some r' => some ((i, v) :: r')

theorem takeL_get {xs vs : List Value} {off k : Nat} (h : takeL xs off k = some vs) : vs.length = k ∧ ∀ j, j < k → xs[off + j]? = vs[j]? := by
  induction k generalizing off vs with
  | zero => simp only [takeL] at h; injection h with h; subst h; exact ⟨rfl, fun j hj => by omega⟩
  | succ k ih =>
    simp only [takeL, nth?_eq] at h
    cases hx : xs[off]? with
    | none => rw [hx] at h; cases h
    | some v =>
      rw [hx] at h
      simp only [] at h
      cases hr : takeL xs (off + 1) k with
      | none => rw [hr] at h; cases h
      | some us =>
        rw [hr] at h
        injection h with h
        subst h
        obtain ⟨h1, h2⟩ := ih hr
        refine ⟨by simp [h1], fun j hj => ?_⟩
        cases j with
        | zero => simpa using hx
        | succ j => have := h2 j (by omega); simp only [List.getElem?_cons_succ]; rw [← this, show off + (j + 1) = off + 1 + j by omega]
theorem updM_mem {M M' : Blks} {i : Nat} {p q : Nat × Obj} (hi : nth? M i = some q) (h : updM M i p = some M') : ∃ A B, M = A ++ q :: B ∧ M' = A ++ p :: B := by
  induction M generalizing i M' with
  | nil => cases h
  | cons x r ih =>
    cases i with
    | zero => simp only [nth?] at hi; injection hi with hi; subst hi; simp only [updM] at h; injection h with h; subst h; exact ⟨[], r, rfl, rfl⟩
    | succ i =>
      simp only [nth?] at hi
      simp only [updM] at h
      cases hr : updM r i p with
      | none => rw [hr] at h; cases h
      | some r' =>
        rw [hr] at h
        injection h with h
        subst h
        obtain ⟨A, B, h1, h2⟩ := ih hi hr
        exact ⟨x :: A, B, by simp [h1], by simp [h2]⟩
theorem nth_mem {M : Blks} {i : Nat} {q : Nat × Obj} (hi : nth? M i = some q) : q ∈ M := by rw [nth?_eq] at hi; exact List.mem_of_getElem? hi
/-- A write into one owned block. -/
theorem Good.upd {w w' : World} {h : GH} {A B : Blks} {b : Nat} {o o' : Obj} (g : Good w h (A ++ (b, o) :: B)) (hb : w'.heap[b]? = some o') (hk : ∀ x, x ≠ b → w'.heap[x]? = w.heap[x]?) : Good w' h (A ++ (b, o') :: B) := by
  have hsepb : h b = none := g.sep (b, o) (by simp)
  have hd := g.dis
  have hA : ∀ p ∈ A, p.1 ≠ b := fun p hp => (List.pairwise_append.1 hd).2.2 p hp (b, o) (by simp)
  have hB : ∀ p ∈ B, p.1 ≠ b := fun p hp e => (List.pairwise_cons.1 (List.pairwise_append.1 hd).2.1).1 p hp e.symm
  refine ⟨fun x u hx => ?_, fun p hp => ?_, fun p hp => ?_, ?_⟩
  · rw [hk x (by rintro rfl; rw [hsepb] at hx; cases hx)]; exact g.sat x u hx
  · rcases List.mem_append.1 hp with hp | hp
    · rw [hk p.1 (hA p hp)]; exact g.mem p (List.mem_append_left _ hp)
    · rcases List.mem_cons.1 hp with rfl | hp
      · exact hb
      · rw [hk p.1 (hB p hp)]; exact g.mem p (by simp [hp])
  · rcases List.mem_append.1 hp with hp | hp
    · exact g.sep p (List.mem_append_left _ hp)
    · rcases List.mem_cons.1 hp with rfl | hp
      · exact hsepb
      · exact g.sep p (by simp [hp])
  · refine List.pairwise_append.2 ⟨(List.pairwise_append.1 hd).1, List.pairwise_cons.2 ⟨fun p hp e => hB p hp e.symm, (List.pairwise_cons.1 (List.pairwise_append.1 hd).2.1).2⟩, fun p hp q hq => ?_⟩
    rcases List.mem_cons.1 hq with rfl | hq
    · exact hA p hp
    · exact (List.pairwise_append.1 hd).2.2 p hp q (by simp [hq])
theorem Step.upd {w w' : World} {h : GH} {A B : Blks} {b : Nat} {o o' : Obj} (g : Good w h (A ++ (b, o) :: B)) (hos : w'.os = w.os) (htp : w'.tape = w.tape) (hout : w'.output = w.output) (hs : w'.heap.size = w.heap.size)
    (hk : ∀ x, x ≠ b → w'.heap[x]? = w.heap[x]?) : Step w h (A ++ (b, o) :: B) w' h (A ++ (b, o') :: B) where
  os := hos
  tape := htp
  output := hout
  size := by omega
  le := GH.le.refl _
  frame := fun x hx hM => hk x (fun e => hM (b, o) (by simp) e.symm)
  fresh := fun x u hx => .inl hx
  own := fun p hp => by
    rcases List.mem_append.1 hp with hp | hp
    · exact .inl ⟨p, List.mem_append_left _ hp, rfl⟩
    · rcases List.mem_cons.1 hp with rfl | hp
      · exact .inl ⟨(b, o), by simp, rfl⟩
      · exact .inl ⟨p, by simp [hp], rfl⟩
/-- A new block, owned. -/
theorem Good.new {w : World} {h : GH} {M : Blks} (g : Good w h M) (o : Obj) : Good (w.alloc o) h ((w.heap.size, o) :: M) := by
  have hn : h w.heap.size = none := by
    cases hx : h w.heap.size with
    | none => rfl
    | some u => have := lt_of_some (g.sat _ _ hx); omega
  refine ⟨fun b u hb => ?_, fun p hp => ?_, fun p hp => ?_, ?_⟩
  · have := g.sat b u hb
    rw [Below.heap_alloc _ _ _ (lt_of_some this)]; exact this
  · rcases List.mem_cons.1 hp with rfl | hp
    · exact heap_alloc_new w o
    · have := g.mem p hp
      rw [Below.heap_alloc _ _ _ (lt_of_some this)]; exact this
  · rcases List.mem_cons.1 hp with rfl | hp
    · exact hn
    · exact g.sep p hp
  · exact List.pairwise_cons.2 ⟨fun p hp e => by have := lt_of_some (g.mem p hp); simp only [] at e; omega, g.dis⟩
theorem Step.new {w : World} {h : GH} {M : Blks} (o : Obj) : Step w h M (w.alloc o) h ((w.heap.size, o) :: M) where
  os := rfl
  tape := rfl
  output := rfl
  size := by simp
  le := GH.le.refl _
  frame := fun x hx hM => Below.heap_alloc _ _ _ hx
  fresh := fun x u hx => .inl hx
  own := fun p hp => by
    rcases List.mem_cons.1 hp with rfl | hp
    · exact .inr (Nat.le_refl _)
    · exact .inl ⟨p, hp, rfl⟩
theorem Good.drew {w : World} {h : GH} {M : Blks} (g : Good w h M) : Good w.drew h M := ⟨g.sat, g.mem, g.sep, g.dis⟩
theorem Step.drew {w : World} {h : GH} {M : Blks} : Step w h M w.drew h M := ⟨rfl, rfl, rfl, Nat.le_refl _, GH.le.refl _, fun _ _ _ => rfl, fun _ _ x => .inl x, fun p hp => .inl ⟨p, hp, rfl⟩⟩
/-- An owned block that is not written any more: it is known to stay. -/
theorem Good.freeze {w : World} {h : GH} {R : Blks} {b : Nat} {o : Obj} (g : Good w h ((b, o) :: R)) : Good w (h.ins b o) R := by
  refine ⟨fun x u hx => ?_, fun p hp => g.mem p (by simp [hp]), fun p hp => ?_, (List.pairwise_cons.1 g.dis).2⟩
  · unfold GH.ins at hx
    split at hx
    · rename_i e; subst e; injection hx with hx; subst hx; exact g.mem (x, o) (by simp)
    · exact g.sat x u hx
  · unfold GH.ins
    rw [if_neg (fun e => (List.pairwise_cons.1 g.dis).1 p hp e.symm)]
    exact g.sep p (by simp [hp])
theorem Step.freeze {w w' : World} {h h' : GH} {M R : Blks} {b : Nat} {o : Obj} (g : Good w' h' ((b, o) :: R)) (s : Step w h M w' h' ((b, o) :: R)) (hM : ∀ q ∈ M, q.1 ≠ b) : Step w h M w' (h'.ins b o) R :=
  { s with
    le := s.le.trans (GH.le_ins (g.sep (b, o) (by simp)))
    fresh := fun x u hx => by
      unfold GH.ins at hx
      split at hx
      · rename_i e
        subst e
        rcases s.own (x, o) (by simp) with ⟨q, hq, e⟩ | h1
        · exact absurd e (hM q hq)
        · exact .inr h1
      · exact s.fresh x u hx
    own := fun p hp => s.own p (by simp [hp]) }
/-- Less is known. -/
theorem Inv.back {E : Env} {w : World} {h : GH} {M : Blks} (i : Inv E w h M) : Inv E w E.h0 M :=
  ⟨⟨fun b o hb => i.good.sat b o (i.step.le b o hb), i.good.mem, fun p hp => (by
      cases hx : E.h0 p.1 with
      | none => rfl
      | some o => have := i.step.le _ _ hx; rw [i.good.sep p hp] at this; cases this), i.good.dis⟩,
    { i.step with le := GH.le.refl _, fresh := fun _ _ x => .inl x }⟩

theorem Addr.add_lit' (b off k : Nat) : (⟨b, off, none⟩ : Addr).add k = ⟨b, off + k, none⟩ := by unfold Addr.add; split <;> simp_all
theorem cell_known {w : World} {h : GH} {M : Blks} (g : Good w h M) {b off : Nat} {ar : Array Value} {e : TypeId} {fr : Nat × Nat} {v : Value} (hb : h b = some (.cells ar e fr)) (hv : ar[off]? = some v) : w.cell? ⟨b, off, none⟩ = some v := by
  rw [cell_of_row w b off ar e fr (g.sat _ _ hb)]; exact hv
theorem cell_owned {w : World} {h : GH} {M : Blks} (g : Good w h M) {b off : Nat} {ar : Array Value} {e : TypeId} {fr : Nat × Nat} {v : Value} (hb : (b, Obj.cells ar e fr) ∈ M) (hv : ar[off]? = some v) : w.cell? ⟨b, off, none⟩ = some v := by
  rw [cell_of_row w b off ar e fr (g.mem _ hb)]; exact hv

section
variable {P : Program} {nn : Nat} {E : Env} {Q : Exit → Act → World → Prop} {l : Fr} {h : GH} {M : Blks} {ops : Array Oper} {rest : List Oper}
variable {d : Option Tmp} {ty : TypeId} {pos : String} {aft : Array Edge} {g : Option (Nat × Bool)}

/-! ### reading -/
theorem load_one {t : TypeId} {dsc sz z} [TI P t dsc sz z false] {w : World} {a : Addr} {v : Value} (hc : w.cell? a = some v) : (Instr.loadAt t (.pointer (some a))).run P w = .ok v w := by
  simp [Instr.loadAt, Instr.sureAddr, loadVar, TI.agg (P := P) (t := t), hc]
theorem load_many {t : TypeId} {dsc sz z} [TI P t dsc sz z true] {w : World} {b off : Nat} {vs : List Value} (hl : vs.length = sz) (hc : ∀ j v, vs[j]? = some v → w.cell? ⟨b, off + j, none⟩ = some v) :
    (Instr.loadAt t (.pointer (some ⟨b, off, none⟩))).run P w = .ok (.agg vs.toArray) w := by
  have := run_loadCells_list (P := P) w ⟨b, off, none⟩ vs (fun j v hj => by rw [Addr.add_lit']; exact hc j v hj)
  rw [hl] at this
  simp [Instr.loadAt, Instr.sureAddr, loadVar, TI.agg (P := P) (t := t), TI.size (P := P) (t := t), this]
theorem NOp.ld {t : TypeId} {x : Operand} {b off : Nat} {xs : List Value} {e : TypeId} {v : Value} {dsc sz z} [TI P t dsc sz z false] (i : Nat) (hx : lko l x = some (.pointer (some ⟨b, off, none⟩))) (hM : nth? M i = some (b, cel xs e)) (hv : nth? xs off = some v) :
    NOp P h M l ⟨d, .load t x, ty, pos, aft, g⟩ v := fun a w h' _ gd ha => by
  simp only [execOp, ha.eval hx, Sem.run_bind, load_one (cell_owned gd (nth_mem hM) (by simpa [nth?_eq] using hv)), Result.andThen_ok, Sem.run_pure]
theorem NOp.ldA {t : TypeId} {x : Operand} {b off : Nat} {xs : List Value} {e : TypeId} {vs : List Value} {dsc sz z} [TI P t dsc sz z true] (i : Nat) (hx : lko l x = some (.pointer (some ⟨b, off, none⟩))) (hM : nth? M i = some (b, cel xs e)) (hv : takeL xs off sz = some vs) :
    NOp P h M l ⟨d, .load t x, ty, pos, aft, g⟩ (.agg vs.toArray) := fun a w h' _ gd ha => by
  obtain ⟨h1, h2⟩ := takeL_get hv
  have := load_many (P := P) (t := t) (w := w) (b := b) (off := off) h1 (fun j v hj => by
    have hlt : j < sz := by rw [← h1]; exact (List.getElem?_eq_some_iff.1 hj).1
    exact cell_owned gd (nth_mem hM) (by simpa using (h2 j hlt).trans hj))
  simp only [execOp, ha.eval hx, Sem.run_bind, this, Result.andThen_ok, Sem.run_pure]
theorem NOp.ldH {t : TypeId} {x : Operand} {b off : Nat} {ar : Array Value} {e : TypeId} {fr : Nat × Nat} {v : Value} {dsc sz z} [TI P t dsc sz z false] (hx : lko l x = some (.pointer (some ⟨b, off, none⟩))) (hb : h b = some (.cells ar e fr)) (hv : ar[off]? = some v) :
    NOp P h M l ⟨d, .load t x, ty, pos, aft, g⟩ v := fun a w h' hle gd ha => by
  simp only [execOp, ha.eval hx, Sem.run_bind, load_one (cell_known gd (hle _ _ hb) hv), Result.andThen_ok, Sem.run_pure]
theorem NOp.ldHA {t : TypeId} {x : Operand} {b off : Nat} {ar : Array Value} {e : TypeId} {fr : Nat × Nat} {vs : List Value} {dsc sz z} [TI P t dsc sz z true] (hx : lko l x = some (.pointer (some ⟨b, off, none⟩))) (hb : h b = some (.cells ar e fr))
    (hl : lenIs vs sz = true) (hv : ∀ j v, vs[j]? = some v → ar[off + j]? = some v) :
    NOp P h M l ⟨d, .load t x, ty, pos, aft, g⟩ (.agg vs.toArray) := fun a w h' hle gd ha => by
  have := load_many (P := P) (t := t) (w := w) (b := b) (off := off) (lenIs_eq hl) (fun j v hj => cell_known gd (hle _ _ hb) (hv j v hj))
  simp only [execOp, ha.eval hx, Sem.run_bind, this, Result.andThen_ok, Sem.run_pure]
theorem NOp.fld {s : TypeId} {x : Operand} {i b off o : Nat} [FA P s i o] (hx : lko l x = some (.pointer (some ⟨b, off, none⟩))) :
    NOp P h M l ⟨d, .fieldAddr s x i, ty, pos, aft, g⟩ (.pointer (some ⟨b, off + o, none⟩)) := fun a w h' _ _ ha => by
  simp only [execOp, ha.eval hx, Sem.run_bind, FA.run (P := P) (s := s), Result.andThen_ok, Sem.run_pure]
end
end Go.Proofs.YtfookachkcgdpaaDoor
/- The engine's lemmas for operations that make or write memory, for calls and results. Plain theorems; no condition. -/
set_option linter.unusedVariables false
set_option linter.unusedSimpArgs false
namespace Go.Proofs.YtfookachkcgdpaaDoor
open Go.RowKit

inductive OneL : List Value → Prop
  | nil : OneL []
  | cons {v : Value} {r : List Value} (h : v.oneCell' = true) (k : OneL r) : OneL (v :: r)
theorem OneL.all {xs : List Value} (h : OneL xs) : ∀ v ∈ xs, v.oneCell' = true := by
  induction h with
  | nil => simp
  | cons hv _ ih => intro v hv'; rcases List.mem_cons.1 hv' with rfl | hv'
                    · exact hv
                    · exact ih v hv'

theorem putL_eq (xs : List Value) (off : Nat) (c : List Value) (h : off + c.length ≤ xs.length) : putL xs off c = xs.take off ++ c ++ xs.drop (off + c.length) := by
  apply List.ext_getElem?
  intro i
  rw [putL_get xs off c h]
  rw [List.append_assoc, List.getElem?_append, List.getElem?_append]
  simp only [List.length_take, Nat.min_eq_left (show off ≤ xs.length by omega)]
  by_cases h1 : i < off
  · rw [if_neg (by omega), if_pos h1, List.getElem?_take, if_pos h1]
  · rw [if_neg h1]
    by_cases h2 : i < off + c.length
    · rw [if_pos (by omega), if_pos (by omega)]
    · rw [if_neg (by omega), if_neg (by omega), List.getElem?_drop]
      congr 1; omega
theorem setRow_heap {w : World} {b : Nat} {cs : Array Value} {t : TypeId} {fr : Nat × Nat} (hb : w.heap[b]? = some (.cells cs t fr)) (cs' : Array Value) : (w.setRow b cs').heap[b]? = some (.cells cs' t fr) := by
  simp [World.setRow, Array.getElem?_modify, hb]
theorem setRow_other (w : World) (b : Nat) (cs' : Array Value) {x : Nat} (hx : x ≠ b) : (w.setRow b cs').heap[x]? = w.heap[x]? := by
  simp only [World.setRow, Array.getElem?_modify]
  rw [if_neg (fun e => hx e.symm)]

/-- A new block, of which it is known at once that it stays. -/
theorem Inv.newKnown {E : Env} {w : World} {h : GH} {M : Blks} (i : Inv E w h M) (o : Obj) : ∃ h', GH.le h h' ∧ h' w.heap.size = some o ∧ Inv E (w.alloc o) h' M := by
  have g1 := i.good.new o
  have s1 := i.step.trans (Step.new (w := w) (h := h) (M := M) o)
  refine ⟨h.ins w.heap.size o, GH.le_ins (g1.sep (w.heap.size, o) (by simp)), GH.ins_at _ _ _, g1.freeze, { s1 with le := s1.le.trans (GH.le_ins (g1.sep (w.heap.size, o) (by simp))), fresh := ?_, own := fun p hp => s1.own p (by simp [hp]) }⟩
  intro x u hx
  unfold GH.ins at hx
  split at hx
  · rename_i e; subst e; exact .inr i.step.size
  · exact s1.fresh x u hx

section
variable {P : Program} {nn : Nat} {E : Env} {Q : Exit → Act → World → Prop} {l : Fr} {h : GH} {M : Blks} {ops : Array Oper} {rest : List Oper}
variable {ty : TypeId} {pos : String} {aft : Array Edge}

/-- The step of an operation that leaves a value and may change the world. -/
theorem SL.e {d : Nat} {op : Op} (hd : Nat.blt d nn = true)
    (hr : ∀ a w, Ev a l → Inv E w h M → ∃ v w' h' M', (execOp a.eval ⟨some d, op, ty, pos, aft, none⟩).run P w = .ok (.value v) w' ∧ Inv E w' h' M' ∧ SL P nn E ops Q rest ((d, v) :: l) h' M') :
    SL P nn E ops Q (⟨some d, op, ty, pos, aft, none⟩ :: rest) l h M := fun a w ha hi => by
  obtain ⟨v, w', h', M', hr, hi', k⟩ := hr a w ha.ev hi
  refine wpList_plain rfl fun K hK => ?_
  unfold Oper.wp
  rw [hr]
  exact hK _ _ (k _ w' (ha.put hd v) hi')
theorem SL.alloc {d : Nat} {t : TypeId} {dsc sz z ag} {zs : List Value} [TI P t dsc sz z ag] (hz : cellsL z = some zs) (hd : Nat.blt d nn = true)
    (k : ∀ b, SL P nn E ops Q rest ((d, .pointer (some ⟨b, 0, none⟩)) :: l) h ((b, cel zs t) :: M)) : SL P nn E ops Q (⟨some d, .alloc t, ty, pos, aft, none⟩ :: rest) l h M :=
  SL.e hd fun a w ha hi => ⟨_, w.alloc (cel zs t), h, _, by
    simp only [execOp, Instr.alloc, Sem.run_bind, TI.zero (P := P) (t := t), Result.andThen_ok, newVar, newRow, cellsL_eq hz]; rfl, hi.next (hi.good.new _) (Step.new _), k _⟩
theorem SL.box {d : Nat} {t : TypeId} {x : Operand} {v : Value} {zs : List Value} (hx : lko l x = some v) (hz : cellsL v = some zs) (hd : Nat.blt d nn = true)
    (k : ∀ b, SL P nn E ops Q rest ((d, .pointer (some ⟨b, 0, none⟩)) :: l) h ((b, cel zs t) :: M)) : SL P nn E ops Q (⟨some d, .box t x, ty, pos, aft, none⟩ :: rest) l h M :=
  SL.e hd fun a w ha hi => ⟨_, w.alloc (cel zs t), h, _, by
    simp only [execOp, Instr.box, ha.eval hx, Sem.run_bind, Result.andThen_ok, newVar, newRow, cellsL_eq hz]; rfl, hi.next (hi.good.new _) (Step.new _), k _⟩

def zerosL (zs : List Value) : Nat → List Value
  | 0 => []
  | k + 1 => zs ++ zerosL zs k
theorem zerosL_length (zs : List Value) (k : Nat) : (zerosL zs k).length = k * zs.length := by
  induction k with
  | zero => simp [zerosL]
  | succ k ih => simp [zerosL, ih, Nat.add_mul, Nat.add_comm]
theorem zerosL_get (zs : List Value) (k i : Nat) (hi : i < k * zs.length) : (zerosL zs k)[i]? = zs[i % zs.length]? := by
  induction k generalizing i with
  | zero => simp at hi
  | succ k ih =>
    simp only [zerosL, List.getElem?_append]
    by_cases e : i < zs.length
    · rw [if_pos e, Nat.mod_eq_of_lt e]
    · rw [if_neg e, ih _ (by rw [Nat.add_mul] at hi; omega)]
      congr 1
      rw [Nat.mod_eq_sub_mod (show zs.length ≤ i by omega)]
theorem zeros_eq (zs : List Value) (k : Nat) (hz : 0 < zs.length) : (Array.range (k * zs.length)).map (fun i => zs.toArray[i % zs.toArray.size]!) = (zerosL zs k).toArray := by
  apply Array.ext_getElem?
  intro i
  simp only [Array.getElem?_map, List.getElem?_toArray, List.size_toArray]
  by_cases hi : i < k * zs.length
  · rw [zerosL_get zs k i hi, Array.getElem?_range, if_pos hi]
    simp only [Option.map_some]
    have hm : i % zs.length < zs.length := Nat.mod_lt _ hz
    rw [getElem!_pos zs.toArray (i % zs.length) (by simpa using hm), List.getElem?_eq_getElem hm]
    simp
  · rw [Array.getElem?_range, if_neg hi, List.getElem?_eq_none (by rw [zerosL_length]; omega)]; rfl
def plS (sz : Nat) : Nat → Nat → List (Nat × Nat)
  | _, 0 => []
  | i, k + 1 => (i * sz, sz) :: plS sz (i + 1) k
theorem plS_get {sz i k j : Nat} {p : Nat × Nat} (h : (plS sz i k)[j]? = some p) : p = ((i + j) * sz, sz) := by
  induction k generalizing i j with
  | zero => simp [plS] at h
  | succ k ih => cases j with
    | zero => simp [plS] at h; simp [← h]
    | succ j => have := ih (i := i + 1) (j := j) (by simpa [plS] using h); rw [this]; simp [show i + 1 + j = i + (j + 1) by omega]
theorem fill_mono {place place' : Nat → Option (Nat × Nat)} (hp : ∀ i p, place i = some p → place' i = some p) : ∀ {vs : List (Nat × Value)} {cells r : Array Value}, Instr.fill place cells vs = some r → Instr.fill place' cells vs = some r := by
  intro vs
  induction vs with
  | nil => intro cells r h; exact h
  | cons x vs ih =>
    intro cells r h
    obtain ⟨i, v⟩ := x
    simp only [Instr.fill] at h ⊢
    cases hpl : place i with
    | none => rw [hpl] at h; cases h
    | some p =>
      rw [hpl] at h
      rw [hp i p hpl]
      simp only [] at h ⊢
      split at h
      · cases h
      · rename_i hc; rw [if_neg hc]; exact ih h
theorem run_buildSlice {t e : TypeId} {len sz : Nat} {d2 : TypeDesc} {s1 : Nat} {z1 z : Value} {a1 ag : Bool} {vs : List (Nat × Value)} {cs : List (Nat × List Value)} {r zs : List Value} [TI P t (.slice e) s1 z1 a1] [TI P e d2 sz z ag]
    (hc : CellsL vs cs) (hz : cellsL z = some zs) (hsz : lenIs zs (sz) = true) (hs0 : Nat.blt 0 (len * sz) = true) (hbig : Nat.ble (len * sz) 16777216 = true) (hf : fillL (plS sz 0 len) (zerosL zs len) cs = some r) (w : World) :
    (Instr.buildSlice t len vs.toArray).run P w = .ok (.slice (some ⟨w.heap.size, 0, none⟩) len len) (w.alloc (cel r e)) := by
  have h0 : 0 < len * sz := by have : 0 + 1 ≤ len * sz := by simpa [Nat.blt] using hs0
                               omega
  have hb : len * sz ≤ 16777216 := Nat.le_of_ble_eq_true hbig
  have hzl := lenIs_eq hsz
  have hz := cellsL_eq hz
  have hpos : 0 < zs.length := by
    rcases Nat.eq_zero_or_pos zs.length with e | e
    · rw [hzl] at e; rw [e] at h0; omega
    · exact e
  have hfill := fill_mono (place' := fun i => some (i * sz, sz)) (fun i p hip => by have := plS_get (i := 0) (j := i) (sz := sz) (k := len) (p := p) (by simpa using hip); rw [this]; simp) (fill_of hc hf)
  have hzz := zeros_eq zs len hpos
  rw [hzl] at hzz
  simp only [Instr.buildSlice, Sem.run_bind, run_underlying (TI.und (P := P) (t := t)), Result.andThen_ok, TI.size (P := P) (t := e)]
  rw [if_neg (by omega), if_neg (by omega)]
  simp only [Sem.run_bind, TI.zero (P := P) (t := e), Result.andThen_ok, Sem.run_pure, hz, hzz, hfill, newRow]
  rfl
/-- A literal slice that stays as it is. -/
theorem SL.lit {d : Nat} {t e : TypeId} {len sz : Nat} {d2 : TypeDesc} {s1 : Nat} {z1 z : Value} {a1 ag : Bool} {parts : List (Nat × Operand)} {vs : List (Nat × Value)} {cs : List (Nat × List Value)} {r zs : List Value} [TI P t (.slice e) s1 z1 a1] [TI P e d2 sz z ag]
    (hp : lkps l parts = some vs) (hc : CellsL vs cs) (hz : cellsL z = some zs) (hsz : lenIs zs sz = true) (hs0 : Nat.blt 0 (len * sz) = true) (hbig : Nat.ble (len * sz) 16777216 = true) (hf : fillL (plS sz 0 len) (zerosL zs len) cs = some r) (hd : Nat.blt d nn = true)
    (k : ∀ b h', GH.le h h' → h' b = some (cel r e) → SL P nn E ops Q rest ((d, .slice (some ⟨b, 0, none⟩) len len) :: l) h' M) : SL P nn E ops Q (⟨some d, .buildSlice t len parts.toArray, ty, pos, aft, none⟩ :: rest) l h M :=
  SL.e hd fun a w ha hi => by
    obtain ⟨h', hle, hat, hi'⟩ := hi.newKnown (cel r e)
    refine ⟨_, _, h', M, ?_, hi', k _ h' hle hat⟩
    have hrun := run_buildSlice (P := P) (t := t) (e := e) hc hz hsz hs0 hbig hf w
    simp only [execOp, List.map_toArray, ha.evalps hp, Sem.run_bind]
    rw [hrun]
    simp only [Result.andThen_ok, Sem.run_pure]
/-- The same, owned. -/
theorem SL.litO {d : Nat} {t e : TypeId} {len sz : Nat} {d2 : TypeDesc} {s1 : Nat} {z1 z : Value} {a1 ag : Bool} {parts : List (Nat × Operand)} {vs : List (Nat × Value)} {cs : List (Nat × List Value)} {r zs : List Value} [TI P t (.slice e) s1 z1 a1] [TI P e d2 sz z ag]
    (hp : lkps l parts = some vs) (hc : CellsL vs cs) (hz : cellsL z = some zs) (hsz : lenIs zs sz = true) (hs0 : Nat.blt 0 (len * sz) = true) (hbig : Nat.ble (len * sz) 16777216 = true) (hf : fillL (plS sz 0 len) (zerosL zs len) cs = some r) (hd : Nat.blt d nn = true)
    (k : ∀ b, SL P nn E ops Q rest ((d, .slice (some ⟨b, 0, none⟩) len len) :: l) h ((b, cel r e) :: M)) : SL P nn E ops Q (⟨some d, .buildSlice t len parts.toArray, ty, pos, aft, none⟩ :: rest) l h M :=
  SL.e hd fun a w ha hi => by
    refine ⟨_, _, h, _, ?_, hi.next (hi.good.new (cel r e)) (Step.new _), k _⟩
    have hrun := run_buildSlice (P := P) (t := t) (e := e) hc hz hsz hs0 hbig hf w
    simp only [execOp, List.map_toArray, ha.evalps hp, Sem.run_bind]
    rw [hrun]
    simp only [Result.andThen_ok, Sem.run_pure]
/-- A store into an owned block. -/
theorem SL.store {t e : TypeId} {x y : Operand} {b off sz : Nat} {v : Value} {c xs xs' : List Value} {M' : Blks} {dsc z ag} [TI P t dsc sz z ag] (i : Nat) (hx : lko l x = some (.pointer (some ⟨b, off, none⟩))) (hy : lko l y = some v) (hc : cellsL v = some c)
    (hsz : lenIs c sz = true) (h1 : OneL c) (hM : nth? M i = some (b, cel xs e)) (hst : stL xs off c = some xs') (hup : updM M i (b, cel xs' e) = some M') (k : SL P nn E ops Q rest l h M') :
    SL P nn E ops Q (⟨none, .store t x y, ty, pos, aft, none⟩ :: rest) l h M := fun a w ha hi => by
  obtain ⟨A, B, rfl, rfl⟩ := updM_mem hM hup
  have hb := hi.good.mem (b, cel xs e) (by simp)
  have hle : off + c.length ≤ xs.length ∧ xs' = putL xs off c := by
    unfold stL at hst
    split at hst
    · rename_i hble; rw [force_eq] at hst; injection hst with hst; exact ⟨Nat.le_of_ble_eq_true hble, hst.symm⟩
    · cases hst
  have hstore := run_storeCells_at P b off e c 0 xs.toArray w hb (by simpa using hle.1) h1.all
  have hrow : (xs.toArray.toList.take (off + 0) ++ c ++ xs.toArray.toList.drop (off + 0 + c.length)).toArray = xs'.toArray := by
    rw [hle.2, putL_eq xs off c hle.1]; rfl
  rw [hrow] at hstore
  have hrun : (execOp a.eval ⟨none, .store t x y, ty, pos, aft, none⟩).run P w = .ok .skip (w.setRow b xs'.toArray) := by
    simp only [execOp, ha.ev.eval hx, ha.ev.eval hy, Instr.storeAt, Instr.sureAddr, Sem.run_bind, Sem.run_pure, Result.andThen_ok, storeVar, TI.size (P := P) (t := t), cellsL_eq hc, List.size_toArray, lenIs_eq hsz]
    rw [if_neg (by simp)]
    simp only [hstore, Result.andThen_ok]
  refine wpList_plain rfl fun K hK => ?_
  unfold Oper.wp
  rw [hrun]
  refine hK _ _ (k _ _ ha ?_)
  have hg := Good.upd hi.good (w' := w.setRow b xs'.toArray) (setRow_heap hb _) (fun x hx => setRow_other w b _ hx)
  exact hi.next hg (Step.upd hi.good rfl rfl rfl (by simp [World.setRow]) (fun x hx => setRow_other w b _ hx))

theorem SL.store2 {t e : TypeId} {x y : Operand} {b off sz : Nat} {v : Value} {c xs xs' : List Value} {M' : Blks} {dsc z ag} [TI P t dsc sz z ag] (i : Nat) (hx : lko l x = some (.pointer (some ⟨b, off, none⟩))) (hM : nth? M i = some (b, cel xs e)) (hy : lko l y = some v) (hc : cellsL v = some c)
    (hsz : lenIs c sz = true) (h1 : OneL c) (hst : stL xs off c = some xs') (hup : updM M i (b, cel xs' e) = some M') (k : SL P nn E ops Q rest l h M') :
    SL P nn E ops Q (⟨none, .store t x y, ty, pos, aft, none⟩ :: rest) l h M := SL.store i hx hy hc hsz h1 hM hst hup k
theorem St.condD {c : Operand} {x y : Code} {p : Prop} [Decidable p] (hc : lko l c = some (.bool (decide p))) (k1 : p → St P nn E x Q l h M) (k2 : ¬p → St P nn E y Q l h M) : St P nn E (.cond c x y) Q l h M :=
  St.condB hc (fun e => k1 (of_decide_eq_true e)) (fun e => k2 (of_decide_eq_false e))
theorem St.condN {c : Operand} {x y : Code} {p : Prop} [Decidable p] (hc : lko l c = some (.bool (!decide p))) (k1 : ¬p → St P nn E x Q l h M) (k2 : p → St P nn E y Q l h M) : St P nn E (.cond c x y) Q l h M :=
  St.condB hc (fun e => k1 (by simpa using e)) (fun e => k2 (by simpa using e))
theorem St.condY {c : Operand} {x y : Code} {p : Prop} [Decidable p] (hc : lko l c = some (.bool (decide p))) (hp : p) (k1 : St P nn E x Q l h M) : St P nn E (.cond c x y) Q l h M :=
  St.condD hc (fun _ => k1) (fun e => absurd hp e)
theorem St.condZ {c : Operand} {x y : Code} {p : Prop} [Decidable p] (hc : lko l c = some (.bool (decide p))) (hp : ¬p) (k1 : St P nn E y Q l h M) : St P nn E (.cond c x y) Q l h M :=
  St.condD hc (fun e => absurd e hp) (fun _ => k1)

/-! ### calls -/
/-- A call's value alone: nothing else is said of memory. -/
def FnV (P : Program) (h : GH) (f : Nat) (args : Array Value) (v : Value) : Prop := Fn P h [] f args fun u h' M' => u = v ∧ h' = h ∧ M' = []
/-- A call's value, and what is known behind it. -/
def FnP (P : Program) (h : GH) (f : Nat) (args : Array Value) (post : Value → GH → Prop) : Prop := Fn P h [] f args fun u h' M' => post u h' ∧ M' = []
theorem run_call {f : Nat} [CF P f] {args : List Operand} {ats : Array TypeId} {vs : List Value} {a : Act} {d : Option Tmp} {g : Option (Nat × Bool)} (ha : Ev a l) (hx : lks l args = some vs) (w : World) :
    (execOp a.eval ⟨d, .call { callee := .value (.func f), args := args.toArray, argTypes := ats }, ty, pos, aft, g⟩).run P w = .ok (.enter f vs.toArray) w := by
  have he := ha.evals hx
  have hf : a.eval (.func f) = .func (.func f) #[] #[] := rfl
  have hc := CF.run (P := P) (f := f) (vs.toArray) w
  simp only [execOp, resolve, Deferred.ofValue, hf, List.map_toArray, he, Sem.run_bind, Sem.run_pure, Result.andThen_ok, invoke]
  simpa using hc
theorem SL.callG {d : Nat} {f : Nat} [CF P f] {args : List Operand} {ats : Array TypeId} {vs : List Value} {Mc R : Blks} {post : Value → GH → Blks → Prop} (hx : lks l args = some vs) (c : Fn P h Mc f vs.toArray post) (hM : M = Mc ++ R) (hd : Nat.blt d nn = true)
    (k : ∀ v h' M', GH.le h h' → post v h' M' → SL P nn E ops Q rest ((d, v) :: l) h' (M' ++ R)) :
    SL P nn E ops Q (⟨some d, .call { callee := .value (.func f), args := args.toArray, argTypes := ats }, ty, pos, aft, none⟩ :: rest) l h M := fun a w ha hi => by
  subst hM
  refine wpList_plain rfl fun K hK => ?_
  unfold Oper.wp
  rw [run_call ha.ev hx w, Oper.upon_enter]
  refine (c w hi.good.left).mono ?_
  rintro e w' ⟨v, h', M', rfl, hi', hp⟩
  exact hK _ _ (k v h' M' hi'.step.le hp _ w' (ha.put hd v) (hi.next (hi.good.app hi'.good hi'.step) (hi'.step.app R)))
theorem SL.callV {d : Nat} {f : Nat} [CF P f] {args : List Operand} {ats : Array TypeId} {vs : List Value} {v : Value} (hx : lks l args = some vs) (c : FnV P h f vs.toArray v) (hd : Nat.blt d nn = true)
    (k : SL P nn E ops Q rest ((d, v) :: l) h M) : SL P nn E ops Q (⟨some d, .call { callee := .value (.func f), args := args.toArray, argTypes := ats }, ty, pos, aft, none⟩ :: rest) l h M :=
  SL.callG (Mc := []) hx c rfl hd fun u h' M' _ ⟨hv, hh, hM⟩ => by subst hv hh hM; exact k
theorem SL.callP {d : Nat} {f : Nat} [CF P f] {args : List Operand} {ats : Array TypeId} {vs : List Value} {post : Value → GH → Prop} (hx : lks l args = some vs) (c : FnP P h f vs.toArray post) (hd : Nat.blt d nn = true)
    (k : ∀ v h', GH.le h h' → post v h' → SL P nn E ops Q rest ((d, v) :: l) h' M) : SL P nn E ops Q (⟨some d, .call { callee := .value (.func f), args := args.toArray, argTypes := ats }, ty, pos, aft, none⟩ :: rest) l h M :=
  SL.callG (Mc := []) hx c rfl hd fun u h' M' hle ⟨hv, hM⟩ => by subst hM; exact k u h' hle hv
theorem SL.callVT {d j dj : Nat} {want : Bool} {f : Nat} [CF P f] {args : List Operand} {ats : Array TypeId} {vs : List Value} {v : Value} (hj : (ops[j]?).bind (·.dst) = some dj) (hb : lk l dj = some (.bool want)) (hx : lks l args = some vs) (c : FnV P h f vs.toArray v) (hd : Nat.blt d nn = true)
    (k : SL P nn E ops Q rest ((d, v) :: l) h M) : SL P nn E ops Q (⟨some d, .call { callee := .value (.func f), args := args.toArray, argTypes := ats }, ty, pos, aft, some (j, want)⟩ :: rest) l h M := fun a w ha hi => by
  refine wpList_step fun K hK => ?_
  rw [wanted_of ha.ev hj hb, beq_self_eq_true, if_pos rfl]
  unfold Oper.wp
  rw [run_call ha.ev hx w, Oper.upon_enter]
  have hg : Good w h ([] ++ M) := hi.good
  refine (c w hg.left).mono ?_
  rintro e w' ⟨u, h', M', rfl, hi', rfl, rfl, rfl⟩
  exact hK _ _ (k _ w' (ha.put hd _) (hi.next (Good.app (M := []) hg hi'.good hi'.step) (hi'.step.app M)))

/-! ### entering and leaving -/
theorem Fn.enter {f : Nat} {fn : Func} {c : Code} {n : Nat} {vs : List Value} {l0 : Fr} {post : Value → GH → Blks → Prop} (hf : P.funcs[f]? = some fn) (hb : fn.body = some c) (hn : fn.ntmps = n) (hl : argF 0 vs = some l0) (hvn : Nat.ble vs.length n = true)
    (k : ∀ w, Good w h M → St P n ⟨w, h, M⟩ c (bodyPost P fn (Post ⟨w, h, M⟩ post)) l0 h M) : Fn P h M f vs.toArray post := fun w g => by
  refine calls_of_wp hf hb (k w g _ w ⟨rfl, ?_, ?_⟩ ⟨g, Step.refl _ _ _⟩)
  · have := Nat.le_of_ble_eq_true hvn
    simp only [hn, Array.size_append, List.size_toArray, Array.size_replicate]; omega
  · have gen : ∀ (us : List Value) (i : Nat) (l0 : Fr), argF i us = some l0 → ∀ t v, lk l0 t = some v → i ≤ t ∧ us[t - i]? = some v := by
      intro us
      induction us with
      | nil => intro i l0 h t v ht; simp only [argF] at h; injection h with h; subst h; cases ht
      | cons u us ih =>
        intro i l0 h t v ht
        simp only [argF] at h
        cases hr : argF (i + 1) us with
        | none => rw [hr] at h; cases h
        | some r =>
          rw [hr] at h
          injection h with h
          subst h
          simp only [lk] at ht
          cases hb : Nat.beq i t with
          | true => rw [hb] at ht; have := Nat.eq_of_beq_eq_true hb; subst this; simp only [cond_true] at ht; injection ht with ht; subst ht; simp
          | false =>
            rw [hb] at ht
            obtain ⟨h1, h2⟩ := ih (i + 1) r hr t v ht
            refine ⟨by omega, ?_⟩
            rw [show t - i = (t - (i + 1)) + 1 by omega]
            simpa using h2
    intro t v ht
    obtain ⟨_, h2⟩ := gen vs 0 l0 hl t v ht
    have hlt : t < vs.length := (List.getElem?_eq_some_iff.1 (by simpa using h2)).1
    rw [Array.getElem?_append_left (by simpa using hlt)]
    simpa using h2
theorem Qs.ret1 {fn : Func} {t : Nat} {v : Value} {post : Value → GH → Blks → Prop} {e : Exit} (he : e = .ret ∨ e = .normal) (hr : fn.results = #[.tmp t]) (hv : lk l t = some v) (R : Blks) (hs : R.Sublist M) (hp : post v h R) :
    Qs nn E (bodyPost P fn (Post E post)) e l h M := fun a w ha hi => by
  have h1 : (results fn a.tmps).run P w = .ok v w := by
    rw [results_tmp hr]
    have := ha.ev t v hv
    simp [Array.getD_eq_getD_getElem?, this]
  rcases he with rfl | rfl <;> exact ⟨ha.defers, v, h1, v, h, R, rfl, hi.sublist hs, hp⟩
theorem Qs.retV {fn : Func} {t : Nat} {v : Value} {h0 : GH} (hE : E.h0 = h0) (hr : fn.results = #[.tmp t]) (hv : lk l t = some v) :
    Qs nn E (bodyPost P fn (Post E fun u h' M' => u = v ∧ h' = h0 ∧ M' = [])) .ret l h M := fun a w ha hi => by
  subst hE
  have h1 : (results fn a.tmps).run P w = .ok v w := by
    rw [results_tmp hr]
    have := ha.ev t v hv
    simp [Array.getD_eq_getD_getElem?, this]
  exact ⟨ha.defers, v, h1, v, E.h0, [], rfl, hi.back.sublist (List.nil_sublist _), rfl, rfl, rfl⟩
theorem Qs.retV2 {fn : Func} {t1 t2 : Nat} {v1 v2 : Value} {h0 : GH} (hE : E.h0 = h0) (hr : fn.results = #[.tmp t1, .tmp t2]) (hv1 : lk l t1 = some v1) (hv2 : lk l t2 = some v2) :
    Qs nn E (bodyPost P fn (Post E fun u h' M' => u = .tuple #[v1, v2] ∧ h' = h0 ∧ M' = [])) .ret l h M := fun a w ha hi => by
  subst hE
  have h1 : (results fn a.tmps).run P w = .ok (.tuple #[v1, v2]) w := by
    rw [results_tmp2 hr]
    have := ha.ev t1 v1 hv1
    have := ha.ev t2 v2 hv2
    simp [Array.getD_eq_getD_getElem?, *]
  exact ⟨ha.defers, _, h1, _, E.h0, [], rfl, hi.back.sublist (List.nil_sublist _), rfl, rfl, rfl⟩
theorem Qs.retP {fn : Func} {t : Nat} {v : Value} {post : Value → GH → Prop} (hr : fn.results = #[.tmp t]) (hv : lk l t = some v) (hp : post v h) :
    Qs nn E (bodyPost P fn (Post E fun u h' M' => post u h' ∧ M' = [])) .ret l h M := Qs.ret1 (.inl rfl) hr hv [] (List.nil_sublist _) ⟨hp, rfl⟩
/-- A block of the call's own is not written any more. -/
theorem St.freeze {c : Code} {b : Nat} {o : Obj} {R : Blks} (i : M.Perm ((b, o) :: R)) (hM : ∀ q ∈ E.M0, ∃ p ∈ R, p.1 = q.1) (k : ∀ h', GH.le h h' → h' b = some o → St P nn E c Q l h' R) : St P nn E c Q l h M := fun a w ha hi => by
  have hi' := hi.perm i
  have hne : ∀ q ∈ E.M0, q.1 ≠ b := fun q hq e => by
    obtain ⟨p, hp, e'⟩ := hM q hq
    exact (List.pairwise_cons.1 hi'.good.dis).1 p hp (by simp only []; rw [e', e])
  exact k (h.ins b o) (GH.le_ins (hi'.good.sep (b, o) (by simp))) (GH.ins_at _ _ _) a w ha ⟨hi'.good.freeze, hi'.step.freeze hi'.good hne⟩
theorem SL.freeze {b : Nat} {o : Obj} {R : Blks} (i : M.Perm ((b, o) :: R)) (hM : ∀ q ∈ E.M0, ∃ p ∈ R, p.1 = q.1) (k : ∀ h', GH.le h h' → h' b = some o → SL P nn E ops Q rest l h' R) : SL P nn E ops Q rest l h M := fun a w ha hi => by
  have hi' := hi.perm i
  have hne : ∀ q ∈ E.M0, q.1 ≠ b := fun q hq e => by
    obtain ⟨p, hp, e'⟩ := hM q hq
    exact (List.pairwise_cons.1 hi'.good.dis).1 p hp (by simp only []; rw [e', e])
  exact k (h.ins b o) (GH.le_ins (hi'.good.sep (b, o) (by simp))) (GH.ins_at _ _ _) a w ha ⟨hi'.good.freeze, hi'.step.freeze hi'.good hne⟩
/-! ### which operation stands next -/
theorem SL.isN {d : Nat} {op : Op} (k : SL P nn E ops Q (⟨some d, op, ty, pos, aft, none⟩ :: rest) l h M) : SL P nn E ops Q (⟨some d, op, ty, pos, aft, none⟩ :: rest) l h M := k
theorem SL.isG {d : Nat} {op : Op} {g : Nat × Bool} (k : SL P nn E ops Q (⟨some d, op, ty, pos, aft, some g⟩ :: rest) l h M) : SL P nn E ops Q (⟨some d, op, ty, pos, aft, some g⟩ :: rest) l h M := k
theorem SL.isSt {op : Op} (k : SL P nn E ops Q (⟨none, op, ty, pos, aft, none⟩ :: rest) l h M) : SL P nn E ops Q (⟨none, op, ty, pos, aft, none⟩ :: rest) l h M := k
theorem SL.isBin {d : Option Nat} {op : BinOp} {x y : Operand} {xt yt : TypeId} {g : Option (Nat × Bool)} (k : SL P nn E ops Q (⟨d, .binOp op xt x y yt, ty, pos, aft, g⟩ :: rest) l h M) : SL P nn E ops Q (⟨d, .binOp op xt x y yt, ty, pos, aft, g⟩ :: rest) l h M := k
theorem SL.isLd {d : Option Nat} {t : TypeId} {x : Operand} {g : Option (Nat × Bool)} (k : SL P nn E ops Q (⟨d, .load t x, ty, pos, aft, g⟩ :: rest) l h M) : SL P nn E ops Q (⟨d, .load t x, ty, pos, aft, g⟩ :: rest) l h M := k
theorem SL.isTa {d : Option Nat} {x : Operand} {t u : TypeId} {b : Bool} {g : Option (Nat × Bool)} (k : SL P nn E ops Q (⟨d, .typeAssert x t u b, ty, pos, aft, g⟩ :: rest) l h M) : SL P nn E ops Q (⟨d, .typeAssert x t u b, ty, pos, aft, g⟩ :: rest) l h M := k
theorem SL.isCall {d : Option Nat} {c : Call} {g : Option (Nat × Bool)} (k : SL P nn E ops Q (⟨d, .call c, ty, pos, aft, g⟩ :: rest) l h M) : SL P nn E ops Q (⟨d, .call c, ty, pos, aft, g⟩ :: rest) l h M := k
theorem SL.isSL (k : SL P nn E ops Q rest l h M) : SL P nn E ops Q rest l h M := k
theorem St.isSt {c : Code} (k : St P nn E c Q l h M) : St P nn E c Q l h M := k
theorem Qs.isQs {e : Exit} (k : Qs nn E Q e l h M) : Qs nn E Q e l h M := k
end
end Go.Proofs.YtfookachkcgdpaaDoor
