/- The reference's text of a tree. Plain theorems; no condition. -/
import Derived.Test.YtfookachkcgdpaaDoorDi
set_option linter.unusedVariables false
set_option linter.unusedSimpArgs false
set_option maxRecDepth 100000
set_option maxHeartbeats 8000000
namespace Go.Proofs.YtfookachkcgdpaaDoor
open Go.RowKit

def rhead (k : Int) (s : ByteArray) (n : Int) : ByteArray × ByteArray :=
  let w := wordOf k ++ ⟨#[40]⟩
  let p := if k = 2 ∨ k = 5 ∨ k = 12 then (w ++ s, ⟨#[44]⟩) else (w, ByteArray.empty)
  if k = 7 then (p.1 ++ bitoa n, ⟨#[44]⟩) else p
def rput (p : ByteArray × ByteArray) (x : ByteArray) : ByteArray × ByteArray := (p.1 ++ p.2 ++ x, ⟨#[44]⟩)
def rlay (k : Int) (s : ByteArray) (n : Int) (l : List ByteArray) : ByteArray := if k = 11 then bitoa n else if k = 1 then ⟨#[122, 101, 114, 111]⟩ else (l.foldl rput (rhead k s n)).1 ++ ⟨#[41]⟩
def rtext : Tr → ByteArray
  | .t0 k s n => rlay k s n []
  | .t1 k s n a => rlay k s n [rtext a]
  | .t2 k s n a b => rlay k s n [rtext a, rtext b]
  | .t3 k s n a b c => rlay k s n [rtext a, rtext b, rtext c]
theorem rtext_eq (t : Tr) : rtext t = rlay t.kind t.s t.n (t.kids.map rtext) := by cases t <;> rfl
def i64Q (n : Int) : Prop := -9223372036854775807 ≤ n ∧ n ≤ 9223372036854775807
/-- A node that can be written. -/
def nodeP (k n : Int) : Prop := 0 ≤ k ∧ k < 17 ∧ ((k = 11 ∨ k = 7) → i64Q n)
def rokT : Tr → Prop
  | .t0 k _ n => nodeP k n
  | .t1 k _ n a => nodeP k n ∧ rokT a
  | .t2 k _ n a b => nodeP k n ∧ rokT a ∧ rokT b
  | .t3 k _ n a b c => nodeP k n ∧ rokT a ∧ rokT b ∧ rokT c
def rtsz : Tr → Nat
  | .t0 _ s _ => s.size + 50
  | .t1 _ s _ a => s.size + rtsz a + 50
  | .t2 _ s _ a b => s.size + rtsz a + rtsz b + 50
  | .t3 _ s _ a b c => s.size + rtsz a + rtsz b + rtsz c + 50
theorem rok_node {t : Tr} (h : rokT t) : nodeP t.kind t.n := by cases t <;> first | exact h | exact h.1
theorem rok_kid {t a : Tr} (h : rokT t) (ha : a ∈ t.kids) : rokT a := by
  cases t <;> simp [Tr.kids] at ha
  · subst ha; exact h.2
  · rcases ha with rfl | rfl
    · exact h.2.1
    · exact h.2.2
  · rcases ha with rfl | rfl | rfl
    · exact h.2.1
    · exact h.2.2.1
    · exact h.2.2.2
def rtsum (l : List Tr) : Nat := (l.map rtsz).sum
theorem rtsz_eq (t : Tr) : rtsz t = t.s.size + rtsum t.kids + 50 := by cases t <;> simp [rtsz, rtsum, Tr.kids, Tr.s] <;> omega
theorem word_size {k : Int} (h0 : 0 ≤ k) (h1 : k < 17) : (wordOf k).size ≤ 5 := by
  have : ∀ i : Nat, i < 17 → (words.getD i ByteArray.empty).size ≤ 5 := by decide
  exact this k.toNat (by omega)
def bsz (l : List ByteArray) : Nat := (l.map (·.size + 1)).sum
theorem rput_size (l : List ByteArray) : ∀ p : ByteArray × ByteArray, p.2.size ≤ 1 → (l.foldl rput p).1.size ≤ p.1.size + bsz l ∧ (l.foldl rput p).2.size ≤ 1 := by
  induction l with
  | nil => intro p hp; simp [bsz, hp]
  | cons x l ih =>
    intro p hp
    have e : (⟨#[44]⟩ : ByteArray).size = 1 := rfl
    have := ih (rput p x) (by simp [rput, e])
    simp only [List.foldl_cons, bsz, List.map_cons, List.sum_cons, rput, ByteArray.size_append] at this ⊢
    omega
theorem rhead_size (k : Int) (s : ByteArray) (n : Int) (h : nodeP k n) : (rhead k s n).1.size ≤ s.size + 6 + 21 ∧ (rhead k s n).2.size ≤ 1 := by
  have hw := word_size h.1 h.2.1
  have e : (⟨#[44]⟩ : ByteArray).size = 1 := rfl
  have e2 : (⟨#[40]⟩ : ByteArray).size = 1 := rfl
  have e3 : ByteArray.empty.size = 0 := rfl
  have hb : k = 7 → (bitoa n).size ≤ 21 := fun e => bitoa_size n (by have := (h.2.2 (.inr e)).1; omega) (h.2.2 (.inr e)).2
  unfold rhead
  by_cases h7 : k = 7
  · have := hb h7
    have h2 : ¬ (k = 2 ∨ k = 5 ∨ k = 12) := by omega
    simp only [if_neg h2, if_pos h7, ByteArray.size_append, e, e2]
    omega
  · by_cases h2 : k = 2 ∨ k = 5 ∨ k = 12
    · simp only [if_pos h2, if_neg h7, ByteArray.size_append, e, e2]; omega
    · simp only [if_neg h2, if_neg h7, ByteArray.size_append, e, e2, e3]; omega
theorem rlay_size (k : Int) (s : ByteArray) (n : Int) (l : List ByteArray) (h : nodeP k n) : (rlay k s n l).size ≤ s.size + bsz l + 40 := by
  unfold rlay
  have hh := rhead_size k s n h
  have hp := rput_size l _ hh.2
  have e : (⟨#[41]⟩ : ByteArray).size = 1 := rfl
  split
  · rename_i e11
    have := bitoa_size n (by have := (h.2.2 (.inl e11)).1; omega) (h.2.2 (.inl e11)).2
    omega
  · split
    · show 4 ≤ _; omega
    · simp only [ByteArray.size_append, e]; omega
theorem rtext_size (t : Tr) (h : rokT t) : (rtext t).size + 5 ≤ rtsz t := by
  induction t with
  | t0 k s n => have := rlay_size k s n [] h; simp only [rtext, rtsz, bsz, List.map_nil, List.sum_nil] at *; omega
  | t1 k s n a i1 => have := rlay_size k s n [rtext a] h.1; have := i1 h.2; simp only [rtext, rtsz, bsz, List.map_nil, List.map_cons, List.sum_cons, List.sum_nil] at *; omega
  | t2 k s n a b i1 i2 => have := rlay_size k s n [rtext a, rtext b] h.1; have := i1 h.2.1; have := i2 h.2.2; simp only [rtext, rtsz, bsz, List.map_nil, List.map_cons, List.sum_cons, List.sum_nil] at *; omega
  | t3 k s n a b c i1 i2 i3 => have := rlay_size k s n [rtext a, rtext b, rtext c] h.1; have := i1 h.2.1; have := i2 h.2.2.1; have := i3 h.2.2.2; simp only [rtext, rtsz, bsz, List.map_nil, List.map_cons, List.sum_cons, List.sum_nil] at *; omega
end Go.Proofs.YtfookachkcgdpaaDoor
/- What the program writes of a term, of a number, is what the document writes of its plain tree. Plain theorems; no condition. -/
set_option linter.unusedVariables false
set_option linter.unusedSimpArgs false
set_option maxRecDepth 100000
set_option maxHeartbeats 8000000
namespace Go.Proofs.YtfookachkcgdpaaDoor
open Go.RowKit
abbrev bE : ByteArray := ByteArray.empty
def plainO : Tm → Tr
  | .c n => .t0 11 bE n
  | .f s => .t0 12 s 0
  | .p l r => .t2 13 bE 0 (plainO l) (plainO r)
  | .n o => .t1 14 bE 0 (plainO o)
  | .m l r => .t2 15 bE 0 (plainO l) (plainO r)
  | .x l r => .t2 16 bE 0 (plainO l) (plainO r)
  | _ => .t0 0 bE 0
def plainT : Tm → Tr
  | .z => .t0 1 bE 0
  | .o s => .t0 2 s 0
  | .g a => .t1 3 bE 0 (plainT a)
  | .a l r => .t2 4 bE 0 (plainT l) (plainT r)
  | .r s l r => .t2 5 s 0 (plainT l) (plainT r)
  | .s o t => .t2 6 bE 0 (plainO o) (plainT t)
  | .w d t => .t1 7 bE d (plainT t)
  | .i o l r => .t3 8 bE 0 (plainO o) (plainT l) (plainT r)
  | _ => .t0 0 bE 0
/-- May a node be, as a number (true) or as a contract? -/
noncomputable def rkd (k : Int) (s : ByteArray) (n : Int) : Bool :=
  if k = 1 ∨ k = 3 ∨ k = 4 ∨ k = 14 ∨ k = 13 ∨ k = 15 ∨ k = 16 ∨ k = 6 ∨ k = 8 then true else if k = 2 ∨ k = 5 ∨ k = 12 then nameB s else if k = 7 then decide (0 ≤ n ∧ n ≤ 10000) else if k = 11 then decide (validP n) else false
noncomputable def rnode (k : Int) (s : ByteArray) (n : Int) (u : Bool) : Bool := rkd k s n && (decide (11 ≤ k) == u)
def rfst (k : Int) (u : Bool) : Bool := u || (decide (k = 6) || decide (k = 8))
noncomputable def rform : Tr → Bool → Bool
  | .t0 k s n, u => rnode k s n u
  | .t1 k s n a, u => rnode k s n u && rform a (rfst k u)
  | .t2 k s n a b, u => rnode k s n u && (rform a (rfst k u) && rform b u)
  | .t3 k s n a b c, u => rnode k s n u && (rform a (rfst k u) && (rform b u && rform c u))
noncomputable def rcheck (t : Tr) (u : Bool) : Int := if rform t u = false then 2 else if 60 < (rsize t).1 ∨ 12 < (rsize t).2 then 5 else if twice [] (rlabels t) then 4 else 0
noncomputable def rwrite (t : Tr) (u : Bool) : ByteArray × Int := if rcheck t u = 0 then (if 1000 < ((rtext t).size : Int) then (bE, 5) else (rtext t, 0)) else (bE, rcheck t u)

noncomputable def rfk (k : Int) (u : Bool) : List Tr → Bool
  | [] => true
  | a :: l => rform a (rfst k u) && l.all (fun x => rform x u)
theorem rform_eq (t : Tr) (u : Bool) : rform t u = (rnode t.kind t.s t.n u && rfk t.kind u t.kids) := by cases t <;> simp [rform, rfk, Tr.kind, Tr.s, Tr.n, Tr.kids]
theorem rform_o (t : Tm) : rform (plainO t) true = oform t := by
  induction t with
  | c n => simp [plainO, rform, rnode, rkd, oform]
  | f s => simp [plainO, rform, rnode, rkd, oform]
  | p l r i1 i2 => simp [plainO, rform, rnode, rkd, rfst, oform, i1, i2]
  | m l r i1 i2 => simp [plainO, rform, rnode, rkd, rfst, oform, i1, i2]
  | x l r i1 i2 => simp [plainO, rform, rnode, rkd, rfst, oform, i1, i2]
  | n o i1 => simp [plainO, rform, rnode, rkd, rfst, oform, i1]
  | _ => simp [plainO, rform, rnode, rkd, oform]
theorem rform_t (t : Tm) : rform (plainT t) false = tform t := by
  induction t with
  | z => simp [plainT, rform, rnode, rkd, tform]
  | o s => simp [plainT, rform, rnode, rkd, tform]
  | g a i1 => simp [plainT, rform, rnode, rkd, rfst, tform, i1]
  | a l r i1 i2 => simp [plainT, rform, rnode, rkd, rfst, tform, i1, i2]
  | r s l r i1 i2 => simp [plainT, rform, rnode, rkd, rfst, tform, i1, i2]
  | s o t _ i2 => simp [plainT, rform, rnode, rkd, rfst, tform, rform_o, i2]
  | w d t i2 => simp [plainT, rform, rnode, rkd, rfst, tform, i2]
  | i o l r _ i1 i2 => simp [plainT, rform, rnode, rkd, rfst, tform, rform_o, i1, i2]
  | _ => simp [plainT, rform, rnode, rkd, tform]
theorem rsize_o (t : Tm) : rsize (plainO t) = osize t := by
  induction t with
  | p l r i1 i2 => simp only [plainO, rsize, osize, i1, i2]; simp; omega
  | m l r i1 i2 => simp only [plainO, rsize, osize, i1, i2]; simp; omega
  | x l r i1 i2 => simp only [plainO, rsize, osize, i1, i2]; simp; omega
  | n o i1 => simp only [plainO, rsize, osize, i1]; simp; omega
  | _ => simp [plainO, rsize, osize]
theorem rsize_t (t : Tm) : rsize (plainT t) = tsize t := by
  induction t with
  | g a i1 => simp only [plainT, rsize, tsize, i1, add1, join]; simp; omega
  | a l r i1 i2 => simp only [plainT, rsize, tsize, i1, i2, add1, join]; simp; omega
  | r s l r i1 i2 => simp only [plainT, rsize, tsize, i1, i2, add1, join]; simp; omega
  | w d t i1 => simp only [plainT, rsize, tsize, i1, add1, join]; simp; omega
  | s o t _ i2 =>
    have := osize_le o
    have e : mx 0 (osize o).2 = (osize o).2 := by unfold mx; split <;> omega
    simp only [plainT, rsize, tsize, rsize_o, i2, add1, join, e]; simp; omega
  | i o l r _ i1 i2 =>
    have := osize_le o
    have e : mx 0 (osize o).2 = (osize o).2 := by unfold mx; split <;> omega
    simp only [plainT, rsize, tsize, rsize_o, i1, i2, add1, join, e]; simp; omega
  | _ => simp [plainT, rsize, tsize]
theorem rlabels_o (t : Tm) : rlabels (plainO t) = [] := by
  induction t <;> simp [plainO, rlabels, *]
theorem rlabels_t (t : Tm) : rlabels (plainT t) = labels t := by
  induction t <;> simp [plainT, rlabels, labels, rlabels_o, *]
theorem rtext_o (t : Tm) (h : oform t = true) : rtext (plainO t) = onum t := by
  induction t with
  | c n => simp [plainO, rtext, rlay, onum]
  | f s => simp only [plainO, rtext, onum]; apply ByteArray.ext; simp [rlay, rhead, wordOf, words, bcall, bjoin, Lib.join]
  | p l r i1 i2 =>
    simp only [oform, Bool.and_eq_true] at h
    simp only [plainO, rtext, onum, i1 h.1, i2 h.2]; apply ByteArray.ext; simp [rlay, rhead, rput, wordOf, words, bcall, bjoin, Lib.join, List.intercalate]
  | m l r i1 i2 =>
    simp only [oform, Bool.and_eq_true] at h
    simp only [plainO, rtext, onum, i1 h.1, i2 h.2]; apply ByteArray.ext; simp [rlay, rhead, rput, wordOf, words, bcall, bjoin, Lib.join, List.intercalate]
  | x l r i1 i2 =>
    simp only [oform, Bool.and_eq_true] at h
    simp only [plainO, rtext, onum, i1 h.1, i2 h.2]; apply ByteArray.ext; simp [rlay, rhead, rput, wordOf, words, bcall, bjoin, Lib.join, List.intercalate]
  | n o i1 =>
    simp only [oform] at h
    simp only [plainO, rtext, onum, i1 h]; apply ByteArray.ext; simp [rlay, rhead, rput, wordOf, words, bcall, bjoin, Lib.join, List.intercalate]
  | _ => simp [oform] at h
theorem rtext_t (t : Tm) (h : tform t = true) : rtext (plainT t) = ttxt t := by
  induction t with
  | z => simp [plainT, rtext, rlay, ttxt]
  | o s => simp only [plainT, rtext, ttxt]; apply ByteArray.ext; simp [rlay, rhead, wordOf, words, bcall, bjoin, Lib.join]
  | g a i1 =>
    simp only [tform] at h
    simp only [plainT, rtext, ttxt, i1 h]; apply ByteArray.ext; simp [rlay, rhead, rput, wordOf, words, bcall, bjoin, Lib.join, List.intercalate]
  | a l r i1 i2 =>
    simp only [tform, Bool.and_eq_true] at h
    simp only [plainT, rtext, ttxt, i1 h.1, i2 h.2]; apply ByteArray.ext; simp [rlay, rhead, rput, wordOf, words, bcall, bjoin, Lib.join, List.intercalate]
  | r s l r i1 i2 =>
    simp only [tform, Bool.and_eq_true] at h
    simp only [plainT, rtext, ttxt, i1 h.2.1, i2 h.2.2]; apply ByteArray.ext; simp [rlay, rhead, rput, wordOf, words, bcall, bjoin, Lib.join, List.intercalate]
  | s o t _ i2 =>
    simp only [tform, Bool.and_eq_true] at h
    simp only [plainT, rtext, ttxt, rtext_o o h.1, i2 h.2]; apply ByteArray.ext; simp [rlay, rhead, rput, wordOf, words, bcall, bjoin, Lib.join, List.intercalate]
  | w d t i2 =>
    simp only [tform, Bool.and_eq_true] at h
    simp only [plainT, rtext, ttxt, i2 h.2]; apply ByteArray.ext; simp [rlay, rhead, rput, wordOf, words, bcall, bjoin, Lib.join, List.intercalate]
  | i o l r _ i1 i2 =>
    simp only [tform, Bool.and_eq_true] at h
    simp only [plainT, rtext, ttxt, rtext_o o h.1, i1 h.2.1, i2 h.2.2]; apply ByteArray.ext; simp [rlay, rhead, rput, wordOf, words, bcall, bjoin, Lib.join, List.intercalate]
  | _ => simp [tform] at h
theorem rcheck_t (t : Tm) : rcheck (plainT t) false = tcheck t := by simp only [rcheck, tcheck, rform_t, rsize_t, rlabels_t]
theorem rcheck_o (t : Tm) : rcheck (plainO t) true = ocheck t := by simp [rcheck, ocheck, rform_o, rsize_o, rlabels_o, twice]
theorem tcheck_form {t : Tm} (h : tcheck t = 0) : tform t = true := by
  unfold tcheck at h
  cases e : tform t
  · simp [e] at h
  · rfl
theorem ocheck_form {t : Tm} (h : ocheck t = 0) : oform t = true := by
  unfold ocheck at h
  cases e : oform t
  · simp [e] at h
  · rfl
theorem rwrite_t (t : Tm) : rwrite (plainT t) false = wterm t := by
  unfold rwrite wterm
  rw [rcheck_t]
  by_cases h : tcheck t = 0
  · rw [if_pos h, if_pos h, rtext_t t (tcheck_form h)]; rfl
  · rw [if_neg h, if_neg h]
theorem rwrite_o (t : Tm) : rwrite (plainO t) true = wobs t := by
  unfold rwrite wobs
  rw [rcheck_o]
  by_cases h : ocheck t = 0
  · rw [if_pos h, if_pos h, rtext_o t (ocheck_form h)]; rfl
  · rw [if_neg h, if_neg h]
end Go.Proofs.YtfookachkcgdpaaDoor
