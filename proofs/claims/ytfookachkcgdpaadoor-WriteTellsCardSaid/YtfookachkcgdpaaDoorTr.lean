/- The reference's trees: how they lie, and what is said of them. Plain theorems; no condition. -/
import Derived.Test.YtfookachkcgdpaaDoorWr
set_option linter.unusedVariables false
set_option linter.unusedSimpArgs false
set_option maxRecDepth 100000
set_option maxHeartbeats 8000000
namespace Go.Proofs.YtfookachkcgdpaaDoor
open Go.RowKit

inductive Tr where
  | t0 (k : Int) (s : ByteArray) (n : Int)
  | t1 (k : Int) (s : ByteArray) (n : Int) (a : Tr)
  | t2 (k : Int) (s : ByteArray) (n : Int) (a b : Tr)
  | t3 (k : Int) (s : ByteArray) (n : Int) (a b c : Tr)
def Tr.kind : Tr → Int
  | .t0 k _ _ => k | .t1 k _ _ _ => k | .t2 k _ _ _ _ => k | .t3 k _ _ _ _ _ => k
def Tr.s : Tr → ByteArray
  | .t0 _ s _ => s | .t1 _ s _ _ => s | .t2 _ s _ _ _ => s | .t3 _ s _ _ _ _ => s
def Tr.n : Tr → Int
  | .t0 _ _ n => n | .t1 _ _ n _ => n | .t2 _ _ n _ _ => n | .t3 _ _ n _ _ _ => n
/-- The four cells of a tree. -/
def fl (k : Int) (s : ByteArray) (n : Int) (K : Value) : List Value := [.int .i64 k, .string s, .int .i64 n, K]
/-- A tree lies in what is held still: its slice of kids. -/
def TK_ (h : GH) : Tr → Value → Prop
  | .t0 _ _ _, K => Sl h K 0 []
  | .t1 _ _ _ a, K => ∃ A, TK_ h a A ∧ Sl h K 1 (fl a.kind a.s a.n A)
  | .t2 _ _ _ a b, K => ∃ A B, TK_ h a A ∧ TK_ h b B ∧ Sl h K 2 (fl a.kind a.s a.n A ++ fl b.kind b.s b.n B)
  | .t3 _ _ _ a b c, K => ∃ A B C, TK_ h a A ∧ TK_ h b B ∧ TK_ h c C ∧ Sl h K 3 (fl a.kind a.s a.n A ++ (fl b.kind b.s b.n B ++ fl c.kind c.s c.n C))
theorem TK_.le {h h' : GH} (hle : GH.le h h') : ∀ {t : Tr} {K : Value}, TK_ h t K → TK_ h' t K := by
  intro t
  induction t with
  | t0 k s n => intro K x; exact Sl.le x hle
  | t1 k s n a i1 => rintro K ⟨A, x, y⟩; exact ⟨A, i1 x, y.le hle⟩
  | t2 k s n a b i1 i2 => rintro K ⟨A, B, x, y, z⟩; exact ⟨A, B, i1 x, i2 y, z.le hle⟩
  | t3 k s n a b c i1 i2 i3 => rintro K ⟨A, B, C, x, y, z, u⟩; exact ⟨A, B, C, i1 x, i2 y, i3 z, u.le hle⟩
def TrV (t : Tr) (K : Value) : Value := .agg (fl t.kind t.s t.n K).toArray
def rcnt : Tr → Nat
  | .t0 _ _ _ => 1
  | .t1 _ _ _ a => rcnt a + 1
  | .t2 _ _ _ a b => rcnt a + rcnt b + 1
  | .t3 _ _ _ a b c => rcnt a + rcnt b + rcnt c + 1
def rsize : Tr → Int × Int
  | .t0 k _ _ => if k = 0 then (0, 0) else (1, 1)
  | .t1 k _ _ a => if k = 0 then (0, 0) else (1 + (rsize a).1, mx 0 (rsize a).2 + 1)
  | .t2 k _ _ a b => if k = 0 then (0, 0) else (1 + (rsize a).1 + (rsize b).1, mx (mx 0 (rsize a).2) (rsize b).2 + 1)
  | .t3 k _ _ a b c => if k = 0 then (0, 0) else (1 + (rsize a).1 + (rsize b).1 + (rsize c).1, mx (mx (mx 0 (rsize a).2) (rsize b).2) (rsize c).2 + 1)
theorem rsize_le (t : Tr) : 0 ≤ (rsize t).1 ∧ (rsize t).1 ≤ rcnt t ∧ 0 ≤ (rsize t).2 ∧ (rsize t).2 ≤ rcnt t := by
  induction t <;> simp only [rsize, rcnt, mx] <;> (repeat' split) <;> simp only [] <;> omega
def Tr.kids : Tr → List Tr
  | .t0 _ _ _ => [] | .t1 _ _ _ a => [a] | .t2 _ _ _ a b => [a, b] | .t3 _ _ _ a b c => [a, b, c]
theorem rkids_cnt {t a : Tr} (h : a ∈ t.kids) : rcnt a < rcnt t := by
  cases t <;> simp [Tr.kids] at h
  · subst h; simp only [rcnt]; omega
  · rcases h with rfl | rfl <;> simp only [rcnt] <;> omega
  · rcases h with rfl | rfl | rfl <;> simp only [rcnt] <;> omega
theorem rkids_len (t : Tr) : t.kids.length ≤ 3 := by cases t <;> simp [Tr.kids]
/-- Where a kid lies. -/
def KidAt (h : GH) (A : Option Addr) (i : Nat) (a : Tr) : Prop := ∃ kb off ar te fr Ki, A = some ⟨kb, off, none⟩ ∧ h kb = some (.cells ar te fr) ∧ TK_ h a Ki ∧ ∀ j v, (fl a.kind a.s a.n Ki)[j]? = some v → ar[off + i * 4 + j]? = some v
theorem fl_at {k n k2 n2 : Int} {s s2 : ByteArray} {K K2 : Value} {l : List Value} {j : Nat} {v : Value} (hj : (fl k s n K)[j]? = some v) : (fl k s n K ++ l)[j]? = some v ∧ (fl k2 s2 n2 K2 ++ (fl k s n K ++ l))[4 + j]? = some v := by
  have : j < 4 := by have := List.getElem?_eq_some_iff.1 hj; simpa [fl] using this.1
  constructor
  · rw [List.getElem?_append_left (by simpa [fl] using this)]; exact hj
  · rw [List.getElem?_append_right (by simp [fl])]
    rw [List.getElem?_append_left (by simp [fl]; omega)]
    simpa [fl] using hj
theorem TK_.view {h : GH} {t : Tr} {K : Value} (hK : TK_ h t K) : ∃ A c, K = .slice A t.kids.length c ∧ t.kids.length ≤ c ∧ ∀ i a, t.kids[i]? = some a → KidAt h A i a := by
  cases t with
  | t0 k s n =>
    obtain ⟨A, c, rfl, h1, h2⟩ := hK
    exact ⟨A, c, rfl, h1, fun i a hi => by simp [Tr.kids] at hi⟩
  | t1 k s n a =>
    obtain ⟨KA, hA, A, c, rfl, h1, h2⟩ := hK
    refine ⟨A, c, rfl, h1, fun i x hi => ?_⟩
    obtain ⟨kb, off, ar, te, fr, rfl, hb, hat⟩ := h2 (by simp [fl])
    match i with
    | 0 => simp only [Tr.kids, List.getElem?_cons_zero, Option.some.injEq] at hi; subst hi; exact ⟨kb, off, ar, te, fr, KA, rfl, hb, hA, fun j v hj => by have := hat j v hj; simpa using this⟩
    | i + 1 => simp [Tr.kids] at hi
  | t2 k s n a b =>
    obtain ⟨KA, KB, hA, hB, A, c, rfl, h1, h2⟩ := hK
    refine ⟨A, c, rfl, h1, fun i x hi => ?_⟩
    obtain ⟨kb, off, ar, te, fr, rfl, hb, hat⟩ := h2 (by simp [fl])
    match i with
    | 0 => simp only [Tr.kids, List.getElem?_cons_zero, Option.some.injEq] at hi; subst hi; exact ⟨kb, off, ar, te, fr, KA, rfl, hb, hA, fun j v hj => by have := hat j v (fl_at (k2 := 0) (n2 := 0) (s2 := ByteArray.empty) (K2 := .nilIface) hj).1; simpa using this⟩
    | 1 => simp only [Tr.kids, List.getElem?_cons_succ, List.getElem?_cons_zero, Option.some.injEq] at hi; subst hi; exact ⟨kb, off, ar, te, fr, KB, rfl, hb, hB, fun j v hj => by have := hat (4 + j) v (by have := (fl_at (l := []) (k2 := a.kind) (n2 := a.n) (s2 := a.s) (K2 := KA) hj).2; simpa using this); simpa [Nat.add_assoc] using this⟩
    | i + 2 => simp [Tr.kids] at hi
  | t3 k s n a b d =>
    obtain ⟨KA, KB, KC, hA, hB, hC, A, c, rfl, h1, h2⟩ := hK
    refine ⟨A, c, rfl, h1, fun i x hi => ?_⟩
    obtain ⟨kb, off, ar, te, fr, rfl, hb, hat⟩ := h2 (by simp [fl])
    match i with
    | 0 => simp only [Tr.kids, List.getElem?_cons_zero, Option.some.injEq] at hi; subst hi; exact ⟨kb, off, ar, te, fr, KA, rfl, hb, hA, fun j v hj => by have := hat j v (fl_at (k2 := 0) (n2 := 0) (s2 := ByteArray.empty) (K2 := .nilIface) hj).1; simpa using this⟩
    | 1 => simp only [Tr.kids, List.getElem?_cons_succ, List.getElem?_cons_zero, Option.some.injEq] at hi; subst hi; exact ⟨kb, off, ar, te, fr, KB, rfl, hb, hB, fun j v hj => by have := hat (4 + j) v ((fl_at (k2 := a.kind) (n2 := a.n) (s2 := a.s) (K2 := KA) hj).2); simpa [Nat.add_assoc] using this⟩
    | 2 => simp only [Tr.kids, List.getElem?_cons_succ, List.getElem?_cons_zero, Option.some.injEq] at hi; subst hi; exact ⟨kb, off, ar, te, fr, KC, rfl, hb, hC, fun j v hj => by
        have e := (fl_at (l := []) (k2 := b.kind) (n2 := b.n) (s2 := b.s) (K2 := KB) hj).2
        have := hat (8 + j) v (by rw [List.getElem?_append_right (by simp [fl]; omega)]; have e4 : 8 + j - (fl a.kind a.s a.n KA).length = 4 + j := by simp [fl]; omega
                                  rw [e4]; simpa using e)
        simpa [Nat.add_assoc] using this⟩
    | i + 3 => simp [Tr.kids] at hi
attribute [local irreducible] St SL Qs NOp TK SQ RS Fn FnV FnP

def rstep (p : Int × Int) (a : Tr) : Int × Int := (p.1 + (rsize a).1, mx p.2 (rsize a).2)
theorem rsize_eq (t : Tr) : rsize t = if t.kind = 0 then (0, 0) else (((t.kids.foldl rstep (1, 0))).1, (t.kids.foldl rstep (1, 0)).2 + 1) := by
  cases t <;> rfl
def rsum (l : List Tr) : Nat := (l.map rcnt).sum
theorem rkids_sum (t : Tr) : rcnt t = rsum t.kids + 1 := by cases t <;> simp [rcnt, rsum, Tr.kids]; omega
theorem rstep_le (l : List Tr) : ∀ p : Int × Int, 0 ≤ p.1 → 0 ≤ p.2 → 0 ≤ (l.foldl rstep p).1 ∧ (l.foldl rstep p).1 ≤ p.1 + rsum l ∧ 0 ≤ (l.foldl rstep p).2 ∧ (l.foldl rstep p).2 ≤ p.2 + rsum l := by
  induction l with
  | nil => intro p h1 h2; simp [rsum]; omega
  | cons a l ih =>
    intro p h1 h2
    have b := rsize_le a
    have := ih (rstep p a) (by simp only [rstep]; omega) (by simp only [rstep, mx]; split <;> omega)
    simp only [List.foldl_cons, rsum, List.map_cons, List.sum_cons] at this ⊢
    have e1 : (rstep p a).1 = p.1 + (rsize a).1 := rfl
    have e2 : (rstep p a).2 ≤ p.2 + rcnt a := by simp only [rstep, mx]; split <;> omega
    omega
theorem RSize_v : ∀ m (t : Tr), rcnt t ≤ m → m ≤ 1000000 → ∀ (h : GH) (K : Value), TK_ h t K → FnV Tryd.prog h 27 [TrV t K].toArray (.tuple #[.int .i64 (rsize t).1, .int .i64 (rsize t).2]) := by
  intro m
  induction m with
  | zero => intro t ht; exfalso; have := rkids_sum t; omega
  | succ m ih =>
    intro t ht hm h K hK
    obtain ⟨A, c, rfl, hc, hkid⟩ := hK.view
    have hsum := rkids_sum t
    have hle3 := rkids_len t
    refine FnV.enter Tryd.func27 rfl rfl rfl rfl fun w hg => ?_
    simp only [TrV, fl]
    repeat' (first | (refine SL.isSL ?_; first | (refine SL.isN ?_; first | refine SL.nA ?_ | refine SL.alloc rfl rfl (fun b => ?_) | refine SL.box rfl rfl rfl (fun b => ?_)) | (refine SL.isG ?_; first | refine SL.gF rfl rfl rfl ?_ | refine SL.gU rfl rfl rfl ?_ | refine SL.gA ?_) | (refine SL.isSt ?_; refine SL.stA ?_) | refine SL.nil ?_ | (refine SL.isG ?_; first | refine SL.gCase rfl rfl (fun e => ?_) (fun e => ?_) | refine SL.gCaseN rfl rfl (fun e => ?_) (fun e => ?_))) | (refine St.isSt ?_; first | refine St.seq ?_ | refine St.region ?_ | refine St.block ?_ | refine St.ret ?_ | refine St.skip ?_ | refine St.exit ?_ | refine St.condT rfl ?_ | refine St.condF rfl ?_ | refine St.condY rfl (by omega) ?_ | refine St.condZ rfl (by omega) ?_) | (refine Qs.isQs ?_; first | refine Qs.then_normal ?_ | refine Qs.then_rounds ?_ | refine Qs.then_ret ?_ | refine Qs.then_exit ?_ | refine Qs.block_normal ?_ | refine Qs.block_ret ?_ | refine Qs.block_here ?_ | refine Qs.block_other rfl ?_) | refine RS.step ?_)
    refine St.condD rfl (fun e => ?_) (fun e => ?_)
    · repeat' (first | (refine SL.isSL ?_; first | (refine SL.isN ?_; first | refine SL.nA ?_ | refine SL.alloc rfl rfl (fun b => ?_) | refine SL.box rfl rfl rfl (fun b => ?_)) | (refine SL.isG ?_; first | refine SL.gF rfl rfl rfl ?_ | refine SL.gU rfl rfl rfl ?_ | refine SL.gA ?_) | (refine SL.isSt ?_; refine SL.stA ?_) | refine SL.nil ?_ | (refine SL.isG ?_; first | refine SL.gCase rfl rfl (fun e => ?_) (fun e => ?_) | refine SL.gCaseN rfl rfl (fun e => ?_) (fun e => ?_))) | (refine St.isSt ?_; first | refine St.seq ?_ | refine St.region ?_ | refine St.block ?_ | refine St.ret ?_ | refine St.skip ?_ | refine St.exit ?_ | refine St.condT rfl ?_ | refine St.condF rfl ?_ | refine St.condY rfl (by omega) ?_ | refine St.condZ rfl (by omega) ?_) | (refine Qs.isQs ?_; first | refine Qs.then_normal ?_ | refine Qs.then_rounds ?_ | refine Qs.then_ret ?_ | refine Qs.then_exit ?_ | refine Qs.block_normal ?_ | refine Qs.block_ret ?_ | refine Qs.block_here ?_ | refine Qs.block_other rfl ?_) | refine RS.step ?_)
      refine Qs.retV2 rfl rfl (lk_eq rfl ?_) (lk_eq rfl ?_)
      · rw [rsize_eq, if_pos e]
      · rw [rsize_eq, if_pos e]
    · have e0 := e
      generalize hks : t.kids = ks at hc hkid hsum hle3 ⊢
      repeat' (first | (refine SL.isSL ?_; first | (refine SL.isN ?_; first | refine SL.nA ?_ | refine SL.alloc rfl rfl (fun b => ?_) | refine SL.box rfl rfl rfl (fun b => ?_)) | (refine SL.isG ?_; first | refine SL.gF rfl rfl rfl ?_ | refine SL.gU rfl rfl rfl ?_ | refine SL.gA ?_) | (refine SL.isSt ?_; refine SL.stA ?_) | refine SL.nil ?_ | (refine SL.isG ?_; first | refine SL.gCase rfl rfl (fun e => ?_) (fun e => ?_) | refine SL.gCaseN rfl rfl (fun e => ?_) (fun e => ?_))) | (refine St.isSt ?_; first | refine St.seq ?_ | refine St.region ?_ | refine St.block ?_ | refine St.ret ?_ | refine St.skip ?_ | refine St.exit ?_ | refine St.condT rfl ?_ | refine St.condF rfl ?_ | refine St.condY rfl (by omega) ?_ | refine St.condZ rfl (by omega) ?_) | (refine Qs.isQs ?_; first | refine Qs.then_normal ?_ | refine Qs.then_rounds ?_ | refine Qs.then_ret ?_ | refine Qs.then_exit ?_ | refine Qs.block_normal ?_ | refine Qs.block_ret ?_ | refine Qs.block_here ?_ | refine Qs.block_other rfl ?_) | refine RS.step ?_)
      refine St.loop (α := List Tr × List Tr) (fun p => [(1, .pointer (some ⟨b, 0, none⟩)), (4, .int .i64 (p.1.foldl rstep (1, 0)).1), (5, .int .i64 (p.1.foldl rstep (1, 0)).2), (14, .int .i64 ks.length), (15, .int .i64 p.1.length)]) (fun _ => h) (fun _ => [(b, cel [.int .i64 t.kind, .string t.s, .int .i64 t.n, .slice A ks.length c] 29)]) (fun p => ks = p.1 ++ p.2) (fun p => p.2.length) ([], ks) rfl rfl (by rfl) (by repeat (first | exact trivial | refine ⟨rfl, ?_⟩)) ?_
      rintro ⟨pre, rest⟩ e
      dsimp only at e ⊢
      have hp := rstep_le pre (1, 0) (by simp) (by simp)
      have hps : rsum ks = rsum pre + rsum rest := by rw [e]; simp [rsum]
      have hpl : ks.length = pre.length + rest.length := by rw [e]; simp
      cases rest with
      | nil =>
        simp only [List.length_nil] at hpl
        repeat' (first | (refine SL.isSL ?_; first | (refine SL.isN ?_; first | refine SL.nA ?_ | refine SL.alloc rfl rfl (fun b => ?_) | refine SL.box rfl rfl rfl (fun b => ?_)) | (refine SL.isG ?_; first | refine SL.gF rfl rfl rfl ?_ | refine SL.gU rfl rfl rfl ?_ | refine SL.gA ?_) | (refine SL.isSt ?_; refine SL.stA ?_) | refine SL.nil ?_ | (refine SL.isG ?_; first | refine SL.gCase rfl rfl (fun e => ?_) (fun e => ?_) | refine SL.gCaseN rfl rfl (fun e => ?_) (fun e => ?_))) | (refine St.isSt ?_; first | refine St.seq ?_ | refine St.region ?_ | refine St.block ?_ | refine St.ret ?_ | refine St.skip ?_ | refine St.exit ?_ | refine St.condT rfl ?_ | refine St.condF rfl ?_ | refine St.condY rfl (by omega) ?_ | refine St.condZ rfl (by omega) ?_) | (refine Qs.isQs ?_; first | refine Qs.then_normal ?_ | refine Qs.then_rounds ?_ | refine Qs.then_ret ?_ | refine Qs.then_exit ?_ | refine Qs.block_normal ?_ | refine Qs.block_ret ?_ | refine Qs.block_here ?_ | refine Qs.block_other rfl ?_) | refine RS.step ?_)
        refine Qs.retV2 rfl rfl (lk_eq rfl ?_) (lk_eq rfl ?_)
        · rw [rsize_eq, if_neg e0, hks, e]; simp
        · rw [rsize_eq, if_neg e0, hks, e]; simp
      | cons a rest =>
        obtain ⟨kb, off, ar, te, fr, Ki, rfl, hb, hTK, hat⟩ := hkid pre.length a (by rw [e]; simp)
        have hmem : a ∈ t.kids := by rw [hks, e]; simp
        have hca := rkids_cnt hmem
        have ha := ih a (by omega) (by omega) h Ki hTK
        have hra := rsize_le a
        simp only [List.length_cons] at hpl
        have hrs : rsum (a :: rest) = rcnt a + rsum rest := by simp [rsum]
        have hat' : ∀ j v, (fl a.kind a.s a.n Ki)[j]? = some v → ar[off + (pre.length : Int).toNat * 4 + j]? = some v := by simpa using hat
        repeat' (first | refine SL.n (NOp.idx rfl rfl (by omega)) rfl ?_ | refine SL.n (NOp.ldHA (vs := fl a.kind a.s a.n Ki) rfl hb rfl hat') rfl ?_ | refine SL.callV rfl ha rfl ?_ | refine SL.n (NOp.max2 rfl rfl) rfl ?_ | (refine SL.isSL ?_; first | (refine SL.isN ?_; first | refine SL.nA ?_ | refine SL.alloc rfl rfl (fun b => ?_) | refine SL.box rfl rfl rfl (fun b => ?_)) | (refine SL.isG ?_; first | refine SL.gF rfl rfl rfl ?_ | refine SL.gU rfl rfl rfl ?_ | refine SL.gA ?_) | (refine SL.isSt ?_; refine SL.stA ?_) | refine SL.nil ?_ | (refine SL.isG ?_; first | refine SL.gCase rfl rfl (fun e => ?_) (fun e => ?_) | refine SL.gCaseN rfl rfl (fun e => ?_) (fun e => ?_))) | (refine St.isSt ?_; first | refine St.seq ?_ | refine St.region ?_ | refine St.block ?_ | refine St.ret ?_ | refine St.skip ?_ | refine St.exit ?_ | refine St.condT rfl ?_ | refine St.condF rfl ?_ | refine St.condY rfl (by omega) ?_ | refine St.condZ rfl (by omega) ?_) | (refine Qs.isQs ?_; first | refine Qs.then_normal ?_ | refine Qs.then_rounds ?_ | refine Qs.then_ret ?_ | refine Qs.then_exit ?_ | refine Qs.block_normal ?_ | refine Qs.block_ret ?_ | refine Qs.block_here ?_ | refine Qs.block_other rfl ?_) | refine RS.step ?_)
        refine Some_.intro (pre ++ [a], rest) ⟨by rw [e]; simp, by dsimp only; simp⟩ (fun _ _ x => x) rfl rfl ?_
        refine ⟨rfl, lk_eq rfl ?_, lk_eq rfl ?_, rfl, lk_eq rfl ?_, trivial⟩
        · simp [rstep]
        · simp [rstep, mx]
        · simp
end Go.Proofs.YtfookachkcgdpaaDoor
