/- Spoilt trees: the walk. Plain theorems; no condition. -/
import Derived.Test.YtfookachkcgdpaaDoorPq
import Derived.Test.YtfookachkcgdpaaDoorM6
set_option linter.unusedVariables false
set_option linter.unusedSimpArgs false
set_option maxRecDepth 100000
set_option maxHeartbeats 8000000
namespace Go.Proofs.YtfookachkcgdpaaDoor
open Go.RowKit
def fls (l : List (Tr × Value)) : List Value := (l.map (fun p => fl p.1.kind p.1.s p.1.n p.2)).flatten
theorem fls_app (a b : List (Tr × Value)) : fls (a ++ b) = fls a ++ fls b := by simp [fls]
theorem fls_len (l : List (Tr × Value)) : (fls l).length = l.length * 4 := by
  induction l with
  | nil => rfl
  | cons p l ih =>
    have e : fls (p :: l) = fl p.1.kind p.1.s p.1.n p.2 ++ fls l := rfl
    rw [e, List.length_append, ih, List.length_cons]
    show 4 + _ = _
    omega
theorem TK_.flat {h : GH} {t : Tr} {K : Value} (hK : TK_ h t K) : ∃ l : List (Tr × Value), l.map (·.1) = t.kids ∧ (∀ p ∈ l, TK_ h p.1 p.2) ∧ Sl h K t.kids.length (fls l) := by
  cases t with
  | t0 k s n => exact ⟨[], rfl, by simp, hK⟩
  | t1 k s n a => obtain ⟨A, hA, hs⟩ := hK; exact ⟨[(a, A)], rfl, by simpa using hA, by simpa [fls, Tr.kids] using hs⟩
  | t2 k s n a b => obtain ⟨A, B, hA, hB, hs⟩ := hK; exact ⟨[(a, A), (b, B)], rfl, by simp [hA, hB], by simpa [fls, Tr.kids] using hs⟩
  | t3 k s n a b c => obtain ⟨A, B, C, hA, hB, hC, hs⟩ := hK; exact ⟨[(a, A), (b, B), (c, C)], rfl, by simp [hA, hB, hC], by simpa [fls, Tr.kids] using hs⟩
theorem TK_.of_flat {h : GH} {t : Tr} {K : Value} {l : List (Tr × Value)} (h1 : l.map (·.1) = t.kids) (h2 : ∀ p ∈ l, TK_ h p.1 p.2) (h3 : Sl h K t.kids.length (fls l)) : TK_ h t K := by
  cases t with
  | t0 k s n =>
    obtain rfl : l = [] := by cases l with
      | nil => rfl
      | cons p l => simp [Tr.kids] at h1
    exact h3
  | t1 k s n a =>
    match l, h1 with
    | [(a', A)], h1 => simp [Tr.kids] at h1; subst h1; exact ⟨A, h2 (_, _) (by simp), by simpa [fls, Tr.kids] using h3⟩
  | t2 k s n a b =>
    match l, h1 with
    | [(a', A), (b', B)], h1 => simp [Tr.kids] at h1; obtain ⟨rfl, rfl⟩ := h1; exact ⟨A, B, h2 (a', A) (by simp), h2 (b', B) (by simp), by simpa [fls, Tr.kids] using h3⟩
  | t3 k s n a b c =>
    match l, h1 with
    | [(a', A), (b', B), (c', C)], h1 => simp [Tr.kids] at h1; obtain ⟨rfl, rfl, rfl⟩ := h1; exact ⟨A, B, C, h2 (a', A) (by simp), h2 (b', B) (by simp), h2 (c', C) (by simp), by simpa [fls, Tr.kids] using h3⟩
/-- Another one with these parts. -/
def reK : Tr → List Tr → Tr
  | .t1 k s n _, [a] => .t1 k s n a
  | .t2 k s n _ _, [a, b] => .t2 k s n a b
  | .t3 k s n _ _ _, [a, b, c] => .t3 k s n a b c
  | t, _ => t
def zsum (l : List Tr) : Nat := (l.map rsz).sum
theorem rsz_eq (t : Tr) : rsz t = t.s.size + zsum t.kids + 50 := by cases t <;> simp [rsz, zsum, Tr.kids, Tr.s] <;> omega
theorem reK_spec (t : Tr) (l : List Tr) (hl : l.length = t.kids.length) : (reK t l).kids = l ∧ (reK t l).kind = t.kind ∧ (reK t l).s = t.s ∧ (reK t l).n = t.n := by
  cases t with
  | t0 k s n => simp [Tr.kids] at hl; subst hl; exact ⟨rfl, rfl, rfl, rfl⟩
  | t1 k s n a => match l, hl with | [x], _ => exact ⟨rfl, rfl, rfl, rfl⟩
  | t2 k s n a b => match l, hl with | [x, y], _ => exact ⟨rfl, rfl, rfl, rfl⟩
  | t3 k s n a b c => match l, hl with | [x, y, z], _ => exact ⟨rfl, rfl, rfl, rfl⟩
theorem reK_wf (t : Tr) (l : List Tr) (hl : l.length = t.kids.length) (hw : wfT t) (hwl : ∀ a ∈ l, wfT a) : wfT (reK t l) := by
  cases t with
  | t0 k s n => exact hw
  | t1 k s n a => match l, hl with | [x], _ => exact ⟨hw.1, hwl x (by simp)⟩
  | t2 k s n a b => match l, hl with | [x, y], _ => exact ⟨hw.1, hwl x (by simp), hwl y (by simp)⟩
  | t3 k s n a b c => match l, hl with | [x, y, z], _ => exact ⟨hw.1, hwl x (by simp), hwl y (by simp), hwl z (by simp)⟩
theorem wf_kid {t a : Tr} (hw : wfT t) (ha : a ∈ t.kids) : wfT a := by
  cases t <;> simp [Tr.kids] at ha
  · subst ha; exact hw.2
  · rcases ha with rfl | rfl
    · exact hw.2.1
    · exact hw.2.2
  · rcases ha with rfl | rfl | rfl
    · exact hw.2.1
    · exact hw.2.2.1
    · exact hw.2.2.2
def reS : Tr → ByteArray → Int → Tr
  | .t0 k _ _, s, n => .t0 k s n
  | .t1 k _ _ a, s, n => .t1 k s n a
  | .t2 k _ _ a b, s, n => .t2 k s n a b
  | .t3 k _ _ a b c, s, n => .t3 k s n a b c
theorem reS_spec (t : Tr) (s : ByteArray) (n : Int) : (reS t s n).kids = t.kids ∧ (reS t s n).kind = t.kind ∧ (reS t s n).s = s ∧ (reS t s n).n = n ∧ (wfT t → wfT (reS t s n)) ∧ rcnt (reS t s n) = rcnt t ∧ ∀ h K, TK_ h t K → TK_ h (reS t s n) K := by
  cases t <;> exact ⟨rfl, rfl, rfl, rfl, id, rfl, fun _ _ => id⟩
def SpoilQ (t : Tr) (a0 : Int) (u : Value) (h : GH) : Prop := ∃ t' K' a', u = .tuple [TrV t' K', .int .i64 a'].toArray ∧ TK_ h t' K' ∧ wfT t' ∧ rcnt t' ≤ rcnt t ∧ rsz t' ≤ rsz t + 20 * rcnt t ∧ -1 ≤ a' ∧ a' ≤ a0
theorem rsz_ge (t : Tr) : 50 ≤ rsz t := by rw [rsz_eq]; omega
theorem rcnt_ge (t : Tr) : 1 ≤ rcnt t := by rw [rkids_sum]; omega
theorem OwnS.slice {e : TypeId} {sz n : Nat} {v : Value} {xs : List Value} {ob : Blks} (o : OwnS e sz v n xs ob) : ∃ A c, v = .slice A n c := by
  rcases o.2 with ⟨rfl, rfl, _⟩ | ⟨g, cap, cur, rfl, _⟩
  · exact ⟨_, _, rfl⟩
  · exact ⟨_, _, rfl⟩
theorem TK_.slice {h : GH} {t : Tr} {K : Value} (hK : TK_ h t K) : ∃ A n c, K = .slice A n c := by obtain ⟨A, c, rfl, _⟩ := hK.view; exact ⟨_, _, _, rfl⟩
theorem fls_one {h : GH} {l : List (Tr × Value)} (hl : ∀ p ∈ l, TK_ h p.1 p.2) : ∀ u ∈ fls l, u.oneCell' = true := by
  intro u hu
  obtain ⟨x, hx, hux⟩ := List.mem_flatten.1 hu
  obtain ⟨p, hp, rfl⟩ := List.mem_map.1 hx
  obtain ⟨A, n, c, hK⟩ := (hl p hp).slice
  simp only [fl, hK, List.mem_cons, List.not_mem_nil, or_false] at hux
  rcases hux with rfl | rfl | rfl | rfl <;> rfl
attribute [local irreducible] St SL Qs NOp TK SQ RS Fn FnV FnP

theorem Spoil_p (what vv : Int) (s : ByteArray) : ∀ m (t : Tr), rcnt t ≤ m → m ≤ 1000000 → wfT t → ∀ a0 : Int, 0 ≤ a0 → a0 ≤ 1000000 → ∀ (h : GH) (K : Value), TK_ h t K → FnP Tryd.prog h 28 [TrV t K, .int .i64 a0, .int .i64 what, .int .i64 vv, .string s].toArray (SpoilQ t a0) := by
  intro m
  induction m with
  | zero => intro t ht; exfalso; have := rkids_sum t; omega
  | succ m ih =>
    intro t ht hm hw a0 ha0 ha1 h K hK
    obtain ⟨A, c, rfl, hc, hkid⟩ := id hK.view
    have hcs := rkids_sum t
    have hzs := rsz_eq t
    have hk3 := rkids_len t
    have hrg := rsz_ge t
    have hcg := rcnt_ge t
    refine FnP.enter Tryd.func28 rfl rfl rfl rfl fun w hg => ?_
    simp only [TrV, fl]
    repeat' (first | (refine SL.isSL ?_; first | (refine SL.isN ?_; first | refine SL.nA ?_ | refine SL.alloc rfl rfl (fun b => ?_) | refine SL.box rfl rfl rfl (fun b => ?_)) | (refine SL.isG ?_; first | refine SL.gF rfl rfl rfl ?_ | refine SL.gU rfl rfl rfl ?_ | refine SL.gA ?_) | (refine SL.isSt ?_; refine SL.stA ?_) | refine SL.nil ?_ | (refine SL.isG ?_; first | refine SL.gCase rfl rfl (fun e => ?_) (fun e => ?_) | refine SL.gCaseN rfl rfl (fun e => ?_) (fun e => ?_))) | (refine St.isSt ?_; first | refine St.seq ?_ | refine St.region ?_ | refine St.block ?_ | refine St.ret ?_ | refine St.skip ?_ | refine St.exit ?_ | refine St.condT rfl ?_ | refine St.condF rfl ?_ | refine St.condY rfl (by omega) ?_ | refine St.condZ rfl (by omega) ?_) | (refine Qs.isQs ?_; first | refine Qs.then_normal ?_ | refine Qs.then_rounds ?_ | refine Qs.then_ret ?_ | refine Qs.then_exit ?_ | refine Qs.block_normal ?_ | refine Qs.block_ret ?_ | refine Qs.block_here ?_ | refine Qs.block_other rfl ?_) | refine RS.step ?_)
    rename Nat => b10
    refine St.condD rfl (fun e => ?_) (fun e => ?_)
    · repeat' (first | (refine St.isSt ?_; refine St.cutR 2 (α := Int × ByteArray × Int × Value) (fun _ => [(5, .pointer (some ⟨b, 0, none⟩)), (10, .pointer (some ⟨b10, 0, none⟩))]) (fun _ => h) (fun x => [(b10, cel [.int .i64 0, .string ByteArray.empty, .int .i64 0, .slice none 0 0] 29), (b, cel [.int .i64 x.1, .string x.2.1, .int .i64 x.2.2.1, x.2.2.2] 29)]) (fun x => ∃ t', t'.kind = x.1 ∧ t'.s = x.2.1 ∧ t'.n = x.2.2.1 ∧ TK_ h t' x.2.2.2 ∧ wfT t' ∧ rcnt t' ≤ rcnt t ∧ rsz t' ≤ rsz t + 20 * rcnt t) ?_ ?_) | (refine St.isSt ?_; first | refine St.condT rfl ?_ | refine St.condF rfl ?_ | refine St.condY rfl (by omega) ?_ | refine St.condZ rfl (by omega) ?_ | refine St.condD rfl (fun e => ?_) (fun e => ?_) | refine St.condN rfl (fun e => ?_) (fun e => ?_)) | (refine SL.isSL ?_; first | (refine SL.isCallF 13 ?_; first | (refine SL.isN ?_; refine SL.callV rfl (Within _ what 5 (by omega) (by omega)) rfl ?_) | (refine SL.isG ?_; refine SL.callVT rfl rfl rfl (Within _ what 5 (by omega) (by omega)) rfl ?_)) | (refine SL.isCallF 45 ?_; first | (refine SL.isN ?_; refine SL.callV rfl (Text_v _ s 20 (by omega)) rfl ?_) | (refine SL.isG ?_; refine SL.callVT rfl rfl rfl (Text_v _ s 20 (by omega)) rfl ?_)) | (refine SL.isN ?_; first | refine SL.nA ?_ | refine SL.alloc rfl rfl (fun b => ?_) | refine SL.box rfl rfl rfl (fun b => ?_)) | (refine SL.isG ?_; first | refine SL.gF rfl rfl rfl ?_ | refine SL.gU rfl rfl rfl ?_ | refine SL.gA ?_) | (refine SL.isSt ?_; refine SL.stA ?_) | refine SL.nil ?_ | (refine SL.isG ?_; first | refine SL.gCase rfl rfl (fun e => ?_) (fun e => ?_) | refine SL.gCaseN rfl rfl (fun e => ?_) (fun e => ?_))) | (refine St.isSt ?_; first | refine St.seq ?_ | refine St.region ?_ | refine St.block ?_ | refine St.ret ?_ | refine St.skip ?_ | refine St.exit ?_ | refine St.condT rfl ?_ | refine St.condF rfl ?_ | refine St.condY rfl (by omega) ?_ | refine St.condZ rfl (by omega) ?_) | (refine Qs.isQs ?_; first | refine Qs.then_normal ?_ | refine Qs.then_rounds ?_ | refine Qs.then_ret ?_ | refine Qs.then_exit ?_ | refine Qs.block_normal ?_ | refine Qs.block_ret ?_ | refine Qs.block_here ?_ | refine Qs.block_other rfl ?_) | refine RS.step ?_)
      all_goals first
        | (refine Some_.intro (α := Int × ByteArray × Int × Value) (0, ByteArray.empty, 0, .slice none 0 0) ?_ (fun _ _ z => z) rfl rfl (by exact ⟨rfl, rfl, trivial⟩)
           exact ⟨.t0 0 ByteArray.empty 0, rfl, rfl, rfl, Sl.nil _, by simp [wfT], by simp only [rcnt]; omega, by show 0 + 50 ≤ _; omega⟩)
        | (refine Some_.intro (α := Int × ByteArray × Int × Value) (1, ByteArray.empty, 0, .slice none 0 0) ?_ (fun _ _ z => z) rfl rfl (by exact ⟨rfl, rfl, trivial⟩)
           exact ⟨.t0 1 ByteArray.empty 0, rfl, rfl, rfl, Sl.nil _, by simp [wfT], by simp only [rcnt]; omega, by show 0 + 50 ≤ _; omega⟩)
        | (refine Some_.intro (α := Int × ByteArray × Int × Value) (11, ByteArray.empty, 1, .slice none 0 0) ?_ (fun _ _ z => z) rfl rfl (by exact ⟨rfl, rfl, trivial⟩)
           exact ⟨.t0 11 ByteArray.empty 1, rfl, rfl, rfl, Sl.nil _, by simp [wfT], by simp only [rcnt]; omega, by show 0 + 50 ≤ _; omega⟩)
        | (refine Some_.intro (α := Int × ByteArray × Int × Value) (t.kind, t.s, t.n, .slice A t.kids.length c) ?_ (fun _ _ z => z) rfl rfl (by exact ⟨rfl, rfl, trivial⟩)
           exact ⟨t, rfl, rfl, rfl, hK, hw, by omega, by omega⟩)
        | (refine Some_.intro (α := Int × ByteArray × Int × Value) (t.kind, t.s, vv, .slice A t.kids.length c) ?_ (fun _ _ z => z) rfl rfl (by exact ⟨rfl, rfl, trivial⟩)
           obtain ⟨h1, h2, h3, h4, h5, h6, h7⟩ := reS_spec t t.s vv
           exact ⟨_, h2, h3, h4, h7 _ _ hK, h5 hw, by omega, by rw [rsz_eq, h1, h3]; omega⟩)
        | (refine Some_.intro (α := Int × ByteArray × Int × Value) (t.kind, _, t.n, .slice A t.kids.length c) ?_ (fun _ _ z => z) rfl rfl (by exact ⟨rfl, rfl, trivial⟩)
           obtain ⟨h1, h2, h3, h4, h5, h6, h7⟩ := reS_spec t (s.extract 0 (if (20 : Int) < s.size then 20 else s.size : Int).toNat) t.n
           have := text_small s 20 (by omega)
           exact ⟨_, h2, h3, h4, h7 _ _ hK, h5 hw, by omega, by rw [rsz_eq, h1, h3]; omega⟩)
        | skip
      rintro ⟨k', s', n', K'⟩ ⟨t', hk', hs', hn', hK', hw', hc', hz'⟩
      dsimp only at hk' hs' hn' hK'
      subst hk' hs' hn'
      obtain ⟨A', x', c', rfl⟩ := hK'.slice
      repeat' (first | (refine SL.isSL ?_; first | (refine SL.isN ?_; first | refine SL.nA ?_ | refine SL.alloc rfl rfl (fun b => ?_) | refine SL.box rfl rfl rfl (fun b => ?_)) | (refine SL.isG ?_; first | refine SL.gF rfl rfl rfl ?_ | refine SL.gU rfl rfl rfl ?_ | refine SL.gA ?_) | (refine SL.isSt ?_; refine SL.stA ?_) | refine SL.nil ?_ | (refine SL.isG ?_; first | refine SL.gCase rfl rfl (fun e => ?_) (fun e => ?_) | refine SL.gCaseN rfl rfl (fun e => ?_) (fun e => ?_))) | (refine St.isSt ?_; first | refine St.seq ?_ | refine St.region ?_ | refine St.block ?_ | refine St.ret ?_ | refine St.skip ?_ | refine St.exit ?_ | refine St.condT rfl ?_ | refine St.condF rfl ?_ | refine St.condY rfl (by omega) ?_ | refine St.condZ rfl (by omega) ?_) | (refine Qs.isQs ?_; first | refine Qs.then_normal ?_ | refine Qs.then_rounds ?_ | refine Qs.then_ret ?_ | refine Qs.then_exit ?_ | refine Qs.block_normal ?_ | refine Qs.block_ret ?_ | refine Qs.block_here ?_ | refine Qs.block_other rfl ?_) | refine RS.step ?_)
      exact Qs.retCT 0 rfl rfl rfl rfl rfl [] (List.nil_sublist _) ⟨⟨t', _, -1, rfl, hK', hw', hc', hz', by omega, by omega⟩, rfl⟩
    · have hne := e
      obtain ⟨l0, hl0, hlK, hSl⟩ := hK.flat
      obtain ⟨A', c', he, hc', hr⟩ := hSl
      injection he with he1 he2 he3
      subst he1
      have hll : l0.length = t.kids.length := by rw [← hl0]; simp
      repeat' (first | (refine SL.isSL ?_; first | (refine SL.isN ?_; first | refine SL.nA ?_ | refine SL.alloc rfl rfl (fun b => ?_) | refine SL.box rfl rfl rfl (fun b => ?_)) | (refine SL.isG ?_; first | refine SL.gF rfl rfl rfl ?_ | refine SL.gU rfl rfl rfl ?_ | refine SL.gA ?_) | (refine SL.isSt ?_; refine SL.stA ?_) | refine SL.nil ?_ | (refine SL.isG ?_; first | refine SL.gCase rfl rfl (fun e => ?_) (fun e => ?_) | refine SL.gCaseN rfl rfl (fun e => ?_) (fun e => ?_))) | (refine St.isSt ?_; first | refine St.seq ?_ | refine St.region ?_ | refine St.block ?_ | refine St.ret ?_ | refine St.skip ?_ | refine St.exit ?_ | refine St.condT rfl ?_ | refine St.condF rfl ?_ | refine St.condY rfl (by omega) ?_ | refine St.condZ rfl (by omega) ?_) | (refine Qs.isQs ?_; first | refine Qs.then_normal ?_ | refine Qs.then_rounds ?_ | refine Qs.then_ret ?_ | refine Qs.then_exit ?_ | refine Qs.block_normal ?_ | refine Qs.block_ret ?_ | refine Qs.block_here ?_ | refine Qs.block_other rfl ?_) | refine RS.step ?_)
      refine SL.append rfl rfl (OwnS.nil _ _) rfl hr (by rw [fls_len, hll]) (fls_one hlK) rfl rfl rfl (by omega) rfl (fun w9 ob9 ho9 => ?_)
      refine SL.perm _ List.perm_append_comm ?_
      rw [List.nil_append, Nat.zero_add] at ho9
      obtain ⟨A9, c9, rfl⟩ := ho9.slice
      show SL _ _ _ _ _ _ _ _ ((b10, _) :: (b, _) :: ob9)
      repeat' (first | (refine SL.isSL ?_; first | (refine SL.isN ?_; first | refine SL.nA ?_ | refine SL.alloc rfl rfl (fun b => ?_) | refine SL.box rfl rfl rfl (fun b => ?_)) | (refine SL.isG ?_; first | refine SL.gF rfl rfl rfl ?_ | refine SL.gU rfl rfl rfl ?_ | refine SL.gA ?_) | (refine SL.isSt ?_; refine SL.stA ?_) | refine SL.nil ?_ | (refine SL.isG ?_; first | refine SL.gCase rfl rfl (fun e => ?_) (fun e => ?_) | refine SL.gCaseN rfl rfl (fun e => ?_) (fun e => ?_))) | (refine St.isSt ?_; first | refine St.seq ?_ | refine St.region ?_ | refine St.block ?_ | refine St.ret ?_ | refine St.skip ?_ | refine St.exit ?_ | refine St.condT rfl ?_ | refine St.condF rfl ?_ | refine St.condY rfl (by omega) ?_ | refine St.condZ rfl (by omega) ?_) | (refine Qs.isQs ?_; first | refine Qs.then_normal ?_ | refine Qs.then_rounds ?_ | refine Qs.then_ret ?_ | refine Qs.then_exit ?_ | refine Qs.block_normal ?_ | refine Qs.block_ret ?_ | refine Qs.block_here ?_ | refine Qs.block_other rfl ?_) | refine RS.step ?_)
      refine St.loop (α := List (Tr × Value) × List (Tr × Value) × GH × Int × Blks) (fun p => [(5, .pointer (some ⟨b, 0, none⟩)), (10, .pointer (some ⟨b10, 0, none⟩)), (12, .slice A9 t.kids.length c9), (1, .int .i64 p.2.2.2.1), (2, .int .i64 what), (3, .int .i64 vv), (4, .string s), (44, .int .i64 t.kids.length), (45, .int .i64 p.1.length)]) (fun p => p.2.2.1)
        (fun p => (b10, cel [.int .i64 0, .string ByteArray.empty, .int .i64 0, .slice none 0 0] 29) :: (b, cel [.int .i64 t.kind, .string t.s, .int .i64 t.n, .slice A t.kids.length c] 29) :: p.2.2.2.2)
        (fun p => p.1.length + p.2.1.length = t.kids.length ∧ (∃ dk, dk ++ p.2.1.map (·.1) = t.kids ∧ rsum (p.1.map (·.1)) ≤ rsum dk ∧ zsum (p.1.map (·.1)) ≤ zsum dk + 20 * rsum dk) ∧ (∀ q ∈ p.1, TK_ p.2.2.1 q.1 q.2 ∧ wfT q.1) ∧ (∀ q ∈ p.2.1, TK_ p.2.2.1 q.1 q.2) ∧ GH.le h p.2.2.1 ∧ -1 ≤ p.2.2.2.1 ∧ p.2.2.2.1 ≤ a0 - 1 ∧ OwnS 29 4 (.slice A9 t.kids.length c9) t.kids.length (fls p.1 ++ fls p.2.1) p.2.2.2.2)
        (fun p => p.2.1.length) ([], l0, h, a0 - 1, ob9) ⟨by simpa using hll, ⟨[], by simpa using hl0, by simp [rsum], by simp [zsum]⟩, by simp, hlK, GH.le.refl _, by dsimp only; omega, by dsimp only; omega, ho9⟩ rfl (by rfl) (by repeat (first | exact trivial | refine ⟨rfl, ?_⟩)) ?_
      rintro ⟨done, rest, gh, ax, ob⟩ ⟨hlen, ⟨dk, hdk, hds, hdz⟩, hdn, hrs, hgh, hx0, hx1, how⟩
      dsimp only at hlen hdk hds hdz hdn hrs hgh hx0 hx1 how ⊢
      cases rest with
      | nil =>
        simp only [List.length_nil, List.map_nil, List.append_nil, Nat.add_zero] at hlen hdk how
        have hl3 : (done.map (·.1)).length = t.kids.length := by simpa using hlen
        obtain ⟨k1, k2, k3, k4⟩ := reK_spec t (done.map (·.1)) hl3
        have e0 : fls [] = [] := rfl
        rw [e0, List.append_nil] at how
        repeat' (first | (refine SL.isSL ?_; first | (refine SL.isN ?_; first | refine SL.nA ?_ | refine SL.alloc rfl rfl (fun b => ?_) | refine SL.box rfl rfl rfl (fun b => ?_)) | (refine SL.isG ?_; first | refine SL.gF rfl rfl rfl ?_ | refine SL.gU rfl rfl rfl ?_ | refine SL.gA ?_) | (refine SL.isSt ?_; refine SL.stA ?_) | refine SL.nil ?_ | (refine SL.isG ?_; first | refine SL.gCase rfl rfl (fun e => ?_) (fun e => ?_) | refine SL.gCaseN rfl rfl (fun e => ?_) (fun e => ?_))) | (refine St.isSt ?_; first | refine St.seq ?_ | refine St.region ?_ | refine St.block ?_ | refine St.ret ?_ | refine St.skip ?_ | refine St.exit ?_ | refine St.condT rfl ?_ | refine St.condF rfl ?_ | refine St.condY rfl (by omega) ?_ | refine St.condZ rfl (by omega) ?_) | (refine Qs.isQs ?_; first | refine Qs.then_normal ?_ | refine Qs.then_rounds ?_ | refine Qs.then_ret ?_ | refine Qs.then_exit ?_ | refine Qs.block_normal ?_ | refine Qs.block_ret ?_ | refine Qs.block_here ?_ | refine Qs.block_other rfl ?_) | refine RS.step ?_)
        refine Qs.ownS how (List.Perm.symm List.perm_append_comm : List.Perm (([_, _] : Blks) ++ ob) _) (fun q hq => absurd hq (List.not_mem_nil)) (fun gz hlez hz => ?_)
        have hT : TK_ gz (reK t (done.map (·.1))) (.slice A9 t.kids.length c9) := TK_.of_flat (l := done) (by rw [k1]) (fun q hq => (hdn q hq).1.le hlez) (by rw [k1, hl3]; exact hz)
        have hr2 := rkids_sum (reK t (done.map (·.1)))
        have hz2 := rsz_eq (reK t (done.map (·.1)))
        rw [k1] at hr2 hz2
        rw [k3] at hz2
        subst hdk
        exact Qs.retCT 0 rfl rfl rfl rfl rfl [] (List.nil_sublist _) ⟨⟨reK t (done.map (·.1)), _, ax, by simp only [TrV, k2, k3, k4]; rfl, hT, reK_wf t _ hl3 hw (fun a ha => by obtain ⟨q, hq, rfl⟩ := List.mem_map.1 ha; exact (hdn q hq).2), by omega, by omega, hx0, by omega⟩, rfl⟩
      | cons q rest =>
        obtain ⟨ta, KA⟩ := q
        simp only [List.length_cons, List.map_cons] at hlen hdk
        have hmem : ta ∈ t.kids := by rw [← hdk]; simp
        have hca := rkids_cnt hmem
        have hwa := wf_kid hw hmem
        have hKA := hrs (ta, KA) (by simp)
        dsimp only at hKA
        obtain ⟨AA, na, ca, rfl⟩ := hKA.slice
        obtain ⟨hxl, g, cap, sp, hv, rfl, hc1, hc2, hc3⟩ := how.lit (by omega)
        injection hv with hv1 hv2 hv3
        subst hv1 hv3
        have hfc : fls ((ta, Value.slice AA na ca) :: rest) = fl ta.kind ta.s ta.n (.slice AA na ca) ++ fls rest := rfl
        have hdl := fls_len done
        have hrow : (fls done ++ fls ((ta, Value.slice AA na ca) :: rest)) ++ sp = fls done ++ (fl ta.kind ta.s ta.n (.slice AA na ca) ++ (fls rest ++ sp)) := by rw [hfc]; simp
        rw [hrow] at hc3 ⊢
        have hat : ∀ j v, (fl ta.kind ta.s ta.n (.slice AA na ca))[j]? = some v → (fls done ++ (fl ta.kind ta.s ta.n (.slice AA na ca) ++ (fls rest ++ sp)))[0 + (done.length : Int).toNat * 4 + j]? = some v := fun j v hj => by
          have hj4 : j < (fl ta.kind ta.s ta.n (.slice AA na ca)).length := (List.getElem?_eq_some_iff.1 hj).1
          rw [List.getElem?_append_right (by omega), show 0 + (done.length : Int).toNat * 4 + j - (fls done).length = j by omega, List.getElem?_append_left hj4]
          exact hj
        have hr1 : rsum (dk ++ [ta]) = rsum dk + rcnt ta := by simp [rsum]
        have hz1 : zsum (dk ++ [ta]) = zsum dk + rsz ta := by simp [zsum]
        repeat' (first | (refine SL.isSL ?_; first | (refine SL.isN ?_; first | refine SL.nA ?_ | refine SL.alloc rfl rfl (fun b => ?_) | refine SL.box rfl rfl rfl (fun b => ?_)) | (refine SL.isG ?_; first | refine SL.gF rfl rfl rfl ?_ | refine SL.gU rfl rfl rfl ?_ | refine SL.gA ?_) | (refine SL.isSt ?_; refine SL.stA ?_) | refine SL.nil ?_ | (refine SL.isG ?_; first | refine SL.gCase rfl rfl (fun e => ?_) (fun e => ?_) | refine SL.gCaseN rfl rfl (fun e => ?_) (fun e => ?_))) | (refine St.isSt ?_; first | refine St.seq ?_ | refine St.region ?_ | refine St.block ?_ | refine St.ret ?_ | refine St.skip ?_ | refine St.exit ?_ | refine St.condT rfl ?_ | refine St.condF rfl ?_ | refine St.condY rfl (by omega) ?_ | refine St.condZ rfl (by omega) ?_) | (refine Qs.isQs ?_; first | refine Qs.then_normal ?_ | refine Qs.then_rounds ?_ | refine Qs.then_ret ?_ | refine Qs.then_exit ?_ | refine Qs.block_normal ?_ | refine Qs.block_ret ?_ | refine Qs.block_here ?_ | refine Qs.block_other rfl ?_) | refine RS.step ?_)
        refine St.condD rfl (fun e => ?_) (fun e => ?_)
        · repeat' (first | (refine SL.isSL ?_; first | (refine SL.isIdx ?_; first | (refine SL.isN ?_; refine SL.n (NOp.idx rfl rfl (by omega)) rfl ?_) | (refine SL.isG ?_; refine SL.gT rfl rfl (NOp.idx rfl rfl (by omega)) rfl ?_)) | (refine SL.isLd ?_; first | (refine SL.isN ?_; refine SL.n (NOp.ldOA (vs := fl ta.kind ta.s ta.n (.slice AA na ca)) 2 rfl rfl rfl hat) rfl ?_) | (refine SL.isG ?_; refine SL.gT rfl rfl (NOp.ldOA (vs := fl ta.kind ta.s ta.n (.slice AA na ca)) 2 rfl rfl rfl hat) rfl ?_)) | (refine SL.isN ?_; first | refine SL.nA ?_ | refine SL.alloc rfl rfl (fun b => ?_) | refine SL.box rfl rfl rfl (fun b => ?_)) | (refine SL.isG ?_; first | refine SL.gF rfl rfl rfl ?_ | refine SL.gU rfl rfl rfl ?_ | refine SL.gA ?_) | (refine SL.isSt ?_; refine SL.stA ?_) | refine SL.nil ?_ | (refine SL.isG ?_; first | refine SL.gCase rfl rfl (fun e => ?_) (fun e => ?_) | refine SL.gCaseN rfl rfl (fun e => ?_) (fun e => ?_))) | (refine St.isSt ?_; first | refine St.seq ?_ | refine St.region ?_ | refine St.block ?_ | refine St.ret ?_ | refine St.skip ?_ | refine St.exit ?_ | refine St.condT rfl ?_ | refine St.condF rfl ?_ | refine St.condY rfl (by omega) ?_ | refine St.condZ rfl (by omega) ?_) | (refine Qs.isQs ?_; first | refine Qs.then_normal ?_ | refine Qs.then_rounds ?_ | refine Qs.then_ret ?_ | refine Qs.then_exit ?_ | refine Qs.block_normal ?_ | refine Qs.block_ret ?_ | refine Qs.block_here ?_ | refine Qs.block_other rfl ?_) | refine RS.step ?_)
          refine SL.callP rfl (ih ta (by omega) (by omega) hwa ax (by omega) (by omega) gh _ hKA) rfl (fun v9 g9 hle9 hv9 => ?_)
          obtain ⟨tn, KN, an, rfl, hKN, hwn, hcn, hzn, hn0, hn1⟩ := hv9
          obtain ⟨AN, nn, cn, rfl⟩ := hKN.slice
          repeat' (first | (refine SL.isSL ?_; first | (refine SL.isIdx ?_; first | (refine SL.isN ?_; refine SL.n (NOp.idx rfl rfl (by omega)) rfl ?_) | (refine SL.isG ?_; refine SL.gT rfl rfl (NOp.idx rfl rfl (by omega)) rfl ?_)) | ((refine SL.isSt ?_; refine SL.store2 2 rfl rfl rfl rfl rfl (by repeat (first | exact OneL.nil | refine OneL.cons rfl ?_ | refine OneL.cons (one_enc _) ?_ | refine OneL.cons (One.one (by assumption)) ?_)) (stL_mid (fls done) (fl ta.kind ta.s ta.n (.slice AA na ca)) (fls rest ++ sp) (fl tn.kind tn.s tn.n (.slice AN nn cn)) _ (by rw [hdl]; omega) rfl) rfl ?_)) | (refine SL.isN ?_; first | refine SL.nA ?_ | refine SL.alloc rfl rfl (fun b => ?_) | refine SL.box rfl rfl rfl (fun b => ?_)) | (refine SL.isG ?_; first | refine SL.gF rfl rfl rfl ?_ | refine SL.gU rfl rfl rfl ?_ | refine SL.gA ?_) | (refine SL.isSt ?_; refine SL.stA ?_) | refine SL.nil ?_ | (refine SL.isG ?_; first | refine SL.gCase rfl rfl (fun e => ?_) (fun e => ?_) | refine SL.gCaseN rfl rfl (fun e => ?_) (fun e => ?_))) | (refine St.isSt ?_; first | refine St.seq ?_ | refine St.region ?_ | refine St.block ?_ | refine St.ret ?_ | refine St.skip ?_ | refine St.exit ?_ | refine St.condT rfl ?_ | refine St.condF rfl ?_ | refine St.condY rfl (by omega) ?_ | refine St.condZ rfl (by omega) ?_) | (refine Qs.isQs ?_; first | refine Qs.then_normal ?_ | refine Qs.then_rounds ?_ | refine Qs.then_ret ?_ | refine Qs.then_exit ?_ | refine Qs.block_normal ?_ | refine Qs.block_ret ?_ | refine Qs.block_here ?_ | refine Qs.block_other rfl ?_) | refine RS.step ?_)
          have hfn : fls (done ++ [(tn, Value.slice AN nn cn)]) ++ fls rest ++ sp = fls done ++ (fl tn.kind tn.s tn.n (.slice AN nn cn) ++ (fls rest ++ sp)) := by rw [fls_app]; simp [fls]
          refine Some_.intro (α := List (Tr × Value) × List (Tr × Value) × GH × Int × Blks) (done ++ [(tn, .slice AN nn cn)], rest, g9, an, _) ⟨⟨by simp; omega, ⟨dk ++ [ta], by rw [← hdk]; simp, ?_, ?_⟩, ?_, fun q hq => (hrs q (by simp [hq])).le hle9, hgh.trans hle9, hn0, by dsimp only; omega, ?_⟩, by dsimp only; simp⟩ (fun _ _ x => x) rfl (by rw [← hfn]) ?_
          · refine ⟨rfl, rfl, rfl, rfl, rfl, rfl, rfl, rfl, lk_eq rfl ?_, trivial⟩
            simp
          · dsimp only; rw [hr1, List.map_append]; simp only [rsum, List.map_append, List.sum_append, List.map_cons, List.map_nil, List.sum_cons, List.sum_nil] at hds ⊢; omega
          · dsimp only; rw [hr1, hz1, List.map_append]; simp only [zsum, List.map_append, List.sum_append, List.map_cons, List.map_nil, List.sum_cons, List.sum_nil] at hdz ⊢; omega
          · intro q hq
            rcases List.mem_append.1 hq with hq | hq
            · exact ⟨(hdn q hq).1.le hle9, (hdn q hq).2⟩
            · simp only [List.mem_singleton] at hq; subst hq; exact ⟨hKN, hwn⟩
          · exact OwnS.mk (by rw [List.length_append, fls_len, fls_len]; simp; omega) hc1 hc2 (by rw [hfn, ← hc3]; simp [fl])
        · repeat' (first | (refine SL.isSL ?_; first | (refine SL.isN ?_; first | refine SL.nA ?_ | refine SL.alloc rfl rfl (fun b => ?_) | refine SL.box rfl rfl rfl (fun b => ?_)) | (refine SL.isG ?_; first | refine SL.gF rfl rfl rfl ?_ | refine SL.gU rfl rfl rfl ?_ | refine SL.gA ?_) | (refine SL.isSt ?_; refine SL.stA ?_) | refine SL.nil ?_ | (refine SL.isG ?_; first | refine SL.gCase rfl rfl (fun e => ?_) (fun e => ?_) | refine SL.gCaseN rfl rfl (fun e => ?_) (fun e => ?_))) | (refine St.isSt ?_; first | refine St.seq ?_ | refine St.region ?_ | refine St.block ?_ | refine St.ret ?_ | refine St.skip ?_ | refine St.exit ?_ | refine St.condT rfl ?_ | refine St.condF rfl ?_ | refine St.condY rfl (by omega) ?_ | refine St.condZ rfl (by omega) ?_) | (refine Qs.isQs ?_; first | refine Qs.then_normal ?_ | refine Qs.then_rounds ?_ | refine Qs.then_ret ?_ | refine Qs.then_exit ?_ | refine Qs.block_normal ?_ | refine Qs.block_ret ?_ | refine Qs.block_here ?_ | refine Qs.block_other rfl ?_) | refine RS.step ?_)
          have hfn : fls (done ++ [(ta, Value.slice AA na ca)]) ++ fls rest ++ sp = fls done ++ (fl ta.kind ta.s ta.n (.slice AA na ca) ++ (fls rest ++ sp)) := by rw [fls_app]; simp [fls]
          refine Some_.intro (α := List (Tr × Value) × List (Tr × Value) × GH × Int × Blks) (done ++ [(ta, .slice AA na ca)], rest, gh, ax, _) ⟨⟨by simp; omega, ⟨dk ++ [ta], by rw [← hdk]; simp, ?_, ?_⟩, ?_, fun q hq => hrs q (by simp [hq]), hgh, hx0, hx1, ?_⟩, by dsimp only; simp⟩ (fun _ _ x => x) rfl (by rw [← hfn]) ?_
          · refine ⟨rfl, rfl, rfl, rfl, rfl, rfl, rfl, rfl, lk_eq rfl ?_, trivial⟩
            simp
          · dsimp only; rw [hr1, List.map_append]; simp only [rsum, List.map_append, List.sum_append, List.map_cons, List.map_nil, List.sum_cons, List.sum_nil] at hds ⊢; omega
          · dsimp only; rw [hr1, hz1, List.map_append]; simp only [zsum, List.map_append, List.sum_append, List.map_cons, List.map_nil, List.sum_cons, List.sum_nil] at hdz ⊢; omega
          · intro q hq
            rcases List.mem_append.1 hq with hq | hq
            · exact hdn q hq
            · simp only [List.mem_singleton] at hq; subst hq; exact ⟨hKA, hwa⟩
          · exact OwnS.mk (by rw [List.length_append, fls_len, fls_len]; simp; omega) hc1 hc2 (by rw [hfn, ← hc3])
end Go.Proofs.YtfookachkcgdpaaDoor
