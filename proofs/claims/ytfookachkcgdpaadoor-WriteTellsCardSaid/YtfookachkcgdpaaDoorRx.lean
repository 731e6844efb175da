/- The reference's text of a tree: the walk. Plain theorems; no condition. -/
import Derived.Test.YtfookachkcgdpaaDoorPu
import Derived.Test.YtfookachkcgdpaaDoorDa
set_option linter.unusedVariables false
set_option linter.unusedSimpArgs false
set_option maxRecDepth 100000
set_option maxHeartbeats 8000000
namespace Go.Proofs.YtfookachkcgdpaaDoor
open Go.RowKit
theorem bsz_le (l : List Tr) (h : ∀ a ∈ l, rokT a) : bsz (l.map rtext) ≤ rtsum l := by
  induction l with
  | nil => simp [bsz, rtsum]
  | cons a l ih =>
    have := rtext_size a (h a (by simp))
    have := ih (fun b hb => h b (by simp [hb]))
    simp only [bsz, rtsum, List.map_cons, List.sum_cons] at *
    omega
def rhead1 (k : Int) (s : ByteArray) : ByteArray × ByteArray := if k = 2 ∨ k = 5 ∨ k = 12 then (wordOf k ++ ⟨#[40]⟩ ++ s, ⟨#[44]⟩) else (wordOf k ++ ⟨#[40]⟩, ByteArray.empty)
theorem rhead_eq (k : Int) (s : ByteArray) (n : Int) : rhead k s n = if k = 7 then ((rhead1 k s).1 ++ bitoa n, ⟨#[44]⟩) else rhead1 k s := rfl
theorem rhead1_size {k n : Int} (s : ByteArray) (h : nodeP k n) : (rhead1 k s).1.size ≤ s.size + 6 := by
  have hw := word_size h.1 h.2.1
  have e2 : (⟨#[40]⟩ : ByteArray).size = 1 := rfl
  unfold rhead1
  split <;> simp only [ByteArray.size_append, e2] <;> omega
attribute [local irreducible] St SL Qs NOp TK SQ RS Fn FnV FnP

theorem RText_v : ∀ m (t : Tr), rcnt t ≤ m → rokT t → rtsz t ≤ 1000000000 → ∀ (h : GH) (K : Value), TK_ h t K → FnV Tryd.prog h 23 [TrV t K].toArray (.string (rtext t)) := by
  intro m
  induction m with
  | zero => intro t ht; exfalso; have := rkids_sum t; omega
  | succ m ih =>
    intro t ht hok hsz h K hK
    obtain ⟨A, c, rfl, hc, hkid⟩ := hK.view
    have hn := rok_node hok
    have hk3 := rkids_len t
    have hws := word_size hn.1 hn.2.1
    have e40 : (⟨#[40]⟩ : ByteArray).size = 1 := rfl
    have e41 : (⟨#[41]⟩ : ByteArray).size = 1 := rfl
    have hre0 := rtsz_eq t
    have hh1 := rhead1_size t.s hn
    refine FnV.enter Tryd.func23 rfl rfl rfl rfl fun w hg => ?_
    simp only [TrV, fl]
    repeat' (first | (refine SL.isSL ?_; first | (refine SL.isN ?_; first | refine SL.nA ?_ | refine SL.alloc rfl rfl (fun b => ?_) | refine SL.box rfl rfl rfl (fun b => ?_)) | (refine SL.isG ?_; first | refine SL.gF rfl rfl rfl ?_ | refine SL.gU rfl rfl rfl ?_ | refine SL.gA ?_) | (refine SL.isSt ?_; refine SL.stA ?_) | refine SL.nil ?_ | (refine SL.isG ?_; first | refine SL.gCase rfl rfl (fun e => ?_) (fun e => ?_) | refine SL.gCaseN rfl rfl (fun e => ?_) (fun e => ?_))) | (refine St.isSt ?_; first | refine St.seq ?_ | refine St.region ?_ | refine St.block ?_ | refine St.ret ?_ | refine St.skip ?_ | refine St.exit ?_ | refine St.condT rfl ?_ | refine St.condF rfl ?_ | refine St.condY rfl (by omega) ?_ | refine St.condZ rfl (by omega) ?_) | (refine Qs.isQs ?_; first | refine Qs.then_normal ?_ | refine Qs.then_rounds ?_ | refine Qs.then_ret ?_ | refine Qs.then_exit ?_ | refine Qs.block_normal ?_ | refine Qs.block_ret ?_ | refine Qs.block_here ?_ | refine Qs.block_other rfl ?_) | refine RS.step ?_)
    refine St.condD rfl (fun e => ?_) (fun e => ?_)
    · repeat' (first | refine SL.callV rfl (Digits_v t.n (hn.2.2 (.inl e)).1 (hn.2.2 (.inl e)).2 _) rfl ?_ | (refine SL.isSL ?_; first | (refine SL.isN ?_; first | refine SL.nA ?_ | refine SL.alloc rfl rfl (fun b => ?_) | refine SL.box rfl rfl rfl (fun b => ?_)) | (refine SL.isG ?_; first | refine SL.gF rfl rfl rfl ?_ | refine SL.gU rfl rfl rfl ?_ | refine SL.gA ?_) | (refine SL.isSt ?_; refine SL.stA ?_) | refine SL.nil ?_ | (refine SL.isG ?_; first | refine SL.gCase rfl rfl (fun e => ?_) (fun e => ?_) | refine SL.gCaseN rfl rfl (fun e => ?_) (fun e => ?_))) | (refine St.isSt ?_; first | refine St.seq ?_ | refine St.region ?_ | refine St.block ?_ | refine St.ret ?_ | refine St.skip ?_ | refine St.exit ?_ | refine St.condT rfl ?_ | refine St.condF rfl ?_ | refine St.condY rfl (by omega) ?_ | refine St.condZ rfl (by omega) ?_) | (refine Qs.isQs ?_; first | refine Qs.then_normal ?_ | refine Qs.then_rounds ?_ | refine Qs.then_ret ?_ | refine Qs.then_exit ?_ | refine Qs.block_normal ?_ | refine Qs.block_ret ?_ | refine Qs.block_here ?_ | refine Qs.block_other rfl ?_) | refine RS.step ?_)
      refine Qs.retVe rfl rfl rfl ?_
      rw [rtext_eq, rlay, if_pos e]
    · have e11 := e
      repeat' (first | (refine SL.isSL ?_; first | (refine SL.isN ?_; first | refine SL.nA ?_ | refine SL.alloc rfl rfl (fun b => ?_) | refine SL.box rfl rfl rfl (fun b => ?_)) | (refine SL.isG ?_; first | refine SL.gF rfl rfl rfl ?_ | refine SL.gU rfl rfl rfl ?_ | refine SL.gA ?_) | (refine SL.isSt ?_; refine SL.stA ?_) | refine SL.nil ?_ | (refine SL.isG ?_; first | refine SL.gCase rfl rfl (fun e => ?_) (fun e => ?_) | refine SL.gCaseN rfl rfl (fun e => ?_) (fun e => ?_))) | (refine St.isSt ?_; first | refine St.seq ?_ | refine St.region ?_ | refine St.block ?_ | refine St.ret ?_ | refine St.skip ?_ | refine St.exit ?_ | refine St.condT rfl ?_ | refine St.condF rfl ?_ | refine St.condY rfl (by omega) ?_ | refine St.condZ rfl (by omega) ?_) | (refine Qs.isQs ?_; first | refine Qs.then_normal ?_ | refine Qs.then_rounds ?_ | refine Qs.then_ret ?_ | refine Qs.then_exit ?_ | refine Qs.block_normal ?_ | refine Qs.block_ret ?_ | refine Qs.block_here ?_ | refine Qs.block_other rfl ?_) | refine RS.step ?_)
      refine St.condD rfl (fun e => ?_) (fun e => ?_)
      · repeat' (first | (refine SL.isSL ?_; first | (refine SL.isN ?_; first | refine SL.nA ?_ | refine SL.alloc rfl rfl (fun b => ?_) | refine SL.box rfl rfl rfl (fun b => ?_)) | (refine SL.isG ?_; first | refine SL.gF rfl rfl rfl ?_ | refine SL.gU rfl rfl rfl ?_ | refine SL.gA ?_) | (refine SL.isSt ?_; refine SL.stA ?_) | refine SL.nil ?_ | (refine SL.isG ?_; first | refine SL.gCase rfl rfl (fun e => ?_) (fun e => ?_) | refine SL.gCaseN rfl rfl (fun e => ?_) (fun e => ?_))) | (refine St.isSt ?_; first | refine St.seq ?_ | refine St.region ?_ | refine St.block ?_ | refine St.ret ?_ | refine St.skip ?_ | refine St.exit ?_ | refine St.condT rfl ?_ | refine St.condF rfl ?_ | refine St.condY rfl (by omega) ?_ | refine St.condZ rfl (by omega) ?_) | (refine Qs.isQs ?_; first | refine Qs.then_normal ?_ | refine Qs.then_rounds ?_ | refine Qs.then_ret ?_ | refine Qs.then_exit ?_ | refine Qs.block_normal ?_ | refine Qs.block_ret ?_ | refine Qs.block_here ?_ | refine Qs.block_other rfl ?_) | refine RS.step ?_)
        refine Qs.retVe rfl rfl rfl ?_
        rw [rtext_eq, rlay, if_neg e11, if_pos e]
      · have e1 := e
        repeat' (first | refine St.cutR 8 (α := Unit) (fun _ => [(1, .pointer (some ⟨b, 0, none⟩)), (3, .string (rhead1 t.kind t.s).1), (4, .string (rhead1 t.kind t.s).2)]) (fun _ => h) (fun _ => [(b, cel [.int .i64 t.kind, .string t.s, .int .i64 t.n, .slice A t.kids.length c] 29)]) (fun _ => True) ?_ ?_ | refine SL.callV rfl (Word_v t.kind hn.1 hn.2.1 _) rfl ?_ | refine SL.n (NOp.addS rfl rfl (by simp only [ByteArray.size_append, e40]; omega)) rfl ?_ | (refine SL.isSL ?_; first | (refine SL.isN ?_; first | refine SL.nA ?_ | refine SL.alloc rfl rfl (fun b => ?_) | refine SL.box rfl rfl rfl (fun b => ?_)) | (refine SL.isG ?_; first | refine SL.gF rfl rfl rfl ?_ | refine SL.gU rfl rfl rfl ?_ | refine SL.gA ?_) | (refine SL.isSt ?_; refine SL.stA ?_) | refine SL.nil ?_ | (refine SL.isG ?_; first | refine SL.gCase rfl rfl (fun e => ?_) (fun e => ?_) | refine SL.gCaseN rfl rfl (fun e => ?_) (fun e => ?_))) | (refine St.isSt ?_; first | refine St.seq ?_ | refine St.region ?_ | refine St.block ?_ | refine St.ret ?_ | refine St.skip ?_ | refine St.exit ?_ | refine St.condT rfl ?_ | refine St.condF rfl ?_ | refine St.condY rfl (by omega) ?_ | refine St.condZ rfl (by omega) ?_) | (refine Qs.isQs ?_; first | refine Qs.then_normal ?_ | refine Qs.then_rounds ?_ | refine Qs.then_ret ?_ | refine Qs.then_exit ?_ | refine Qs.block_normal ?_ | refine Qs.block_ret ?_ | refine Qs.block_here ?_ | refine Qs.block_other rfl ?_) | refine RS.step ?_)
        any_goals (try refine St.condD rfl (fun e => ?_) (fun e => ?_))
        all_goals repeat' (first | refine SL.n (NOp.addS rfl rfl (by simp only [ByteArray.size_append, e40]; omega)) rfl ?_ | (refine SL.isSL ?_; first | (refine SL.isN ?_; first | refine SL.nA ?_ | refine SL.alloc rfl rfl (fun b => ?_) | refine SL.box rfl rfl rfl (fun b => ?_)) | (refine SL.isG ?_; first | refine SL.gF rfl rfl rfl ?_ | refine SL.gU rfl rfl rfl ?_ | refine SL.gA ?_) | (refine SL.isSt ?_; refine SL.stA ?_) | refine SL.nil ?_ | (refine SL.isG ?_; first | refine SL.gCase rfl rfl (fun e => ?_) (fun e => ?_) | refine SL.gCaseN rfl rfl (fun e => ?_) (fun e => ?_))) | (refine St.isSt ?_; first | refine St.seq ?_ | refine St.region ?_ | refine St.block ?_ | refine St.ret ?_ | refine St.skip ?_ | refine St.exit ?_ | refine St.condT rfl ?_ | refine St.condF rfl ?_ | refine St.condY rfl (by omega) ?_ | refine St.condZ rfl (by omega) ?_) | (refine Qs.isQs ?_; first | refine Qs.then_normal ?_ | refine Qs.then_rounds ?_ | refine Qs.then_ret ?_ | refine Qs.then_exit ?_ | refine Qs.block_normal ?_ | refine Qs.block_ret ?_ | refine Qs.block_here ?_ | refine Qs.block_other rfl ?_) | refine RS.step ?_)
        any_goals (
          refine Some_.intro () trivial (fun _ _ z => z) rfl rfl ?_
          refine ⟨rfl, lk_eq rfl ?_, lk_eq rfl ?_, trivial⟩ <;> first | (simp [rhead1, *]; done) | (simp [rhead1, *]; rfl))
        rintro ⟨⟩ -
        repeat' (first | refine St.cutR 10 (α := Unit) (fun _ => [(1, .pointer (some ⟨b, 0, none⟩)), (3, .string (rhead t.kind t.s t.n).1), (4, .string (rhead t.kind t.s t.n).2)]) (fun _ => h) (fun _ => [(b, cel [.int .i64 t.kind, .string t.s, .int .i64 t.n, .slice A t.kids.length c] 29)]) (fun _ => True) ?_ ?_ | (refine SL.isSL ?_; first | (refine SL.isN ?_; first | refine SL.nA ?_ | refine SL.alloc rfl rfl (fun b => ?_) | refine SL.box rfl rfl rfl (fun b => ?_)) | (refine SL.isG ?_; first | refine SL.gF rfl rfl rfl ?_ | refine SL.gU rfl rfl rfl ?_ | refine SL.gA ?_) | (refine SL.isSt ?_; refine SL.stA ?_) | refine SL.nil ?_ | (refine SL.isG ?_; first | refine SL.gCase rfl rfl (fun e => ?_) (fun e => ?_) | refine SL.gCaseN rfl rfl (fun e => ?_) (fun e => ?_))) | (refine St.isSt ?_; first | refine St.seq ?_ | refine St.region ?_ | refine St.block ?_ | refine St.ret ?_ | refine St.skip ?_ | refine St.exit ?_ | refine St.condT rfl ?_ | refine St.condF rfl ?_ | refine St.condY rfl (by omega) ?_ | refine St.condZ rfl (by omega) ?_) | (refine Qs.isQs ?_; first | refine Qs.then_normal ?_ | refine Qs.then_rounds ?_ | refine Qs.then_ret ?_ | refine Qs.then_exit ?_ | refine Qs.block_normal ?_ | refine Qs.block_ret ?_ | refine Qs.block_here ?_ | refine Qs.block_other rfl ?_) | refine RS.step ?_)
        · refine St.condD rfl (fun e => ?_) (fun e => ?_)
          · have hq := hn.2.2 (.inr e)
            have hbi := bitoa_size t.n (by have := hq.1; omega) hq.2
            repeat' (first | refine SL.callV rfl (Digits_v t.n hq.1 hq.2 _) rfl ?_ | refine SL.n (NOp.addS rfl rfl (by omega)) rfl ?_ | (refine SL.isSL ?_; first | (refine SL.isN ?_; first | refine SL.nA ?_ | refine SL.alloc rfl rfl (fun b => ?_) | refine SL.box rfl rfl rfl (fun b => ?_)) | (refine SL.isG ?_; first | refine SL.gF rfl rfl rfl ?_ | refine SL.gU rfl rfl rfl ?_ | refine SL.gA ?_) | (refine SL.isSt ?_; refine SL.stA ?_) | refine SL.nil ?_ | (refine SL.isG ?_; first | refine SL.gCase rfl rfl (fun e => ?_) (fun e => ?_) | refine SL.gCaseN rfl rfl (fun e => ?_) (fun e => ?_))) | (refine St.isSt ?_; first | refine St.seq ?_ | refine St.region ?_ | refine St.block ?_ | refine St.ret ?_ | refine St.skip ?_ | refine St.exit ?_ | refine St.condT rfl ?_ | refine St.condF rfl ?_ | refine St.condY rfl (by omega) ?_ | refine St.condZ rfl (by omega) ?_) | (refine Qs.isQs ?_; first | refine Qs.then_normal ?_ | refine Qs.then_rounds ?_ | refine Qs.then_ret ?_ | refine Qs.then_exit ?_ | refine Qs.block_normal ?_ | refine Qs.block_ret ?_ | refine Qs.block_here ?_ | refine Qs.block_other rfl ?_) | refine RS.step ?_)
            refine Some_.intro () trivial (fun _ _ z => z) rfl rfl ?_
            refine ⟨rfl, lk_eq rfl ?_, lk_eq rfl ?_, trivial⟩ <;> simp [rhead_eq, e]
          · repeat' (first | (refine SL.isSL ?_; first | (refine SL.isN ?_; first | refine SL.nA ?_ | refine SL.alloc rfl rfl (fun b => ?_) | refine SL.box rfl rfl rfl (fun b => ?_)) | (refine SL.isG ?_; first | refine SL.gF rfl rfl rfl ?_ | refine SL.gU rfl rfl rfl ?_ | refine SL.gA ?_) | (refine SL.isSt ?_; refine SL.stA ?_) | refine SL.nil ?_ | (refine SL.isG ?_; first | refine SL.gCase rfl rfl (fun e => ?_) (fun e => ?_) | refine SL.gCaseN rfl rfl (fun e => ?_) (fun e => ?_))) | (refine St.isSt ?_; first | refine St.seq ?_ | refine St.region ?_ | refine St.block ?_ | refine St.ret ?_ | refine St.skip ?_ | refine St.exit ?_ | refine St.condT rfl ?_ | refine St.condF rfl ?_ | refine St.condY rfl (by omega) ?_ | refine St.condZ rfl (by omega) ?_) | (refine Qs.isQs ?_; first | refine Qs.then_normal ?_ | refine Qs.then_rounds ?_ | refine Qs.then_ret ?_ | refine Qs.then_exit ?_ | refine Qs.block_normal ?_ | refine Qs.block_ret ?_ | refine Qs.block_here ?_ | refine Qs.block_other rfl ?_) | refine RS.step ?_)
            refine Some_.intro () trivial (fun _ _ z => z) rfl rfl ?_
            refine ⟨rfl, lk_eq rfl ?_, lk_eq rfl ?_, trivial⟩ <;> simp [rhead_eq, e]
        · rintro ⟨⟩ -
          repeat' (first | (refine SL.isSL ?_; first | (refine SL.isN ?_; first | refine SL.nA ?_ | refine SL.alloc rfl rfl (fun b => ?_) | refine SL.box rfl rfl rfl (fun b => ?_)) | (refine SL.isG ?_; first | refine SL.gF rfl rfl rfl ?_ | refine SL.gU rfl rfl rfl ?_ | refine SL.gA ?_) | (refine SL.isSt ?_; refine SL.stA ?_) | refine SL.nil ?_ | (refine SL.isG ?_; first | refine SL.gCase rfl rfl (fun e => ?_) (fun e => ?_) | refine SL.gCaseN rfl rfl (fun e => ?_) (fun e => ?_))) | (refine St.isSt ?_; first | refine St.seq ?_ | refine St.region ?_ | refine St.block ?_ | refine St.ret ?_ | refine St.skip ?_ | refine St.exit ?_ | refine St.condT rfl ?_ | refine St.condF rfl ?_ | refine St.condY rfl (by omega) ?_ | refine St.condZ rfl (by omega) ?_) | (refine Qs.isQs ?_; first | refine Qs.then_normal ?_ | refine Qs.then_rounds ?_ | refine Qs.then_ret ?_ | refine Qs.then_exit ?_ | refine Qs.block_normal ?_ | refine Qs.block_ret ?_ | refine Qs.block_here ?_ | refine Qs.block_other rfl ?_) | refine RS.step ?_)
          refine St.loop (α := List Tr × List Tr) (fun p => [(1, .pointer (some ⟨b, 0, none⟩)), (3, .string ((p.1.map rtext).foldl rput (rhead t.kind t.s t.n)).1), (4, .string ((p.1.map rtext).foldl rput (rhead t.kind t.s t.n)).2), (46, .int .i64 t.kids.length), (47, .int .i64 p.1.length)]) (fun _ => h) (fun _ => [(b, cel [.int .i64 t.kind, .string t.s, .int .i64 t.n, .slice A t.kids.length c] 29)]) (fun p => t.kids = p.1 ++ p.2) (fun p => p.2.length) ([], t.kids) rfl rfl (by rfl) (by repeat (first | exact trivial | refine ⟨rfl, ?_⟩)) ?_
          rintro ⟨pre, rest⟩ el
          dsimp only at el ⊢
          have hpl : t.kids.length = pre.length + rest.length := by rw [el]; simp
          have hps := rput_size (pre.map rtext) _ (rhead_size t.kind t.s t.n hn).2
          have hhs := rhead_size t.kind t.s t.n hn
          have hbs := bsz_le pre (fun a ha => rok_kid hok (by rw [el]; simp [ha]))
          have hrs : rtsum t.kids = rtsum pre + rtsum rest := by rw [el]; simp [rtsum]
          cases rest with
          | nil =>
            simp only [List.length_nil, List.append_nil] at hpl el
            repeat' (first | refine SL.n (NOp.addS rfl rfl (by rw [e41]; omega)) rfl ?_ | (refine SL.isSL ?_; first | (refine SL.isN ?_; first | refine SL.nA ?_ | refine SL.alloc rfl rfl (fun b => ?_) | refine SL.box rfl rfl rfl (fun b => ?_)) | (refine SL.isG ?_; first | refine SL.gF rfl rfl rfl ?_ | refine SL.gU rfl rfl rfl ?_ | refine SL.gA ?_) | (refine SL.isSt ?_; refine SL.stA ?_) | refine SL.nil ?_ | (refine SL.isG ?_; first | refine SL.gCase rfl rfl (fun e => ?_) (fun e => ?_) | refine SL.gCaseN rfl rfl (fun e => ?_) (fun e => ?_))) | (refine St.isSt ?_; first | refine St.seq ?_ | refine St.region ?_ | refine St.block ?_ | refine St.ret ?_ | refine St.skip ?_ | refine St.exit ?_ | refine St.condT rfl ?_ | refine St.condF rfl ?_ | refine St.condY rfl (by omega) ?_ | refine St.condZ rfl (by omega) ?_) | (refine Qs.isQs ?_; first | refine Qs.then_normal ?_ | refine Qs.then_rounds ?_ | refine Qs.then_ret ?_ | refine Qs.then_exit ?_ | refine Qs.block_normal ?_ | refine Qs.block_ret ?_ | refine Qs.block_here ?_ | refine Qs.block_other rfl ?_) | refine RS.step ?_)
            refine Qs.retVe rfl rfl rfl ?_
            rw [rtext_eq, rlay, if_neg e11, if_neg e1, el]
          | cons a rest =>
            simp only [List.length_cons] at hpl
            obtain ⟨kb, off, ar, te, fr, Ki, rfl, hb, hTK, hat⟩ := hkid pre.length a (by rw [el]; simp)
            have hmem : a ∈ t.kids := by rw [el]; simp
            have hca := rkids_cnt hmem
            have hka := rok_kid hok hmem
            have hrc : rtsum (a :: rest) = rtsz a + rtsum rest := by simp [rtsum]
            have has := rtext_size a hka
            have ha := ih a (by omega) hka (by omega) h Ki hTK
            have hat' : ∀ j v, (fl a.kind a.s a.n Ki)[j]? = some v → ar[off + (pre.length : Int).toNat * 4 + j]? = some v := by simpa using hat
            repeat' (first | refine SL.n (NOp.idx rfl rfl (by omega)) rfl ?_ | refine SL.n (NOp.ldHA (vs := fl a.kind a.s a.n Ki) rfl hb rfl hat') rfl ?_ | refine SL.callV rfl ha rfl ?_ | refine SL.n (NOp.addS rfl rfl (by (try simp only [ByteArray.size_append]); omega)) rfl ?_ | (refine SL.isSL ?_; first | (refine SL.isN ?_; first | refine SL.nA ?_ | refine SL.alloc rfl rfl (fun b => ?_) | refine SL.box rfl rfl rfl (fun b => ?_)) | (refine SL.isG ?_; first | refine SL.gF rfl rfl rfl ?_ | refine SL.gU rfl rfl rfl ?_ | refine SL.gA ?_) | (refine SL.isSt ?_; refine SL.stA ?_) | refine SL.nil ?_ | (refine SL.isG ?_; first | refine SL.gCase rfl rfl (fun e => ?_) (fun e => ?_) | refine SL.gCaseN rfl rfl (fun e => ?_) (fun e => ?_))) | (refine St.isSt ?_; first | refine St.seq ?_ | refine St.region ?_ | refine St.block ?_ | refine St.ret ?_ | refine St.skip ?_ | refine St.exit ?_ | refine St.condT rfl ?_ | refine St.condF rfl ?_ | refine St.condY rfl (by omega) ?_ | refine St.condZ rfl (by omega) ?_) | (refine Qs.isQs ?_; first | refine Qs.then_normal ?_ | refine Qs.then_rounds ?_ | refine Qs.then_ret ?_ | refine Qs.then_exit ?_ | refine Qs.block_normal ?_ | refine Qs.block_ret ?_ | refine Qs.block_here ?_ | refine Qs.block_other rfl ?_) | refine RS.step ?_)
            refine Some_.intro (pre ++ [a], rest) ⟨by rw [el]; simp, by dsimp only; simp⟩ (fun _ _ x => x) rfl rfl ?_
            refine ⟨rfl, lk_eq rfl ?_, lk_eq rfl ?_, rfl, lk_eq rfl ?_, trivial⟩
            · simp [rput]
            · simp [rput]
            · simp
end Go.Proofs.YtfookachkcgdpaaDoor
