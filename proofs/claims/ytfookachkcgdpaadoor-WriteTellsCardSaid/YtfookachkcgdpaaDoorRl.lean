/- The reference's labels of a tree. Plain theorems; no condition. -/
import Derived.Test.YtfookachkcgdpaaDoorTr
set_option linter.unusedVariables false
set_option linter.unusedSimpArgs false
set_option maxRecDepth 100000
set_option maxHeartbeats 8000000
namespace Go.Proofs.YtfookachkcgdpaaDoor
open Go.RowKit
attribute [local irreducible] St SL Qs NOp TK SQ RS Fn FnV FnP

def rlabels : Tr → List ByteArray
  | .t0 k s _ => if k = 5 then [s] else []
  | .t1 k s _ a => (if k = 5 then [s] else []) ++ rlabels a
  | .t2 k s _ a b => (if k = 5 then [s] else []) ++ (rlabels a ++ rlabels b)
  | .t3 k s _ a b c => (if k = 5 then [s] else []) ++ (rlabels a ++ (rlabels b ++ rlabels c))
def rl0 (t : Tr) : List ByteArray := if t.kind = 5 then [t.s] else []
def rlf (l : List Tr) : List ByteArray := (l.map rlabels).flatten
theorem rlabels_eq (t : Tr) : rlabels t = rl0 t ++ rlf t.kids := by cases t <;> simp only [rlabels, rl0, rlf, Tr.kids, Tr.kind, Tr.s, List.map_nil, List.map_cons, List.flatten_nil, List.flatten_cons, List.append_nil] <;> (split <;> rename_i h5 <;> simp [h5])
theorem rlabels_cnt (t : Tr) : (rlabels t).length ≤ rcnt t := by
  induction t <;> simp only [rlabels, rcnt, List.length_append] <;> split <;> simp only [List.length_cons, List.length_nil] <;> omega
theorem RLabels : ∀ m (t : Tr), rcnt t ≤ m → m ≤ 1000000 → ∀ (h : GH) (K : Value), TK_ h t K → FnP Tryd.prog h 38 [TrV t K].toArray fun v h' => Sl h' v (rlabels t).length ((rlabels t).map Value.string) := by
  intro m
  induction m with
  | zero => intro t ht; exfalso; have := rkids_sum t; omega
  | succ m ih =>
    intro t ht hm h K hK
    obtain ⟨A, c, rfl, hc, hkid⟩ := hK.view
    have hsum := rkids_sum t
    have hle3 := rkids_len t
    refine FnP.enter Tryd.func38 rfl rfl rfl rfl fun w hg => ?_
    simp only [TrV, fl]
    repeat' (first | (refine SL.isSL ?_; first | (refine SL.isN ?_; first | refine SL.nA ?_ | refine SL.alloc rfl rfl (fun b => ?_) | refine SL.box rfl rfl rfl (fun b => ?_)) | (refine SL.isG ?_; first | refine SL.gF rfl rfl rfl ?_ | refine SL.gU rfl rfl rfl ?_ | refine SL.gA ?_) | (refine SL.isSt ?_; refine SL.stA ?_) | refine SL.nil ?_ | (refine SL.isG ?_; first | refine SL.gCase rfl rfl (fun e => ?_) (fun e => ?_) | refine SL.gCaseN rfl rfl (fun e => ?_) (fun e => ?_))) | (refine St.isSt ?_; first | refine St.seq ?_ | refine St.region ?_ | refine St.block ?_ | refine St.ret ?_ | refine St.skip ?_ | refine St.exit ?_ | refine St.condT rfl ?_ | refine St.condF rfl ?_ | refine St.condY rfl (by omega) ?_ | refine St.condZ rfl (by omega) ?_) | (refine Qs.isQs ?_; first | refine Qs.then_normal ?_ | refine Qs.then_rounds ?_ | refine Qs.then_ret ?_ | refine Qs.then_exit ?_ | refine Qs.block_normal ?_ | refine Qs.block_ret ?_ | refine Qs.block_here ?_ | refine Qs.block_other rfl ?_) | refine RS.step ?_)
    refine St.condD rfl (fun e => ?_) (fun e => ?_)
    · have e0 := e
      have hr0 : rl0 t = [t.s] := by simp [rl0, e0]
      repeat' (first | (refine SL.isSL ?_; first | (refine SL.isN ?_; first | refine SL.nA ?_ | refine SL.alloc rfl rfl (fun b => ?_) | refine SL.box rfl rfl rfl (fun b => ?_)) | (refine SL.isG ?_; first | refine SL.gF rfl rfl rfl ?_ | refine SL.gU rfl rfl rfl ?_ | refine SL.gA ?_) | (refine SL.isSt ?_; refine SL.stA ?_) | refine SL.nil ?_ | (refine SL.isG ?_; first | refine SL.gCase rfl rfl (fun e => ?_) (fun e => ?_) | refine SL.gCaseN rfl rfl (fun e => ?_) (fun e => ?_))) | (refine St.isSt ?_; first | refine St.seq ?_ | refine St.region ?_ | refine St.block ?_ | refine St.ret ?_ | refine St.skip ?_ | refine St.exit ?_ | refine St.condT rfl ?_ | refine St.condF rfl ?_ | refine St.condY rfl (by omega) ?_ | refine St.condZ rfl (by omega) ?_) | (refine Qs.isQs ?_; first | refine Qs.then_normal ?_ | refine Qs.then_rounds ?_ | refine Qs.then_ret ?_ | refine Qs.then_exit ?_ | refine Qs.block_normal ?_ | refine Qs.block_ret ?_ | refine Qs.block_here ?_ | refine Qs.block_other rfl ?_) | refine RS.step ?_)
      refine SL.lit rfl (by repeat (first | exact CellsL.nil | apply CellsL.cons rfl | apply CellsL.cons (cells_enc _) | apply CellsL.cons (One.cells (by assumption)))) rfl rfl rfl rfl rfl rfl (fun b9 h1 hle hb => ?_)
      refine SL.append rfl rfl (OwnS.nil _ _) rfl (Rd.lit hb) rfl (str_one [t.s]) rfl rfl rfl (by omega) rfl (fun w9 ob9 ho9 => ?_)
      refine SL.perm _ (List.perm_append_singleton _ _) ?_
      generalize hks : t.kids = ks at hc hkid hsum hle3 ⊢
      repeat' (first | (refine SL.isSL ?_; first | (refine SL.isN ?_; first | refine SL.nA ?_ | refine SL.alloc rfl rfl (fun b => ?_) | refine SL.box rfl rfl rfl (fun b => ?_)) | (refine SL.isG ?_; first | refine SL.gF rfl rfl rfl ?_ | refine SL.gU rfl rfl rfl ?_ | refine SL.gA ?_) | (refine SL.isSt ?_; refine SL.stA ?_) | refine SL.nil ?_ | (refine SL.isG ?_; first | refine SL.gCase rfl rfl (fun e => ?_) (fun e => ?_) | refine SL.gCaseN rfl rfl (fun e => ?_) (fun e => ?_))) | (refine St.isSt ?_; first | refine St.seq ?_ | refine St.region ?_ | refine St.block ?_ | refine St.ret ?_ | refine St.skip ?_ | refine St.exit ?_ | refine St.condT rfl ?_ | refine St.condF rfl ?_ | refine St.condY rfl (by omega) ?_ | refine St.condZ rfl (by omega) ?_) | (refine Qs.isQs ?_; first | refine Qs.then_normal ?_ | refine Qs.then_rounds ?_ | refine Qs.then_ret ?_ | refine Qs.then_exit ?_ | refine Qs.block_normal ?_ | refine Qs.block_ret ?_ | refine Qs.block_here ?_ | refine Qs.block_other rfl ?_) | refine RS.step ?_)
      refine St.loop (α := List Tr × List Tr × Value × GH × Blks) (fun p => [(1, .pointer (some ⟨b, 0, none⟩)), (3, p.2.2.1), (15, .int .i64 ks.length), (16, .int .i64 p.1.length)]) (fun p => p.2.2.2.1) (fun p => (b, cel [.int .i64 t.kind, .string t.s, .int .i64 t.n, .slice A ks.length c] 29) :: p.2.2.2.2)
        (fun p => ks = p.1 ++ p.2.1 ∧ GH.le h p.2.2.2.1 ∧ OwnS 9 1 p.2.2.1 (rl0 t ++ rlf p.1).length ((rl0 t ++ rlf p.1).map Value.string) p.2.2.2.2) (fun p => p.2.1.length) ([], ks, _, _, ob9) ⟨rfl, hle, (by rw [hr0]; simpa [rlf] using ho9)⟩ rfl (by rfl) (by repeat (first | exact trivial | refine ⟨rfl, ?_⟩)) ?_
      rintro ⟨pre, rest, u, gh, ob⟩ ⟨e, hgh, how⟩
      dsimp only at e hgh how ⊢
      have hpl : ks.length = pre.length + rest.length := by rw [e]; simp
      cases rest with
      | nil =>
        simp only [List.length_nil] at hpl
        repeat' (first | (refine SL.isSL ?_; first | (refine SL.isN ?_; first | refine SL.nA ?_ | refine SL.alloc rfl rfl (fun b => ?_) | refine SL.box rfl rfl rfl (fun b => ?_)) | (refine SL.isG ?_; first | refine SL.gF rfl rfl rfl ?_ | refine SL.gU rfl rfl rfl ?_ | refine SL.gA ?_) | (refine SL.isSt ?_; refine SL.stA ?_) | refine SL.nil ?_ | (refine SL.isG ?_; first | refine SL.gCase rfl rfl (fun e => ?_) (fun e => ?_) | refine SL.gCaseN rfl rfl (fun e => ?_) (fun e => ?_))) | (refine St.isSt ?_; first | refine St.seq ?_ | refine St.region ?_ | refine St.block ?_ | refine St.ret ?_ | refine St.skip ?_ | refine St.exit ?_ | refine St.condT rfl ?_ | refine St.condF rfl ?_ | refine St.condY rfl (by omega) ?_ | refine St.condZ rfl (by omega) ?_) | (refine Qs.isQs ?_; first | refine Qs.then_normal ?_ | refine Qs.then_rounds ?_ | refine Qs.then_ret ?_ | refine Qs.then_exit ?_ | refine Qs.block_normal ?_ | refine Qs.block_ret ?_ | refine Qs.block_here ?_ | refine Qs.block_other rfl ?_) | refine RS.step ?_)
        refine Qs.ownS how (List.perm_append_singleton _ _).symm (fun q hq => absurd hq (List.not_mem_nil)) (fun gz hlez hz => ?_)
        refine Qs.retP rfl rfl ?_
        rw [rlabels_eq, hks, e, List.append_nil]
        exact hz
      | cons a rest =>
        obtain ⟨kb, off, ar, te, fr, Ki, rfl, hb, hTK, hat⟩ := hkid pre.length a (by rw [e]; simp)
        have hmem : a ∈ t.kids := by rw [hks, e]; simp
        have hca := rkids_cnt hmem
        have ha := ih a (by omega) (by omega) gh Ki (hTK.le hgh)
        have hla := rlabels_cnt a
        have hlt := rlabels_cnt t
        have hlp : (rl0 t ++ rlf pre).length + (rlabels a).length ≤ (rlabels t).length := by rw [rlabels_eq t, hks, e]; simp [rlf]; omega
        simp only [List.length_cons] at hpl
        have hat' : ∀ j v, (fl a.kind a.s a.n Ki)[j]? = some v → ar[off + (pre.length : Int).toNat * 4 + j]? = some v := by simpa using hat
        repeat' (first | refine SL.n (NOp.idx rfl rfl (by omega)) rfl ?_ | refine SL.n (NOp.ldHA (vs := fl a.kind a.s a.n Ki) rfl (hgh _ _ hb) rfl hat') rfl ?_ | (refine SL.isSL ?_; first | (refine SL.isN ?_; first | refine SL.nA ?_ | refine SL.alloc rfl rfl (fun b => ?_) | refine SL.box rfl rfl rfl (fun b => ?_)) | (refine SL.isG ?_; first | refine SL.gF rfl rfl rfl ?_ | refine SL.gU rfl rfl rfl ?_ | refine SL.gA ?_) | (refine SL.isSt ?_; refine SL.stA ?_) | refine SL.nil ?_ | (refine SL.isG ?_; first | refine SL.gCase rfl rfl (fun e => ?_) (fun e => ?_) | refine SL.gCaseN rfl rfl (fun e => ?_) (fun e => ?_))) | (refine St.isSt ?_; first | refine St.seq ?_ | refine St.region ?_ | refine St.block ?_ | refine St.ret ?_ | refine St.skip ?_ | refine St.exit ?_ | refine St.condT rfl ?_ | refine St.condF rfl ?_ | refine St.condY rfl (by omega) ?_ | refine St.condZ rfl (by omega) ?_) | (refine Qs.isQs ?_; first | refine Qs.then_normal ?_ | refine Qs.then_rounds ?_ | refine Qs.then_ret ?_ | refine Qs.then_exit ?_ | refine Qs.block_normal ?_ | refine Qs.block_ret ?_ | refine Qs.block_here ?_ | refine Qs.block_other rfl ?_) | refine RS.step ?_)
        refine SL.callP rfl ha rfl (fun v9 g9 hle9 hv9 => ?_)
        obtain ⟨A1, c1, rfl, hc1, hr1⟩ := hv9
        refine SL.perm _ (List.perm_append_singleton _ _).symm ?_
        refine SL.append rfl rfl how rfl hr1 (by simp) (str_one _) rfl rfl rfl (by omega) rfl (fun w8 ob8 ho8 => ?_)
        refine SL.perm _ (List.perm_append_singleton _ _) ?_
        repeat' (first | (refine SL.isSL ?_; first | (refine SL.isN ?_; first | refine SL.nA ?_ | refine SL.alloc rfl rfl (fun b => ?_) | refine SL.box rfl rfl rfl (fun b => ?_)) | (refine SL.isG ?_; first | refine SL.gF rfl rfl rfl ?_ | refine SL.gU rfl rfl rfl ?_ | refine SL.gA ?_) | (refine SL.isSt ?_; refine SL.stA ?_) | refine SL.nil ?_ | (refine SL.isG ?_; first | refine SL.gCase rfl rfl (fun e => ?_) (fun e => ?_) | refine SL.gCaseN rfl rfl (fun e => ?_) (fun e => ?_))) | (refine St.isSt ?_; first | refine St.seq ?_ | refine St.region ?_ | refine St.block ?_ | refine St.ret ?_ | refine St.skip ?_ | refine St.exit ?_ | refine St.condT rfl ?_ | refine St.condF rfl ?_ | refine St.condY rfl (by omega) ?_ | refine St.condZ rfl (by omega) ?_) | (refine Qs.isQs ?_; first | refine Qs.then_normal ?_ | refine Qs.then_rounds ?_ | refine Qs.then_ret ?_ | refine Qs.then_exit ?_ | refine Qs.block_normal ?_ | refine Qs.block_ret ?_ | refine Qs.block_here ?_ | refine Qs.block_other rfl ?_) | refine RS.step ?_)
        refine Some_.intro (pre ++ [a], rest, w8, g9, ob8) ⟨⟨by rw [e]; simp, hgh.trans hle9, ?_⟩, by dsimp only; simp⟩ (fun _ _ x => x) rfl rfl ?_
        · refine ⟨rfl, rfl, rfl, lk_eq rfl ?_, trivial⟩
          simp
        · have e1 : rl0 t ++ rlf (pre ++ [a]) = (rl0 t ++ rlf pre) ++ rlabels a := by simp [rlf]
          dsimp only
          rw [e1, List.map_append, List.length_append]
          exact ho8
    · have e0 := e
      have hr0 : rl0 t = [] := by simp [rl0, e0]
      generalize hks : t.kids = ks at hc hkid hsum hle3 ⊢
      repeat' (first | (refine SL.isSL ?_; first | (refine SL.isN ?_; first | refine SL.nA ?_ | refine SL.alloc rfl rfl (fun b => ?_) | refine SL.box rfl rfl rfl (fun b => ?_)) | (refine SL.isG ?_; first | refine SL.gF rfl rfl rfl ?_ | refine SL.gU rfl rfl rfl ?_ | refine SL.gA ?_) | (refine SL.isSt ?_; refine SL.stA ?_) | refine SL.nil ?_ | (refine SL.isG ?_; first | refine SL.gCase rfl rfl (fun e => ?_) (fun e => ?_) | refine SL.gCaseN rfl rfl (fun e => ?_) (fun e => ?_))) | (refine St.isSt ?_; first | refine St.seq ?_ | refine St.region ?_ | refine St.block ?_ | refine St.ret ?_ | refine St.skip ?_ | refine St.exit ?_ | refine St.condT rfl ?_ | refine St.condF rfl ?_ | refine St.condY rfl (by omega) ?_ | refine St.condZ rfl (by omega) ?_) | (refine Qs.isQs ?_; first | refine Qs.then_normal ?_ | refine Qs.then_rounds ?_ | refine Qs.then_ret ?_ | refine Qs.then_exit ?_ | refine Qs.block_normal ?_ | refine Qs.block_ret ?_ | refine Qs.block_here ?_ | refine Qs.block_other rfl ?_) | refine RS.step ?_)
      refine St.loop (α := List Tr × List Tr × Value × GH × Blks) (fun p => [(1, .pointer (some ⟨b, 0, none⟩)), (3, p.2.2.1), (15, .int .i64 ks.length), (16, .int .i64 p.1.length)]) (fun p => p.2.2.2.1) (fun p => (b, cel [.int .i64 t.kind, .string t.s, .int .i64 t.n, .slice A ks.length c] 29) :: p.2.2.2.2)
        (fun p => ks = p.1 ++ p.2.1 ∧ GH.le h p.2.2.2.1 ∧ OwnS 9 1 p.2.2.1 (rl0 t ++ rlf p.1).length ((rl0 t ++ rlf p.1).map Value.string) p.2.2.2.2) (fun p => p.2.1.length) ([], ks, _, _, []) ⟨rfl, GH.le.refl _, (by rw [hr0]; simpa [rlf] using OwnS.nil 9 1)⟩ rfl (by rfl) (by repeat (first | exact trivial | refine ⟨rfl, ?_⟩)) ?_
      rintro ⟨pre, rest, u, gh, ob⟩ ⟨e, hgh, how⟩
      dsimp only at e hgh how ⊢
      have hpl : ks.length = pre.length + rest.length := by rw [e]; simp
      cases rest with
      | nil =>
        simp only [List.length_nil] at hpl
        repeat' (first | (refine SL.isSL ?_; first | (refine SL.isN ?_; first | refine SL.nA ?_ | refine SL.alloc rfl rfl (fun b => ?_) | refine SL.box rfl rfl rfl (fun b => ?_)) | (refine SL.isG ?_; first | refine SL.gF rfl rfl rfl ?_ | refine SL.gU rfl rfl rfl ?_ | refine SL.gA ?_) | (refine SL.isSt ?_; refine SL.stA ?_) | refine SL.nil ?_ | (refine SL.isG ?_; first | refine SL.gCase rfl rfl (fun e => ?_) (fun e => ?_) | refine SL.gCaseN rfl rfl (fun e => ?_) (fun e => ?_))) | (refine St.isSt ?_; first | refine St.seq ?_ | refine St.region ?_ | refine St.block ?_ | refine St.ret ?_ | refine St.skip ?_ | refine St.exit ?_ | refine St.condT rfl ?_ | refine St.condF rfl ?_ | refine St.condY rfl (by omega) ?_ | refine St.condZ rfl (by omega) ?_) | (refine Qs.isQs ?_; first | refine Qs.then_normal ?_ | refine Qs.then_rounds ?_ | refine Qs.then_ret ?_ | refine Qs.then_exit ?_ | refine Qs.block_normal ?_ | refine Qs.block_ret ?_ | refine Qs.block_here ?_ | refine Qs.block_other rfl ?_) | refine RS.step ?_)
        refine Qs.ownS how (List.perm_append_singleton _ _).symm (fun q hq => absurd hq (List.not_mem_nil)) (fun gz hlez hz => ?_)
        refine Qs.retP rfl rfl ?_
        rw [rlabels_eq, hks, e, List.append_nil]
        exact hz
      | cons a rest =>
        obtain ⟨kb, off, ar, te, fr, Ki, rfl, hb, hTK, hat⟩ := hkid pre.length a (by rw [e]; simp)
        have hmem : a ∈ t.kids := by rw [hks, e]; simp
        have hca := rkids_cnt hmem
        have ha := ih a (by omega) (by omega) gh Ki (hTK.le hgh)
        have hla := rlabels_cnt a
        have hlt := rlabels_cnt t
        have hlp : (rl0 t ++ rlf pre).length + (rlabels a).length ≤ (rlabels t).length := by rw [rlabels_eq t, hks, e]; simp [rlf]; omega
        simp only [List.length_cons] at hpl
        have hat' : ∀ j v, (fl a.kind a.s a.n Ki)[j]? = some v → ar[off + (pre.length : Int).toNat * 4 + j]? = some v := by simpa using hat
        repeat' (first | refine SL.n (NOp.idx rfl rfl (by omega)) rfl ?_ | refine SL.n (NOp.ldHA (vs := fl a.kind a.s a.n Ki) rfl (hgh _ _ hb) rfl hat') rfl ?_ | (refine SL.isSL ?_; first | (refine SL.isN ?_; first | refine SL.nA ?_ | refine SL.alloc rfl rfl (fun b => ?_) | refine SL.box rfl rfl rfl (fun b => ?_)) | (refine SL.isG ?_; first | refine SL.gF rfl rfl rfl ?_ | refine SL.gU rfl rfl rfl ?_ | refine SL.gA ?_) | (refine SL.isSt ?_; refine SL.stA ?_) | refine SL.nil ?_ | (refine SL.isG ?_; first | refine SL.gCase rfl rfl (fun e => ?_) (fun e => ?_) | refine SL.gCaseN rfl rfl (fun e => ?_) (fun e => ?_))) | (refine St.isSt ?_; first | refine St.seq ?_ | refine St.region ?_ | refine St.block ?_ | refine St.ret ?_ | refine St.skip ?_ | refine St.exit ?_ | refine St.condT rfl ?_ | refine St.condF rfl ?_ | refine St.condY rfl (by omega) ?_ | refine St.condZ rfl (by omega) ?_) | (refine Qs.isQs ?_; first | refine Qs.then_normal ?_ | refine Qs.then_rounds ?_ | refine Qs.then_ret ?_ | refine Qs.then_exit ?_ | refine Qs.block_normal ?_ | refine Qs.block_ret ?_ | refine Qs.block_here ?_ | refine Qs.block_other rfl ?_) | refine RS.step ?_)
        refine SL.callP rfl ha rfl (fun v9 g9 hle9 hv9 => ?_)
        obtain ⟨A1, c1, rfl, hc1, hr1⟩ := hv9
        refine SL.perm _ (List.perm_append_singleton _ _).symm ?_
        refine SL.append rfl rfl how rfl hr1 (by simp) (str_one _) rfl rfl rfl (by omega) rfl (fun w8 ob8 ho8 => ?_)
        refine SL.perm _ (List.perm_append_singleton _ _) ?_
        repeat' (first | (refine SL.isSL ?_; first | (refine SL.isN ?_; first | refine SL.nA ?_ | refine SL.alloc rfl rfl (fun b => ?_) | refine SL.box rfl rfl rfl (fun b => ?_)) | (refine SL.isG ?_; first | refine SL.gF rfl rfl rfl ?_ | refine SL.gU rfl rfl rfl ?_ | refine SL.gA ?_) | (refine SL.isSt ?_; refine SL.stA ?_) | refine SL.nil ?_ | (refine SL.isG ?_; first | refine SL.gCase rfl rfl (fun e => ?_) (fun e => ?_) | refine SL.gCaseN rfl rfl (fun e => ?_) (fun e => ?_))) | (refine St.isSt ?_; first | refine St.seq ?_ | refine St.region ?_ | refine St.block ?_ | refine St.ret ?_ | refine St.skip ?_ | refine St.exit ?_ | refine St.condT rfl ?_ | refine St.condF rfl ?_ | refine St.condY rfl (by omega) ?_ | refine St.condZ rfl (by omega) ?_) | (refine Qs.isQs ?_; first | refine Qs.then_normal ?_ | refine Qs.then_rounds ?_ | refine Qs.then_ret ?_ | refine Qs.then_exit ?_ | refine Qs.block_normal ?_ | refine Qs.block_ret ?_ | refine Qs.block_here ?_ | refine Qs.block_other rfl ?_) | refine RS.step ?_)
        refine Some_.intro (pre ++ [a], rest, w8, g9, ob8) ⟨⟨by rw [e]; simp, hgh.trans hle9, ?_⟩, by dsimp only; simp⟩ (fun _ _ x => x) rfl rfl ?_
        · refine ⟨rfl, rfl, rfl, lk_eq rfl ?_, trivial⟩
          simp
        · have e1 : rl0 t ++ rlf (pre ++ [a]) = (rl0 t ++ rlf pre) ++ rlabels a := by simp [rlf]
          dsimp only
          rw [e1, List.map_append, List.length_append]
          exact ho8
end Go.Proofs.YtfookachkcgdpaaDoor
