/- Contracts of the functions over trees, of the exact laws' helpers, and of the law FnExactTreClear, for all arguments. Merged: V11, V12, V13, V14, V15, V16, V17, V18. -/
import Derived.Test.YtfokmnafgabdiaaDoorEd
/- Trees that are ok, whatever they hold. -/
namespace Go.Proofs.YtfokmnafgabdiaaDoor.Eng
open Go Go.RowKit Kw
set_option linter.unusedVariables false
set_option linter.unusedSimpArgs false
set_option maxRecDepth 10000
set_option maxHeartbeats 4000000
abbrev vI (n : Int) : V := .w (.one (.c (.lit (.int .i64 n))))
abbrev vB (b : Bool) : V := .w (.one (.c (.lit (.bool b))))
abbrev vS (s : List UInt8) : V := .w (.one (.c (.lit (.string (mk s)))))
/-- What is neither a key nor none. -/
def badS (s : List UInt8) : Bool := decide (s ≠ []) && !keyS s
theorem bad_ct (s : List UInt8) : Ct Tryd.prog 56 [bS s] (.w (bB (badS s))) := by
  refine Ct.z wd Tryd.func56 rfl rfl Tryd.ntmps56 rfl rfl rfl rfl ?_
  repeat' ((conv => whnf); (first | (refine hK _ _ _ ?_; clear hK K) | refine Z.reg wd (fun K hK => ?_) | refine Z.seq ?_ | refine Z.ret rfl ?_ | refine IfB.T rfl ?_ | refine IfB.F rfl ?_ | refine IfB.D (fun h => ?_) (fun h => ?_) | refine CallW.mk _ (isKey_ct _) ?_ | refine EqB.mk ?_))
  · rw [badS, decide_eq_true h]; rfl
  · rw [badS, decide_eq_false h]; rfl
attribute [irreducible] badS
/-- Where the first one is that is neither; -1, if none is. -/
def badI : Nat → List (List UInt8) → Int
  | _, [] => -1
  | i, s :: l => if badS s = true then (i : Int) else badI (i + 1) l
theorem badI_drop {l : List (List UInt8)} {i : Nat} {s : List UInt8} (h : l[i]? = some s) : badI i (l.drop i) = if badS s = true then (i : Int) else badI (i + 1) (l.drop (i + 1)) := by
  have hi : i < l.length := (List.getElem?_eq_some_iff.mp h).1
  have hs : l[i] = s := (List.getElem?_eq_some_iff.mp h).2
  rw [List.drop_eq_getElem_cons hi, badI, hs]
theorem badI_end {l : List (List UInt8)} {i : Nat} (h : ¬ i < l.length) : badI i (l.drop i) = -1 := by
  rw [List.drop_eq_nil_of_le (by omega)]; rfl
theorem badI_neg : ∀ (l : List (List UInt8)) (i : Nat), badI i l ≥ 0 ↔ ∃ s ∈ l, badS s = true := by
  intro l
  induction l with
  | nil => intro i; simp [badI]
  | cons s l ih =>
    intro i
    rw [badI]
    by_cases hs : badS s = true
    · simp [hs]
    · rw [if_neg hs, ih]; simp [hs]
theorem badIx_ct (l : List (List UInt8)) (hl : l.length ≤ mostRows) : Ct Tryd.prog 102 [bSs l, .one (.clo 56 [])] (.w (bI (badI 0 l))) := by
  simp only [mostRows] at hl
  refine Ct.z wd Tryd.func102 rfl rfl Tryd.ntmps102 rfl rfl rfl rfl ?_
  repeat' ((conv => whnf); (first | (refine hK _ _ _ ?_; clear hK K) | refine Z.reg wd (fun K hK => ?_) | refine Z.seq ?_ | refine Z.block ?_ | refine Calc.mk _ (rS_len _) ?_))
  refine Z.loopK [0, 1, 7, 8] ?_; (conv => whnf); refine LoopZ.mk (α := Nat) (fun i => [(8, vI i)]) (fun i => []) (fun i => i ≤ l.length ∧ badI i (l.drop i) = badI 0 l) (fun i => l.length - i) 0 rfl rfl (by exact ⟨by omega, rfl⟩) ?_; intro nF i hI next; refine Z.force ?_
  by_cases hlt : i < l.length
  · have hs : l[i]? = some l[i] := List.getElem?_eq_getElem hlt
    have hd := badI_drop hs
    obtain ⟨h1, h2⟩ := hI
    rw [hd] at h2
    clear hd
    by_cases hb : badS l[i] = true
    · rw [if_pos hb] at h2
      rw [← h2]
      repeat' ((conv => whnf); (first | (refine hK _ _ _ ?_; clear hK K) | refine Z.reg wd (fun K hK => ?_) | refine Z.seq ?_ | refine Z.skip ?_ | refine Z.cond (E := Ee) ?_ | refine Z.ret rfl ?_ | refine Z.block ?_ | refine IfB.T (by assumption) ?_ | refine IfB.DT (by first | assumption | omega | (simp; done) | fail) ?_ | refine Need.mk (by first | omega | (simp only [strMost, mostRows, rS_len, rI_len, List.length_append, List.length_map, List.length_set, List.length_replicate, List.length_cons, List.length_nil, List.length_drop, List.length_take, letterL_len] at *; omega) | (simp at *; omega) | fail) ?_ | refine CallW.mk _ (bad_ct _) ?_ | refine Find.mk _ (rS_get (by assumption)) ?_ | exact EqB.mk rfl))
    · rw [if_neg hb] at h2
      have hb : badS l[i] = false := by simpa using hb
      repeat' ((conv => whnf); (first | (refine hK _ _ _ ?_; clear hK K) | refine Z.reg wd (fun K hK => ?_) | refine Z.seq ?_ | refine Z.skip ?_ | refine Z.cond (E := Ee) ?_ | refine Z.block ?_ | refine Z.blockEnd ?_ | refine IfB.F (by assumption) ?_ | refine IfB.DT (by first | assumption | omega | (simp; done) | fail) ?_ | refine Need.mk (by first | omega | (simp only [strMost, mostRows, rS_len, rI_len, List.length_append, List.length_map, List.length_set, List.length_replicate, List.length_cons, List.length_nil, List.length_drop, List.length_take, letterL_len] at *; omega) | (simp at *; omega) | fail) ?_ | refine CallW.mk _ (bad_ct _) ?_ | refine Find.mk _ (rS_get (by assumption)) ?_))
      (refine Z.next (L := ?L) (next (i + 1) (by exact ⟨by omega, h2⟩) (by omega)) ?eL ?hc ?e1 ?e2 ?em; (case eL => exact rfl); all_goals exact rfl)
  · rw [badI_end hlt] at hI
    rw [← hI.2]
    repeat' ((conv => whnf); (first | (refine hK _ _ _ ?_; clear hK K) | refine Z.reg wd (fun K hK => ?_) | refine Z.seq ?_ | refine Z.cond (E := Ee) ?_ | refine Z.ret rfl ?_ | refine Z.exit rfl ?_ | refine IfB.DF (by first | assumption | omega | (simp; done) | fail) ?_ | exact EqB.mk rfl))
theorem badAny_ct (l : List (List UInt8)) (hl : l.length ≤ mostRows) : Ct Tryd.prog 55 [bSs l, .one (.clo 56 [])] (.w (bB (decide (badI 0 l ≥ 0)))) := by
  refine Ct.z wd Tryd.func55 rfl rfl Tryd.ntmps55 rfl rfl rfl rfl ?_
  repeat' ((conv => whnf); (first | (refine hK _ _ _ ?_; clear hK K) | refine Z.reg wd (fun K hK => ?_) | refine Z.seq ?_ | refine Z.ret rfl ?_ | refine CallW.mk _ (badIx_ct _ (by first | omega | (simp only [strMost, mostRows, rS_len, rI_len, List.length_append, List.length_map, List.length_set, List.length_replicate, List.length_cons, List.length_nil, List.length_drop, List.length_take, letterL_len] at *; omega) | (simp at *; omega) | fail)) ?_ | exact EqB.mk rfl))
abbrev bT (l : List (List UInt8)) : BW := .agg [.b (.c (.ro 1 (rS l)))]
/-- Whether a list is a tree's that is ok. -/
def okT (l : List (List UInt8)) : Bool := decide (l.length = 15 ∧ ∀ s ∈ l, badS s = false)
theorem okT_len {l : List (List UInt8)} (h : okT l = true) : l.length = 15 := by unfold okT at h; exact (of_decide_eq_true h).1
theorem okT_of {l : List (List UInt8)} (h : l.length = 15) : okT l = !decide (badI 0 l ≥ 0) := by
  unfold okT
  by_cases hb : badI 0 l ≥ 0
  · rw [decide_eq_true hb]
    obtain ⟨s, h1, h2⟩ := (badI_neg l 0).mp hb
    simp only [Bool.not_true, decide_eq_false_iff_not]
    rintro ⟨_, q⟩
    rw [q s h1] at h2; cases h2
  · rw [decide_eq_false hb]
    simp only [Bool.not_false, decide_eq_true_eq]
    refine ⟨h, fun s hs => ?_⟩
    cases e : badS s with
    | false => rfl
    | true => exact absurd ((badI_neg l 0).mpr ⟨s, hs, e⟩) hb
theorem okT_no {l : List (List UInt8)} (h : l.length ≠ 15) : okT l = false := by
  unfold okT
  simp only [decide_eq_false_iff_not]
  exact fun q => h q.1
attribute [irreducible] okT
theorem treOk_ct (l : List (List UInt8)) (hl : l.length ≤ mostRows) : Ct Tryd.prog 14 [bT l] (.w (bB (okT l))) := by
  by_cases h : l.length = 15
  · rw [okT_of h]
    refine Ct.z wd Tryd.func14 rfl rfl Tryd.ntmps14 rfl rfl rfl rfl ?_
    repeat' ((conv => whnf); (first | (refine hK _ _ _ ?_; clear hK K) | refine Z.reg wd (fun K hK => ?_) | refine Z.seq ?_ | refine Z.ret rfl ?_ | refine IfB.T rfl ?_ | refine IfB.DT (by first | assumption | omega | (simp; done) | fail) ?_ | refine CallW.mk _ (badAny_ct _ (by first | omega | (simp only [strMost, mostRows, rS_len, rI_len, List.length_append, List.length_map, List.length_set, List.length_replicate, List.length_cons, List.length_nil, List.length_drop, List.length_take, letterL_len] at *; omega) | (simp at *; omega) | fail)) ?_ | refine Calc.mk _ (rS_len _) ?_ | exact EqB.mk rfl))
  · rw [okT_no h]
    refine Ct.z wd Tryd.func14 rfl rfl Tryd.ntmps14 rfl rfl rfl rfl ?_
    repeat' ((conv => whnf); (first | (refine hK _ _ _ ?_; clear hK K) | refine Z.reg wd (fun K hK => ?_) | refine Z.seq ?_ | refine Z.ret rfl ?_ | refine IfB.F rfl ?_ | refine IfB.DF (by first | assumption | omega | (simp; done) | fail) ?_ | refine Calc.mk _ (rS_len _) ?_ | exact EqB.mk rfl))
end Go.Proofs.YtfokmnafgabdiaaDoor.Eng
/- Trees: places, copies, keys set, keys cleared. -/
namespace Go.Proofs.YtfokmnafgabdiaaDoor.Eng
open Go Go.RowKit Kw
set_option linter.unusedVariables false
set_option linter.unusedSimpArgs false
set_option maxRecDepth 10000
set_option maxHeartbeats 4000000
theorem rS_takeall {l : List (List UInt8)} {n : Nat} (h : n = l.length) : (rS l).take n = rS l := by
  rw [List.take_of_length_le (by rw [rS_len]; omega)]
theorem rI_takeall {l : List Int} {n : Nat} (h : n = l.length) : (rI l).take n = rI l := by
  rw [List.take_of_length_le (by rw [rI_len]; omega)]
abbrev oI (l : List Int) (cap : Option Nat) : BV := .w (.one (.b (.own 1 (rI l) cap)))
abbrev oS (l : List (List UInt8)) (cap : Option Nat) : BV := .w (.one (.b (.own 1 (rS l) cap)))
abbrev oT (l : List (List UInt8)) (cap : Option Nat) : BV := .w (.agg [.b (.own 1 (rS l) cap)])
theorem eight {n : Int} (h : 0 ≤ n ∧ n ≤ 7) : n = 0 ∨ n = 1 ∨ n = 2 ∨ n = 3 ∨ n = 4 ∨ n = 5 ∨ n = 6 ∨ n = 7 := by omega
theorem eightL {n : Int} (h : 7 ≤ n ∧ n ≤ 14) : n = 7 ∨ n = 8 ∨ n = 9 ∨ n = 10 ∨ n = 11 ∨ n = 12 ∨ n = 13 ∨ n = 14 := by omega
def upL (n : Int) : List Int := [(n - 1) / 2, ((n - 1) / 2 - 1) / 2, 0]
def pathL (who : Int) : List Int := (7 + who) :: upL (7 + who)
theorem upL_len (n : Int) : (upL n).length = 3 := rfl
theorem pathL_len (n : Int) : (pathL n).length = 4 := rfl
theorem treUp_ct (n : Int) (h : 7 ≤ n ∧ n ≤ 14) : Ct Tryd.prog 20 [bI n] (oI (upL n) (some 3)) := by
  rcases eightL h with rfl | rfl | rfl | rfl | rfl | rfl | rfl | rfl
  all_goals
    refine Ct.z wd Tryd.func20 rfl rfl Tryd.ntmps20 rfl rfl rfl rfl ?_
    repeat' ((conv => whnf); (first | (refine hK _ _ _ ?_; clear hK K) | refine Z.reg wd (fun K hK => ?_) | refine Z.seq ?_ | refine Z.skip ?_ | refine Z.cond (E := Ee) ?_ | refine Z.ret rfl ?_ | refine Z.block ?_ | refine Z.blockEnd ?_ | refine Z.exit rfl ?_ | refine Z.again ?_ | refine Z.loop 5 (Z.again ?_) | refine IfB.T rfl ?_ | refine IfB.F rfl ?_ | refine Need.mk (by first | omega | (simp only [strMost, mostRows, rS_len, rI_len, List.length_append, List.length_map, List.length_set, List.length_replicate, List.length_cons, List.length_nil, List.length_drop, List.length_take, letterL_len, upL_len, pathL_len] at *; omega) | (simp at *; omega) | fail) ?_ | refine Need.mk ⟨(by first | rfl | assumption | (simp only [rS_len, rI_len, List.length_append, List.length_map, List.length_set, List.length_replicate, List.length_cons, List.length_nil, Nat.zero_add, letterL_len, upL_len, pathL_len]; done) | omega | (simp only [rS_len, rI_len, List.length_append, List.length_map, List.length_set, List.length_replicate, List.length_cons, List.length_nil, List.length_drop, List.length_take, letterL_len, upL_len, pathL_len] at *; omega) | fail), (by first | omega | (simp only [strMost, mostRows, rS_len, rI_len, List.length_append, List.length_map, List.length_set, List.length_replicate, List.length_cons, List.length_nil, List.length_drop, List.length_take, letterL_len, upL_len, pathL_len] at *; omega) | (simp at *; omega) | fail)⟩ ?_ | refine CallW.mk _ (isNode_ct _) ?_ | (refine RawW.mk (O.hcall wd rfl rfl rfl rfl rfl rfl rfl rfl rfl (iClip_hc _ _) rfl rfl rfl rfl rfl rfl rfl rfl rfl (le_ rfl) rfl rfl ?_); refine Z.opsF wd (fun K hK => ?_)) | refine Calc.mk _ (vw_all _) ?_ | refine Calc.mk _ (vw_n (by first | rfl | assumption | (simp only [rS_len, rI_len, List.length_append, List.length_map, List.length_set, List.length_replicate, List.length_cons, List.length_nil, Nat.zero_add, letterL_len, upL_len, pathL_len]; done) | omega | (simp only [rS_len, rI_len, List.length_append, List.length_map, List.length_set, List.length_replicate, List.length_cons, List.length_nil, List.length_drop, List.length_take, letterL_len, upL_len, pathL_len] at *; omega) | fail)) ?_ | refine Calc.mk _ rfl ?_ | exact EqB.mk rfl))
theorem path_ct (n : Int) (h : 0 ≤ n ∧ n ≤ 7) : Ct Tryd.prog 93 [bI n] (oI (pathL n) none) := by
  refine Ct.z wd Tryd.func93 rfl rfl Tryd.ntmps93 rfl rfl rfl rfl ?_
  repeat' ((conv => whnf); (first | (refine hK _ _ _ ?_; clear hK K) | refine Z.reg wd (fun K hK => ?_) | refine Z.seq ?_ | refine Z.ret rfl ?_ | refine Need.mk ⟨(by first | rfl | assumption | (simp only [rS_len, rI_len, List.length_append, List.length_map, List.length_set, List.length_replicate, List.length_cons, List.length_nil, Nat.zero_add, letterL_len, upL_len, pathL_len]; done) | omega | (simp only [rS_len, rI_len, List.length_append, List.length_map, List.length_set, List.length_replicate, List.length_cons, List.length_nil, List.length_drop, List.length_take, letterL_len, upL_len, pathL_len] at *; omega) | fail), (by first | omega | (simp only [strMost, mostRows, rS_len, rI_len, List.length_append, List.length_map, List.length_set, List.length_replicate, List.length_cons, List.length_nil, List.length_drop, List.length_take, letterL_len, upL_len, pathL_len] at *; omega) | (simp at *; omega) | fail)⟩ ?_ | refine CallW.mk _ (leaf_ct _ (by omega)) ?_ | refine CallW.mk _ (treUp_ct _ (by omega)) ?_ | refine Calc.mk _ (vw_all _) ?_ | refine Calc.mk _ rfl ?_ | exact EqB.mk rfl))
theorem cloneS_ct (l : List (List UInt8)) (hl : l.length ≤ mostRows) : Ct Tryd.prog 123 [bSs l] (oS l (some l.length)) := by
  rw [show oS l (some l.length) = oS l (some (rS l).length) from by rw [rS_len]]
  refine Ct.z wd Tryd.func123 rfl rfl Tryd.ntmps123 rfl rfl rfl rfl ?_
  repeat' ((conv => whnf); (first | (refine hK _ _ _ ?_; clear hK K) | refine Z.reg wd (fun K hK => ?_) | refine Z.seq ?_ | refine Z.ret rfl ?_ | refine CallW.mk _ (sClone_ct _ (by first | omega | (simp only [strMost, mostRows, rS_len, rI_len, List.length_append, List.length_map, List.length_set, List.length_replicate, List.length_cons, List.length_nil, List.length_drop, List.length_take, letterL_len, upL_len, pathL_len] at *; omega) | (simp at *; omega) | fail)) ?_ | (refine RawW.mk (O.hcall wd rfl rfl rfl rfl rfl rfl rfl rfl rfl (sClip_hc _ _) rfl rfl rfl rfl rfl rfl rfl rfl rfl (le_ rfl) rfl rfl ?_); refine Z.opsF wd (fun K hK => ?_)) | refine Calc.mk _ (vw_all _) ?_ | exact EqB.mk rfl))
theorem copyOf_ct (l : List (List UInt8)) (hl : l.length ≤ mostRows) : Ct Tryd.prog 98 [bT l] (oT l (some l.length)) := by
  refine Ct.z wd Tryd.func98 rfl rfl Tryd.ntmps98 rfl rfl rfl rfl ?_
  repeat' ((conv => whnf); (first | (refine hK _ _ _ ?_; clear hK K) | refine Z.reg wd (fun K hK => ?_) | refine Z.seq ?_ | refine Z.ret rfl ?_ | refine CallW.mk _ (cloneS_ct _ (by first | omega | (simp only [strMost, mostRows, rS_len, rI_len, List.length_append, List.length_map, List.length_set, List.length_replicate, List.length_cons, List.length_nil, List.length_drop, List.length_take, letterL_len, upL_len, pathL_len] at *; omega) | (simp at *; omega) | fail)) ?_ | refine Calc.mk _ (vw_all _) ?_ | exact EqB.mk rfl))
theorem treNew_ct : Ct Tryd.prog 11 [] (oT (List.replicate 15 []) none) := by
  refine Ct.z wd Tryd.func11 rfl rfl Tryd.ntmps11 rfl rfl rfl rfl ?_
  repeat' ((conv => whnf); (first | (refine hK _ _ _ ?_; clear hK K) | refine Z.reg wd (fun K hK => ?_) | refine Z.seq ?_ | refine Z.ret rfl ?_ | refine Need.mk (by first | omega | (simp only [strMost, mostRows, rS_len, rI_len, List.length_append, List.length_map, List.length_set, List.length_replicate, List.length_cons, List.length_nil, List.length_drop, List.length_take, letterL_len, upL_len, pathL_len] at *; omega) | (simp at *; omega) | fail) ?_ | refine Calc.mk _ (rS_takeall (by first | rfl | assumption | (simp only [rS_len, rI_len, List.length_append, List.length_map, List.length_set, List.length_replicate, List.length_cons, List.length_nil, Nat.zero_add, letterL_len, upL_len, pathL_len]; done) | omega | (simp only [rS_len, rI_len, List.length_append, List.length_map, List.length_set, List.length_replicate, List.length_cons, List.length_nil, List.length_drop, List.length_take, letterL_len, upL_len, pathL_len] at *; omega) | fail)) ?_ | refine Calc.mk _ (rS_rep _) ?_ | refine Calc.mk _ rfl ?_ | exact EqB.mk rfl))
def clearL (l : List (List UInt8)) (who : Int) : List (List UInt8) :=
  (((l.set (7 + who).toNat []).set ((7 + who - 1) / 2).toNat []).set (((7 + who - 1) / 2 - 1) / 2).toNat []).set (0 : Int).toNat []
theorem clearL_len (l : List (List UInt8)) (who : Int) : (clearL l who).length = l.length := by simp [clearL]
theorem clear_ct (l : List (List UInt8)) (who : Int) (hl : l.length = 15) (h : 0 ≤ who ∧ who ≤ 7) : Ct Tryd.prog 62 [bT l, bI who] (oT (clearL l who) (some l.length)) := by
  refine Ct.z wd Tryd.func62 rfl rfl Tryd.ntmps62 rfl rfl rfl rfl ?_
  repeat' ((conv => whnf); (first | (refine hK _ _ _ ?_; clear hK K) | refine Z.reg wd (fun K hK => ?_) | refine Z.seq ?_ | refine Z.skip ?_ | refine Z.cond (E := Ee) ?_ | refine Z.ret rfl ?_ | refine Z.block ?_ | refine Z.blockEnd ?_ | refine Z.exit rfl ?_ | refine Z.again ?_ | refine Z.loop 6 (Z.again ?_) | refine IfB.T rfl ?_ | refine IfB.F rfl ?_ | refine Need.mk (by first | omega | (simp only [strMost, mostRows, rS_len, rI_len, List.length_append, List.length_map, List.length_set, List.length_replicate, List.length_cons, List.length_nil, List.length_drop, List.length_take, letterL_len, upL_len, pathL_len, clearL_len] at *; omega) | (simp at *; omega) | fail) ?_ | refine CallW.mk _ (copyOf_ct _ (by first | omega | (simp only [strMost, mostRows, rS_len, rI_len, List.length_append, List.length_map, List.length_set, List.length_replicate, List.length_cons, List.length_nil, List.length_drop, List.length_take, letterL_len, upL_len, pathL_len, clearL_len] at *; omega) | (simp at *; omega) | fail)) ?_ | refine CallW.mk _ (path_ct _ (by omega)) ?_ | refine Find.mk _ rfl ?_ | refine Find.mk _ (rS_getD (by first | omega | (simp only [strMost, mostRows, rS_len, rI_len, List.length_append, List.length_map, List.length_set, List.length_replicate, List.length_cons, List.length_nil, List.length_drop, List.length_take, letterL_len, upL_len, pathL_len, clearL_len] at *; omega) | (simp at *; omega) | fail)) ?_ | refine Calc.mk _ (vw_all _) ?_ | refine Calc.mk _ (rS_takeall (by first | rfl | assumption | (simp only [rS_len, rI_len, List.length_append, List.length_map, List.length_set, List.length_replicate, List.length_cons, List.length_nil, Nat.zero_add, letterL_len, upL_len, pathL_len, clearL_len]; done) | omega | (simp only [rS_len, rI_len, List.length_append, List.length_map, List.length_set, List.length_replicate, List.length_cons, List.length_nil, List.length_drop, List.length_take, letterL_len, upL_len, pathL_len, clearL_len] at *; omega) | fail)) ?_ | refine Calc.mk _ (rI_len _) ?_ | refine Calc.mk _ (rS_set _ _ _) ?_ | refine Calc.mk _ (Nat.zero_add _) ?_ | exact EqB.mk rfl))
theorem treClear_ct (l : List (List UInt8)) (who : Int) (hk : okT l = true) (h : 0 ≤ who ∧ who ≤ 7) : Ct Tryd.prog 18 [bT l, bI who] (oT (clearL l who) (some l.length)) := by
  have hl := okT_len hk
  refine Ct.z wd Tryd.func18 rfl rfl Tryd.ntmps18 rfl rfl rfl rfl ?_
  repeat' ((conv => whnf); (first | (refine hK _ _ _ ?_; clear hK K) | refine Z.reg wd (fun K hK => ?_) | refine Z.seq ?_ | refine Z.skip ?_ | refine Z.cond (E := Ee) ?_ | refine Z.ret rfl ?_ | refine IfB.F rfl ?_ | refine IfB.T (by assumption) ?_ | refine IfB.DT (by first | assumption | omega | (simp; done) | fail) ?_ | refine IfB.N ?_ | refine CallW.mk _ (treOk_ct _ (by first | omega | (simp only [strMost, mostRows, rS_len, rI_len, List.length_append, List.length_map, List.length_set, List.length_replicate, List.length_cons, List.length_nil, List.length_drop, List.length_take, letterL_len, upL_len, pathL_len, clearL_len] at *; omega) | (simp at *; omega) | fail)) ?_ | refine CallW.mk _ (isOne_ct _) ?_ | refine CallW.mk _ (clear_ct _ _ (by first | omega | (simp only [strMost, mostRows, rS_len, rI_len, List.length_append, List.length_map, List.length_set, List.length_replicate, List.length_cons, List.length_nil, List.length_drop, List.length_take, letterL_len, upL_len, pathL_len, clearL_len] at *; omega) | (simp at *; omega) | fail) (by omega)) ?_ | refine Calc.mk _ (vw_all _) ?_ | exact EqB.mk rfl))
/-- No tree. -/
abbrev tNo : BV := oT [] none
theorem treClearNo_ct (l : List (List UInt8)) (who : Int) (hl : l.length ≤ mostRows) (hk : okT l = false ∨ ¬ (0 ≤ who ∧ who ≤ 7)) : Ct Tryd.prog 18 [bT l, bI who] tNo := by
  cases e : okT l with
  | false =>
    refine Ct.z wd Tryd.func18 rfl rfl Tryd.ntmps18 rfl rfl rfl rfl ?_
    repeat' ((conv => whnf); (first | (refine hK _ _ _ ?_; clear hK K) | refine Z.reg wd (fun K hK => ?_) | refine Z.seq ?_ | refine Z.cond (E := Ee) ?_ | refine Z.ret rfl ?_ | refine IfB.T rfl ?_ | refine IfB.F (by assumption) ?_ | refine IfB.N ?_ | refine CallW.mk _ (treOk_ct _ (by first | omega | (simp only [strMost, mostRows, rS_len, rI_len, List.length_append, List.length_map, List.length_set, List.length_replicate, List.length_cons, List.length_nil, List.length_drop, List.length_take, letterL_len, upL_len, pathL_len, clearL_len] at *; omega) | (simp at *; omega) | fail)) ?_ | exact EqB.mk rfl))
  | true =>
    have hw : ¬ (0 ≤ who ∧ who ≤ 7) := hk.resolve_left (by simp [e])
    refine Ct.z wd Tryd.func18 rfl rfl Tryd.ntmps18 rfl rfl rfl rfl ?_
    repeat' ((conv => whnf); (first | (refine hK _ _ _ ?_; clear hK K) | refine Z.reg wd (fun K hK => ?_) | refine Z.seq ?_ | refine Z.cond (E := Ee) ?_ | refine Z.ret rfl ?_ | refine IfB.F rfl ?_ | refine IfB.T (by assumption) ?_ | refine IfB.DF (by first | assumption | omega | (simp; done) | fail) ?_ | refine IfB.N ?_ | refine CallW.mk _ (treOk_ct _ (by first | omega | (simp only [strMost, mostRows, rS_len, rI_len, List.length_append, List.length_map, List.length_set, List.length_replicate, List.length_cons, List.length_nil, List.length_drop, List.length_take, letterL_len, upL_len, pathL_len, clearL_len] at *; omega) | (simp at *; omega) | fail)) ?_ | refine CallW.mk _ (isOne_ct _) ?_ | exact EqB.mk rfl))
end Go.Proofs.YtfokmnafgabdiaaDoor.Eng
/- The reference's trees: ok, cleared. -/

namespace Go.Proofs.YtfokmnafgabdiaaDoor.Eng
open Go Go.RowKit Kw
set_option linter.unusedVariables false
set_option linter.unusedSimpArgs false
set_option maxRecDepth 10000
set_option maxHeartbeats 4000000
theorem badS_nil : badS [] = false := by unfold badS; rfl
theorem badS_no {s : List UInt8} (h : s ≠ []) (hk : okS s = false) : badS s = true := by
  unfold badS keyS
  rw [decide_eq_true h, madeL_no hk]; rfl
theorem badS_op {s : List UInt8} (h : s ≠ []) (hk : (madeL s).op ≠ 3) : badS s = true := by
  unfold badS keyS
  rw [decide_eq_true h, decide_eq_false hk]; rfl
theorem badS_key {s : List UInt8} (hk : (madeL s).op = 3) : badS s = false := by
  unfold badS keyS
  rw [decide_eq_true hk]; simp
def okD (l : List (List UInt8)) (i : Nat) : Bool := (l.drop i).all fun s => !badS s
theorem okD_0 {l : List (List UInt8)} (h : l.length = 15) : okT l = okD l 0 := by
  unfold okT okD
  cases hb : (l.drop 0).all fun s => !badS s with
  | true =>
    simp only [List.drop_zero, List.all_eq_true, Bool.not_eq_true'] at hb
    exact decide_eq_true ⟨h, hb⟩
  | false =>
    refine decide_eq_false fun q => ?_
    rw [List.all_eq_true.2 fun s hs => by rw [q.2 s (List.mem_of_mem_drop hs)]; rfl] at hb
    cases hb
theorem okD_step {l : List (List UInt8)} {i : Nat} {s : List UInt8} (h : l[i]? = some s) : okD l i = (!badS s && okD l (i + 1)) := by
  have hi : i < l.length := (List.getElem?_eq_some_iff.mp h).1
  have hs : l[i] = s := (List.getElem?_eq_some_iff.mp h).2
  unfold okD
  rw [List.drop_eq_getElem_cons hi, List.all_cons, hs]
theorem okD_end {l : List (List UInt8)} {i : Nat} (h : l.length ≤ i) : okD l i = true := by
  unfold okD; rw [List.drop_eq_nil_of_le h]; rfl
attribute [irreducible] okD
theorem sTreOk_ct (l : List (List UInt8)) (hl : l.length ≤ mostRows) : Ct Tryd.prog 69 [bT l] (.w (bB (okT l))) := by
  by_cases h15 : l.length = 15
  case neg =>
    rw [okT_no h15]
    refine Ct.z wd Tryd.func69 rfl rfl Tryd.ntmps69 rfl rfl rfl rfl ?_
    repeat' ((conv => whnf); (first | (refine hK _ _ _ ?_; clear hK K) | refine Z.reg wd (fun K hK => ?_) | refine Z.seq ?_ | refine Z.cond (E := Ee) ?_ | refine Z.ret rfl ?_ | refine IfB.DT (by first | assumption | omega | (simp; done) | fail) ?_ | refine Calc.mk _ (rS_len _) ?_ | exact EqB.mk rfl))
  refine Ct.z wd Tryd.func69 rfl rfl Tryd.ntmps69 rfl rfl rfl rfl ?_
  repeat' ((conv => whnf); (first | (refine hK _ _ _ ?_; clear hK K) | refine Z.reg wd (fun K hK => ?_) | refine Z.seq ?_ | refine Z.skip ?_ | refine Z.cond (E := Ee) ?_ | refine Z.block ?_ | refine IfB.DF (by first | assumption | omega | (simp; done) | fail) ?_ | refine Calc.mk _ (rS_len _) ?_))
  refine Z.loopK [1, 3] ?_; (conv => whnf); refine LoopZ.mk (α := Nat) (fun i => [(3, vI i)]) (fun i => []) (fun i => i ≤ 15 ∧ okT l = okD l i) (fun i => 15 - i) 0 rfl rfl (by exact ⟨by omega, okD_0 h15⟩) ?_; intro nF i hI next; refine Z.force ?_
  obtain ⟨h1, h2⟩ := hI
  by_cases hlt : i < 15
  · obtain ⟨s, hs⟩ : ∃ s, l[i]? = some s := ⟨_, List.getElem?_eq_getElem (by omega)⟩
    rw [okD_step hs] at h2
    by_cases hn : s = []
    · subst hn
      rw [badS_nil] at h2
      repeat' ((conv => whnf); (first | (refine hK _ _ _ ?_; clear hK K) | refine Z.reg wd (fun K hK => ?_) | refine Z.seq ?_ | refine Z.skip ?_ | refine Z.cond (E := Ee) ?_ | refine Z.block ?_ | refine Z.blockEnd ?_ | refine IfB.F rfl ?_ | refine IfB.DT (by first | assumption | omega | (simp; done) | fail) ?_ | refine Need.mk (by first | omega | (simp only [strMost, mostRows, rS_len, rI_len, List.length_append, List.length_map, List.length_set, List.length_replicate, List.length_cons, List.length_nil, List.length_drop, List.length_take, letterL_len, upL_len, pathL_len, clearL_len] at *; omega) | (simp at *; omega) | fail) ?_ | refine Find.mk _ (rS_get (by assumption)) ?_))
      (refine Z.next (L := ?L) (next (i + 1) (by exact ⟨by omega, h2⟩) (by omega)) ?eL ?hc ?e1 ?e2 ?em; (case eL => exact rfl); all_goals exact rfl)
    cases ho : okS s with
    | false =>
      rw [badS_no hn ho] at h2
      rw [h2]
      repeat' ((conv => whnf); (first | (refine hK _ _ _ ?_; clear hK K) | refine Z.reg wd (fun K hK => ?_) | refine Z.seq ?_ | refine Z.skip ?_ | refine Z.cond (E := Ee) ?_ | refine Z.ret rfl ?_ | refine Z.block ?_ | refine IfB.T rfl ?_ | refine IfB.F (by assumption) ?_ | refine IfB.DT (by first | assumption | omega | (simp; done) | fail) ?_ | refine IfB.N ?_ | refine Need.mk (by first | omega | (simp only [strMost, mostRows, rS_len, rI_len, List.length_append, List.length_map, List.length_set, List.length_replicate, List.length_cons, List.length_nil, List.length_drop, List.length_take, letterL_len, upL_len, pathL_len, clearL_len] at *; omega) | (simp at *; omega) | fail) ?_ | refine CallW.mk _ (sSecOk_ct _) ?_ | refine Find.mk _ (rS_get (by assumption)) ?_ | exact EqB.mk rfl))
    | true =>
      by_cases h3 : (madeL s).op = 3
      · rw [badS_key h3] at h2
        repeat' ((conv => whnf); (first | (refine hK _ _ _ ?_; clear hK K) | refine Z.reg wd (fun K hK => ?_) | refine Z.seq ?_ | refine Z.skip ?_ | refine Z.cond (E := Ee) ?_ | refine Z.block ?_ | refine Z.blockEnd ?_ | refine IfB.T rfl ?_ | refine IfB.F rfl ?_ | refine IfB.T (by assumption) ?_ | refine IfB.DT (by first | assumption | omega | (simp; done) | fail) ?_ | refine IfB.DF (by first | assumption | omega | (simp; done) | fail) ?_ | refine IfB.N ?_ | refine Need.mk (by first | omega | (simp only [strMost, mostRows, rS_len, rI_len, List.length_append, List.length_map, List.length_set, List.length_replicate, List.length_cons, List.length_nil, List.length_drop, List.length_take, letterL_len, upL_len, pathL_len, clearL_len] at *; omega) | (simp at *; omega) | fail) ?_ | refine CallW.mk _ (sSecOk_ct _) ?_ | refine CallW.mk _ (l1How_ct _ (by assumption)) ?_ | refine Find.mk _ (rS_get (by assumption)) ?_))
        (refine Z.next (L := ?L) (next (i + 1) (by exact ⟨by omega, h2⟩) (by omega)) ?eL ?hc ?e1 ?e2 ?em; (case eL => exact rfl); all_goals exact rfl)
      · rw [badS_op hn h3] at h2
        rw [h2]
        repeat' ((conv => whnf); (first | (refine hK _ _ _ ?_; clear hK K) | refine Z.reg wd (fun K hK => ?_) | refine Z.seq ?_ | refine Z.skip ?_ | refine Z.cond (E := Ee) ?_ | refine Z.ret rfl ?_ | refine Z.block ?_ | refine IfB.T rfl ?_ | refine IfB.F rfl ?_ | refine IfB.T (by assumption) ?_ | refine IfB.DT (by first | assumption | omega | (simp; done) | fail) ?_ | refine IfB.N ?_ | refine Need.mk (by first | omega | (simp only [strMost, mostRows, rS_len, rI_len, List.length_append, List.length_map, List.length_set, List.length_replicate, List.length_cons, List.length_nil, List.length_drop, List.length_take, letterL_len, upL_len, pathL_len, clearL_len] at *; omega) | (simp at *; omega) | fail) ?_ | refine CallW.mk _ (sSecOk_ct _) ?_ | refine CallW.mk _ (l1How_ct _ (by assumption)) ?_ | refine Find.mk _ (rS_get (by assumption)) ?_ | exact EqB.mk rfl))
  · rw [okD_end (by omega)] at h2
    rw [h2]
    repeat' ((conv => whnf); (first | (refine hK _ _ _ ?_; clear hK K) | refine Z.reg wd (fun K hK => ?_) | refine Z.seq ?_ | refine Z.cond (E := Ee) ?_ | refine Z.ret rfl ?_ | refine Z.exit rfl ?_ | refine IfB.DF (by first | assumption | omega | (simp; done) | fail) ?_ | exact EqB.mk rfl))
theorem sTreUp_ct (n : Int) (h : 7 ≤ n ∧ n ≤ 14) : Ct Tryd.prog 111 [bI n] (oI (upL n) none) := by
  rcases eightL h with rfl | rfl | rfl | rfl | rfl | rfl | rfl | rfl
  all_goals
    refine Ct.z wd Tryd.func111 rfl rfl Tryd.ntmps111 rfl rfl rfl rfl ?_
    repeat' ((conv => whnf); (first | (refine hK _ _ _ ?_; clear hK K) | refine Z.reg wd (fun K hK => ?_) | refine Z.seq ?_ | refine Z.skip ?_ | refine Z.cond (E := Ee) ?_ | refine Z.ret rfl ?_ | refine Z.block ?_ | refine Z.blockEnd ?_ | refine Z.exit rfl ?_ | refine Z.again ?_ | refine Z.loop 5 (Z.again ?_) | refine IfB.T rfl ?_ | refine IfB.F rfl ?_ | refine Need.mk (by first | omega | (simp only [strMost, mostRows, rS_len, rI_len, List.length_append, List.length_map, List.length_set, List.length_replicate, List.length_cons, List.length_nil, List.length_drop, List.length_take, letterL_len, upL_len, pathL_len, clearL_len] at *; omega) | (simp at *; omega) | fail) ?_ | refine Need.mk ⟨(by first | rfl | assumption | (simp only [rS_len, rI_len, List.length_append, List.length_map, List.length_set, List.length_replicate, List.length_cons, List.length_nil, Nat.zero_add, letterL_len, upL_len, pathL_len, clearL_len]; done) | omega | (simp only [rS_len, rI_len, List.length_append, List.length_map, List.length_set, List.length_replicate, List.length_cons, List.length_nil, List.length_drop, List.length_take, letterL_len, upL_len, pathL_len, clearL_len] at *; omega) | fail), (by first | omega | (simp only [strMost, mostRows, rS_len, rI_len, List.length_append, List.length_map, List.length_set, List.length_replicate, List.length_cons, List.length_nil, List.length_drop, List.length_take, letterL_len, upL_len, pathL_len, clearL_len] at *; omega) | (simp at *; omega) | fail)⟩ ?_ | refine CallW.mk _ (l1In_ct _ _ _) ?_ | refine Calc.mk _ (vw_all _) ?_ | refine Calc.mk _ (vw_n (by first | rfl | assumption | (simp only [rS_len, rI_len, List.length_append, List.length_map, List.length_set, List.length_replicate, List.length_cons, List.length_nil, Nat.zero_add, letterL_len, upL_len, pathL_len, clearL_len]; done) | omega | (simp only [rS_len, rI_len, List.length_append, List.length_map, List.length_set, List.length_replicate, List.length_cons, List.length_nil, List.length_drop, List.length_take, letterL_len, upL_len, pathL_len, clearL_len] at *; omega) | fail)) ?_ | refine Calc.mk _ rfl ?_ | exact EqB.mk rfl))
theorem l3Copy_ct (l : List (List UInt8)) (hl : l.length ≤ mostRows) : Ct Tryd.prog 72 [bT l] (oT l none) := by
  refine Ct.z wd Tryd.func72 rfl rfl Tryd.ntmps72 rfl rfl rfl rfl ?_
  repeat' ((conv => whnf); (first | (refine hK _ _ _ ?_; clear hK K) | refine Z.reg wd (fun K hK => ?_) | refine Z.seq ?_ | refine Z.ret rfl ?_ | refine Need.mk ⟨(by first | rfl | assumption | (simp only [rS_len, rI_len, List.length_append, List.length_map, List.length_set, List.length_replicate, List.length_cons, List.length_nil, Nat.zero_add, letterL_len, upL_len, pathL_len, clearL_len]; done) | omega | (simp only [rS_len, rI_len, List.length_append, List.length_map, List.length_set, List.length_replicate, List.length_cons, List.length_nil, List.length_drop, List.length_take, letterL_len, upL_len, pathL_len, clearL_len] at *; omega) | fail), (by first | omega | (simp only [strMost, mostRows, rS_len, rI_len, List.length_append, List.length_map, List.length_set, List.length_replicate, List.length_cons, List.length_nil, List.length_drop, List.length_take, letterL_len, upL_len, pathL_len, clearL_len] at *; omega) | (simp at *; omega) | fail)⟩ ?_ | refine Calc.mk _ (vw_all _) ?_ | refine Calc.mk _ rfl ?_ | exact EqB.mk rfl))
end Go.Proofs.YtfokmnafgabdiaaDoor.Eng
/- The reference's trees: cleared. -/
namespace Go.Proofs.YtfokmnafgabdiaaDoor.Eng
open Go Go.RowKit Kw
set_option linter.unusedVariables false
set_option linter.unusedSimpArgs false
set_option maxRecDepth 10000
set_option maxHeartbeats 4000000
theorem sLeaf_ct (who : Int) (h : 0 ≤ who ∧ who ≤ 7) : Ct Tryd.prog 91 [bI who] (.w (bI (7 + who))) := by
  have := sTreLeaf_ct who; rwa [leafOr, if_pos h] at this
theorem l3Clear_hc (l : List (List UInt8)) (who : Int) (n : Nat) (hn : n = l.length) (hl : l.length = 15) (h : 0 ≤ who ∧ who ≤ 7) :
    HCt Tryd.prog 71 1 most [.rows 1 (rS l)] [.agg [.ref 0 0 n none], .one (.c (.lit (.int .i64 who)))] (.w (.agg [.ref 0 0 n none])) [.rows 1 (rS (clearL l who)), .var [.ref 0 0 n none]] 2 := by
  refine HCt.z wd Tryd.func71 rfl rfl Tryd.ntmps71 rfl rfl ?_
  repeat' ((conv => whnf); (first | (refine hK _ _ _ ?_; clear hK K) | refine Z.reg wd (fun K hK => ?_) | refine Z.draw wd rfl (fun K hK => ?_) | refine Z.seq ?_ | refine Z.skip ?_ | refine Z.cond (E := Ee) ?_ | refine Z.hret [4] rfl ?_ | refine Z.block ?_ | refine Z.blockEnd ?_ | refine Z.exit rfl ?_ | refine Z.again ?_ | refine Z.loop 5 (Z.again ?_) | refine IfB.T rfl ?_ | refine IfB.F rfl ?_ | refine Need.mk ⟨by first | (simp only [BV.untie, BW.untie, B1.untie, B0.untie, untie_rI, untie_rS, List.map_cons, List.map_nil]; done) | (simp only [BV.untie, BW.untie, B1.untie, B0.untie, untie_rI, untie_rS, List.map_cons, List.map_nil]; rfl) | fail, rfl⟩ ?_ | refine Need.mk (by kernel_rfl) ?_ | refine Need.mk (by first | omega | (simp only [strMost, mostRows, rS_len, rI_len, List.length_append, List.length_map, List.length_set, List.length_replicate, List.length_cons, List.length_nil, List.length_drop, List.length_take, letterL_len, upL_len, pathL_len, clearL_len] at *; omega) | (simp at *; omega) | fail) ?_ | refine CallW.mk _ (sLeaf_ct _ (by omega)) ?_ | refine CallW.mk _ (sTreUp_ct _ (by omega)) ?_ | refine Find.mk _ rfl ?_ | refine Find.mk _ (rS_getD (by first | omega | (simp only [strMost, mostRows, rS_len, rI_len, List.length_append, List.length_map, List.length_set, List.length_replicate, List.length_cons, List.length_nil, List.length_drop, List.length_take, letterL_len, upL_len, pathL_len, clearL_len] at *; omega) | (simp at *; omega) | fail)) ?_ | refine Calc.mk _ (vw_all _) ?_ | refine Calc.mk _ (rI_len _) ?_ | refine Calc.mk _ (rS_set _ _ _) ?_ | refine Calc.mk _ (Nat.zero_add _) ?_ | exact EqH.mk2 rfl rfl))
theorem sTreClear_ct (l : List (List UInt8)) (who : Int) (hk : okT l = true) (h : 0 ≤ who ∧ who ≤ 7) : Ct Tryd.prog 27 [bT l, bI who] (oT (clearL l who) none) := by
  have hl := okT_len hk
  refine Ct.z wd Tryd.func27 rfl rfl Tryd.ntmps27 rfl rfl rfl rfl ?_
  repeat' ((conv => whnf); (first | (refine hK _ _ _ ?_; clear hK K) | refine Z.reg wd (fun K hK => ?_) | refine Z.seq ?_ | refine Z.skip ?_ | refine Z.cond (E := Ee) ?_ | refine Z.ret rfl ?_ | refine IfB.F rfl ?_ | refine IfB.T (by assumption) ?_ | refine IfB.DT (by first | assumption | omega | (simp; done) | fail) ?_ | refine IfB.N ?_ | refine CallW.mk _ (sTreOk_ct _ (by first | omega | (simp only [strMost, mostRows, rS_len, rI_len, List.length_append, List.length_map, List.length_set, List.length_replicate, List.length_cons, List.length_nil, List.length_drop, List.length_take, letterL_len, upL_len, pathL_len, clearL_len] at *; omega) | (simp at *; omega) | fail)) ?_ | refine CallW.mk _ (l1In_ct _ _ _) ?_ | refine CallW.mk _ (l3Copy_ct _ (by first | omega | (simp only [strMost, mostRows, rS_len, rI_len, List.length_append, List.length_map, List.length_set, List.length_replicate, List.length_cons, List.length_nil, List.length_drop, List.length_take, letterL_len, upL_len, pathL_len, clearL_len] at *; omega) | (simp at *; omega) | fail)) ?_ | (refine RawW.mk (O.hcall wd rfl rfl rfl rfl rfl rfl rfl rfl rfl (l3Clear_hc _ _ _ (by first | rfl | assumption | (simp only [rS_len, rI_len, List.length_append, List.length_map, List.length_set, List.length_replicate, List.length_cons, List.length_nil, Nat.zero_add, letterL_len, upL_len, pathL_len, clearL_len]; done) | omega | (simp only [rS_len, rI_len, List.length_append, List.length_map, List.length_set, List.length_replicate, List.length_cons, List.length_nil, List.length_drop, List.length_take, letterL_len, upL_len, pathL_len, clearL_len] at *; omega) | fail) (by first | rfl | assumption | (simp only [rS_len, rI_len, List.length_append, List.length_map, List.length_set, List.length_replicate, List.length_cons, List.length_nil, Nat.zero_add, letterL_len, upL_len, pathL_len, clearL_len]; done) | omega | (simp only [rS_len, rI_len, List.length_append, List.length_map, List.length_set, List.length_replicate, List.length_cons, List.length_nil, List.length_drop, List.length_take, letterL_len, upL_len, pathL_len, clearL_len] at *; omega) | fail) (by omega)) rfl rfl rfl rfl rfl rfl rfl rfl rfl (le_ rfl) rfl rfl ?_); refine Z.opsF wd (fun K hK => ?_)) | refine Calc.mk _ (rS_takeall (by first | rfl | assumption | (simp only [rS_len, rI_len, List.length_append, List.length_map, List.length_set, List.length_replicate, List.length_cons, List.length_nil, Nat.zero_add, letterL_len, upL_len, pathL_len, clearL_len]; done) | omega | (simp only [rS_len, rI_len, List.length_append, List.length_map, List.length_set, List.length_replicate, List.length_cons, List.length_nil, List.length_drop, List.length_take, letterL_len, upL_len, pathL_len, clearL_len] at *; omega) | fail)) ?_ | exact EqB.mk rfl))
theorem sTreClearNo_ct (l : List (List UInt8)) (who : Int) (hl : l.length ≤ mostRows) (hk : okT l = false ∨ ¬ (0 ≤ who ∧ who ≤ 7)) : Ct Tryd.prog 27 [bT l, bI who] tNo := by
  cases e : okT l with
  | false =>
    refine Ct.z wd Tryd.func27 rfl rfl Tryd.ntmps27 rfl rfl rfl rfl ?_
    repeat' ((conv => whnf); (first | (refine hK _ _ _ ?_; clear hK K) | refine Z.reg wd (fun K hK => ?_) | refine Z.seq ?_ | refine Z.cond (E := Ee) ?_ | refine Z.ret rfl ?_ | refine IfB.T rfl ?_ | refine IfB.F (by assumption) ?_ | refine IfB.N ?_ | refine CallW.mk _ (sTreOk_ct _ (by first | omega | (simp only [strMost, mostRows, rS_len, rI_len, List.length_append, List.length_map, List.length_set, List.length_replicate, List.length_cons, List.length_nil, List.length_drop, List.length_take, letterL_len, upL_len, pathL_len, clearL_len] at *; omega) | (simp at *; omega) | fail)) ?_ | exact EqB.mk rfl))
  | true =>
    have hw : ¬ (0 ≤ who ∧ who ≤ 7) := hk.resolve_left (by simp [e])
    refine Ct.z wd Tryd.func27 rfl rfl Tryd.ntmps27 rfl rfl rfl rfl ?_
    repeat' ((conv => whnf); (first | (refine hK _ _ _ ?_; clear hK K) | refine Z.reg wd (fun K hK => ?_) | refine Z.seq ?_ | refine Z.cond (E := Ee) ?_ | refine Z.ret rfl ?_ | refine IfB.F rfl ?_ | refine IfB.T (by assumption) ?_ | refine IfB.DF (by first | assumption | omega | (simp; done) | fail) ?_ | refine IfB.N ?_ | refine CallW.mk _ (sTreOk_ct _ (by first | omega | (simp only [strMost, mostRows, rS_len, rI_len, List.length_append, List.length_map, List.length_set, List.length_replicate, List.length_cons, List.length_nil, List.length_drop, List.length_take, letterL_len, upL_len, pathL_len, clearL_len] at *; omega) | (simp at *; omega) | fail)) ?_ | refine CallW.mk _ (l1In_ct _ _ _) ?_ | exact EqB.mk rfl))
end Go.Proofs.YtfokmnafgabdiaaDoor.Eng
/- The helpers of the exact laws: lists of texts. -/
namespace Go.Proofs.YtfokmnafgabdiaaDoor.Eng
open Go Go.RowKit Kw
set_option linter.unusedVariables false
set_option linter.unusedSimpArgs false
set_option maxRecDepth 10000
set_option maxHeartbeats 4000000
/-- Figures ahead of a text. -/
def digL (k : Nat) (out : List UInt8) : List UInt8 := if h : 0 < k then digL (k / 10) ([UInt8.ofNat (48 + (k : Int) % 10).toNat] ++ out) else out
termination_by k
decreasing_by exact Nat.div_lt_self h (by omega)
def markS (k : Nat) : List UInt8 := [109] ++ digL k []
theorem markText_ct (k : Nat) (h : 0 < k) (hk : k ≤ 2 ^ 24) : Ct Tryd.prog 112 [bI k] (.w (bS (markS k))) := by
  refine Ct.z wd Tryd.func112 rfl rfl Tryd.ntmps112 rfl rfl rfl rfl ?_
  repeat' ((conv => whnf); (first | (refine hK _ _ _ ?_; clear hK K) | refine Z.reg wd (fun K hK => ?_) | refine Z.seq ?_ | refine Z.skip ?_ | refine Z.cond (E := Ee) ?_ | refine Z.block ?_ | refine IfB.DF (by first | assumption | omega | (simp; done) | fail) ?_))
  refine Z.loopK [0, 3] ?_; (conv => whnf); refine LoopZ.mk (α := Nat × List UInt8) (fun x => [(0, vI x.1), (3, vS x.2)]) (fun x => []) (fun x => x.1 + x.2.length ≤ k ∧ digL x.1 x.2 = digL k []) (fun x => x.1) (k, []) rfl rfl (by exact ⟨by simp, rfl⟩) ?_; intro nF x hI next; refine Z.force ?_
  obtain ⟨n, out⟩ := x
  dsimp only at hI
  obtain ⟨h1, h2⟩ := hI
  rw [digL] at h2
  by_cases hn : 0 < n
  · rw [dif_pos hn] at h2
    repeat' ((conv => whnf); (first | (refine hK _ _ _ ?_; clear hK K) | refine Z.reg wd (fun K hK => ?_) | refine Z.seq ?_ | refine Z.skip ?_ | refine Z.cond (E := Ee) ?_ | refine Z.block ?_ | refine Z.blockEnd ?_ | refine IfB.DT (by first | assumption | omega | (simp; done) | fail) ?_ | refine Need.mk (by first | omega | (simp only [strMost, mostRows, rS_len, rI_len, List.length_append, List.length_map, List.length_set, List.length_replicate, List.length_cons, List.length_nil, List.length_drop, List.length_take, letterL_len, upL_len, pathL_len, clearL_len] at *; omega) | (simp at *; omega) | fail) ?_ | refine Find.mk _ rfl ?_ | refine Calc.mk _ (vw_n (by first | rfl | assumption | (simp only [rS_len, rI_len, List.length_append, List.length_map, List.length_set, List.length_replicate, List.length_cons, List.length_nil, Nat.zero_add, letterL_len, upL_len, pathL_len, clearL_len]; done) | omega | (simp only [rS_len, rI_len, List.length_append, List.length_map, List.length_set, List.length_replicate, List.length_cons, List.length_nil, List.length_drop, List.length_take, letterL_len, upL_len, pathL_len, clearL_len] at *; omega) | fail)) ?_))
    (refine Z.next (L := ?L) (next (n / 10, [UInt8.ofNat (48 + (n : Int) % 10).toNat] ++ out) (by exact ⟨by simp; omega, h2⟩) (by exact Nat.div_lt_self hn (by omega))) ?eL ?hc ?e1 ?e2 ?em; (case eL => exact rfl); all_goals exact rfl)
  · rw [dif_neg hn] at h2
    repeat' ((conv => whnf); (first | (refine hK _ _ _ ?_; clear hK K) | refine Z.reg wd (fun K hK => ?_) | refine Z.seq ?_ | refine Z.cond (E := Ee) ?_ | refine Z.ret rfl ?_ | refine Z.exit rfl ?_ | refine IfB.DF (by first | assumption | omega | (simp; done) | fail) ?_ | refine Need.mk (by first | omega | (simp only [strMost, mostRows, rS_len, rI_len, List.length_append, List.length_map, List.length_set, List.length_replicate, List.length_cons, List.length_nil, List.length_drop, List.length_take, letterL_len, upL_len, pathL_len, clearL_len] at *; omega) | (simp at *; omega) | fail) ?_ | refine EqB.mk ?_))
    rw [markS, ← h2]
/-- A list of which so much is told, and nothing behind. -/
def fillL (l : List (List UInt8)) (i : Nat) : List (List UInt8) := l.take i ++ List.replicate (l.length - i) []
theorem fillL_len (l : List (List UInt8)) (i : Nat) : (fillL l i).length = l.length := by
  unfold fillL; simp; omega
theorem fillL_set {l : List (List UInt8)} {i : Nat} {s : List UInt8} (h : l[i]? = some s) : (rS (fillL l i)).set i [.lit (.string (mk s))] = rS (fillL l (i + 1)) := by
  have hi : i < l.length := (List.getElem?_eq_some_iff.mp h).1
  have hs : l[i] = s := (List.getElem?_eq_some_iff.mp h).2
  rw [rS_set]
  congr 1
  unfold fillL
  rw [List.set_append_right _ _ (by simp; omega), List.length_take, Nat.min_eq_left (by omega), Nat.sub_self, show l.length - i = (l.length - (i + 1)) + 1 from by omega, List.replicate_succ, List.set_cons_zero]
  rw [List.take_add_one, h]; simp
theorem fillL_all (l : List (List UInt8)) {i : Nat} (h : l.length ≤ i) : fillL l i = l := by
  unfold fillL
  rw [List.take_of_length_le h, show l.length - i = 0 from by omega]; simp
theorem toStrings_ct (l : List (List UInt8)) (hl : l.length ≤ mostRows) : Ct Tryd.prog 73 [bSs l] (oS l none) := by
  refine Ct.z wd Tryd.func73 rfl rfl Tryd.ntmps73 rfl rfl rfl rfl ?_
  repeat' ((conv => whnf); (first | (refine hK _ _ _ ?_; clear hK K) | refine Z.reg wd (fun K hK => ?_) | refine Z.seq ?_ | refine Z.block ?_ | refine Need.mk (by first | omega | (simp only [strMost, mostRows, rS_len, rI_len, List.length_append, List.length_map, List.length_set, List.length_replicate, List.length_cons, List.length_nil, List.length_drop, List.length_take, letterL_len, upL_len, pathL_len, clearL_len, fillL_len] at *; omega) | (simp at *; omega) | fail) ?_ | refine Calc.mk _ (rS_len _) ?_ | refine Calc.mk _ (rS_rep _) ?_ | refine Calc.mk _ rfl ?_))
  refine Z.loopK [0, 3, 4] ?_; (conv => whnf); refine LoopZ.mk (α := Nat) (fun i => [(4, vI i)]) (fun i => [(0, .rows 1 (rS (fillL l i)))]) (fun i => i ≤ l.length) (fun i => l.length - i) 0 rfl rfl (by omega) ?_; intro nF i hI next; refine Z.force ?_
  by_cases hn : i < l.length
  · have hs : l[i]? = some l[i] := List.getElem?_eq_getElem hn
    repeat' ((conv => whnf); (first | (refine hK _ _ _ ?_; clear hK K) | refine Z.reg wd (fun K hK => ?_) | refine Z.seq ?_ | refine Z.skip ?_ | refine Z.cond (E := Ee) ?_ | refine Z.block ?_ | refine Z.blockEnd ?_ | refine IfB.DT (by first | assumption | omega | (simp; done) | fail) ?_ | refine Need.mk (by first | omega | (simp only [strMost, mostRows, rS_len, rI_len, List.length_append, List.length_map, List.length_set, List.length_replicate, List.length_cons, List.length_nil, List.length_drop, List.length_take, letterL_len, upL_len, pathL_len, clearL_len, fillL_len] at *; omega) | (simp at *; omega) | fail) ?_ | refine Find.mk _ (rS_get (by assumption)) ?_ | refine Find.mk _ (rS_getD (by first | omega | (simp only [strMost, mostRows, rS_len, rI_len, List.length_append, List.length_map, List.length_set, List.length_replicate, List.length_cons, List.length_nil, List.length_drop, List.length_take, letterL_len, upL_len, pathL_len, clearL_len, fillL_len] at *; omega) | (simp at *; omega) | fail)) ?_ | refine Calc.mk _ (fillL_set (by assumption)) ?_ | refine Calc.mk _ (rS_len _) ?_ | refine Calc.mk _ (Nat.zero_add _) ?_))
    (refine Z.next (L := ?L) (next (i + 1) (by omega) (by omega)) ?eL ?hc ?e1 ?e2 ?em; (case eL => exact rfl); all_goals exact rfl)
  · rw [fillL_all l (by omega)]
    repeat' ((conv => whnf); (first | (refine hK _ _ _ ?_; clear hK K) | refine Z.reg wd (fun K hK => ?_) | refine Z.seq ?_ | refine Z.cond (E := Ee) ?_ | refine Z.ret rfl ?_ | refine Z.exit rfl ?_ | refine IfB.DF (by first | assumption | omega | (simp; done) | fail) ?_ | refine Calc.mk _ (rS_takeall (by first | rfl | assumption | (simp only [rS_len, rI_len, List.length_append, List.length_map, List.length_set, List.length_replicate, List.length_cons, List.length_nil, Nat.zero_add, letterL_len, upL_len, pathL_len, clearL_len, fillL_len]; done) | omega | (simp only [rS_len, rI_len, List.length_append, List.length_map, List.length_set, List.length_replicate, List.length_cons, List.length_nil, List.length_drop, List.length_take, letterL_len, upL_len, pathL_len, clearL_len, fillL_len] at *; omega) | fail)) ?_ | refine Calc.mk _ (rS_len _) ?_ | exact EqB.mk rfl))
end Go.Proofs.YtfokmnafgabdiaaDoor.Eng
/- The helpers of the exact laws: sizes, equality, marks. -/
namespace Go.Proofs.YtfokmnafgabdiaaDoor.Eng
open Go Go.RowKit Kw
set_option linter.unusedVariables false
set_option linter.unusedSimpArgs false
set_option maxRecDepth 10000
set_option maxHeartbeats 4000000
def szGo (left : Int) : List (List UInt8) → Int
  | [] => left
  | s :: t => if left - s.length < 0 then -1 else szGo (left - s.length) t
def szL (left : Int) (l : List (List UInt8)) : Int := if left - l.length < 0 then -1 else szGo (left - l.length) l
theorem szGo_drop {l : List (List UInt8)} {i : Nat} {s : List UInt8} (left : Int) (h : l[i]? = some s) : szGo left (l.drop i) = if left - s.length < 0 then -1 else szGo (left - s.length) (l.drop (i + 1)) := by
  have hi : i < l.length := (List.getElem?_eq_some_iff.mp h).1
  have hs : l[i] = s := (List.getElem?_eq_some_iff.mp h).2
  rw [List.drop_eq_getElem_cons hi, szGo, hs]
theorem szGo_range : ∀ (l : List (List UInt8)) (left : Int), 0 ≤ left → -1 ≤ szGo left l ∧ szGo left l ≤ left := by
  intro l
  induction l with
  | nil => intro left h; simp only [szGo]; omega
  | cons s t ih =>
    intro left h
    simp only [szGo]
    split
    · omega
    · have := ih (left - s.length) (by omega); omega
theorem szL_range (left : Int) (l : List (List UInt8)) (h : 0 ≤ left) : -1 ≤ szL left l ∧ szL left l ≤ left ∧ (0 ≤ szL left l → l.length ≤ left) := by
  unfold szL
  split
  · omega
  · have := szGo_range l (left - l.length) (by omega); omega
theorem szStrings_ct (l : List (List UInt8)) (left : Int) (hl : l.length ≤ 9223372036854775807) (hs : ∀ s ∈ l, s.length ≤ 9223372036854775807) (h0 : 0 ≤ left) (h1 : left ≤ 2097152) : Ct Tryd.prog 68 [bSs l, bI left] (.w (bI (szL left l))) := by
  by_cases hz : left - l.length < 0
  · rw [szL, if_pos hz]
    refine Ct.z wd Tryd.func68 rfl rfl Tryd.ntmps68 rfl rfl rfl rfl ?_
    repeat' ((conv => whnf); (first | (refine hK _ _ _ ?_; clear hK K) | refine Z.reg wd (fun K hK => ?_) | refine Z.seq ?_ | refine Z.cond (E := Ee) ?_ | refine Z.ret rfl ?_ | refine IfB.DT (by first | assumption | omega | (simp; done) | fail) ?_ | refine Need.mk (by first | omega | (simp only [strMost, mostRows, rS_len, rI_len, List.length_append, List.length_map, List.length_set, List.length_replicate, List.length_cons, List.length_nil, List.length_drop, List.length_take, letterL_len, upL_len, pathL_len, clearL_len, fillL_len] at *; omega) | (simp at *; omega) | fail) ?_ | refine Calc.mk _ (rS_len _) ?_ | exact EqB.mk rfl))
  rw [szL, if_neg hz]
  refine Ct.z wd Tryd.func68 rfl rfl Tryd.ntmps68 rfl rfl rfl rfl ?_
  repeat' ((conv => whnf); (first | (refine hK _ _ _ ?_; clear hK K) | refine Z.reg wd (fun K hK => ?_) | refine Z.seq ?_ | refine Z.skip ?_ | refine Z.cond (E := Ee) ?_ | refine Z.block ?_ | refine IfB.DF (by first | assumption | omega | (simp; done) | fail) ?_ | refine Need.mk (by first | omega | (simp only [strMost, mostRows, rS_len, rI_len, List.length_append, List.length_map, List.length_set, List.length_replicate, List.length_cons, List.length_nil, List.length_drop, List.length_take, letterL_len, upL_len, pathL_len, clearL_len, fillL_len] at *; omega) | (simp at *; omega) | fail) ?_ | refine Calc.mk _ (rS_len _) ?_))
  refine Z.loopK [0, 1, 5] ?_; (conv => whnf); refine LoopZ.mk (α := Nat × Int) (fun x => [(5, vI x.1), (1, vI x.2)]) (fun x => []) (fun x => (x.1 ≤ l.length ∧ 0 ≤ x.2 ∧ x.2 ≤ 2097152) ∧ szGo x.2 (l.drop x.1) = szGo (left - l.length) l) (fun x => l.length - x.1) (0, left - l.length) rfl rfl (by exact ⟨⟨by simp, by omega, by omega⟩, rfl⟩) ?_; intro nF x hI next; refine Z.force ?_
  obtain ⟨i, lf⟩ := x
  dsimp only at hI
  obtain ⟨⟨i1, i2, i3⟩, i4⟩ := hI
  by_cases hn : i < l.length
  · have hg : l[i]? = some l[i] := List.getElem?_eq_getElem hn
    have hb := hs l[i] (List.getElem_mem hn)
    rw [szGo_drop lf hg] at i4
    by_cases hq : lf - l[i].length < 0
    · rw [if_pos hq] at i4
      rw [← i4]
      repeat' ((conv => whnf); (first | (refine hK _ _ _ ?_; clear hK K) | refine Z.reg wd (fun K hK => ?_) | refine Z.seq ?_ | refine Z.skip ?_ | refine Z.cond (E := Ee) ?_ | refine Z.ret rfl ?_ | refine Z.block ?_ | refine IfB.DT (by first | assumption | omega | (simp; done) | fail) ?_ | refine Need.mk (by first | omega | (simp only [strMost, mostRows, rS_len, rI_len, List.length_append, List.length_map, List.length_set, List.length_replicate, List.length_cons, List.length_nil, List.length_drop, List.length_take, letterL_len, upL_len, pathL_len, clearL_len, fillL_len] at *; omega) | (simp at *; omega) | fail) ?_ | refine Find.mk _ (rS_get (by assumption)) ?_ | refine Calc.mk _ (rS_len _) ?_ | exact EqB.mk rfl))
    · rw [if_neg hq] at i4
      repeat' ((conv => whnf); (first | (refine hK _ _ _ ?_; clear hK K) | refine Z.reg wd (fun K hK => ?_) | refine Z.seq ?_ | refine Z.skip ?_ | refine Z.cond (E := Ee) ?_ | refine Z.block ?_ | refine Z.blockEnd ?_ | refine IfB.DT (by first | assumption | omega | (simp; done) | fail) ?_ | refine IfB.DF (by first | assumption | omega | (simp; done) | fail) ?_ | refine Need.mk (by first | omega | (simp only [strMost, mostRows, rS_len, rI_len, List.length_append, List.length_map, List.length_set, List.length_replicate, List.length_cons, List.length_nil, List.length_drop, List.length_take, letterL_len, upL_len, pathL_len, clearL_len, fillL_len] at *; omega) | (simp at *; omega) | fail) ?_ | refine Find.mk _ (rS_get (by assumption)) ?_ | refine Calc.mk _ (rS_len _) ?_))
      (refine Z.next (L := ?L) (next (i + 1, lf - l[i].length) (by exact ⟨⟨by simp; omega, by simp; omega, by simp; omega⟩, i4⟩) (by dsimp only; omega)) ?eL ?hc ?e1 ?e2 ?em; (case eL => exact rfl); all_goals exact rfl)
  · rw [List.drop_eq_nil_of_le (by omega)] at i4
    rw [← i4, szGo]
    repeat' ((conv => whnf); (first | (refine hK _ _ _ ?_; clear hK K) | refine Z.reg wd (fun K hK => ?_) | refine Z.seq ?_ | refine Z.cond (E := Ee) ?_ | refine Z.ret rfl ?_ | refine Z.exit rfl ?_ | refine IfB.DF (by first | assumption | omega | (simp; done) | fail) ?_ | refine Calc.mk _ (rS_len _) ?_ | exact EqB.mk rfl))
def eqL (a b : List (List UInt8)) : Bool := decide (a = b)
def eqD (a b : List (List UInt8)) (i : Nat) : Bool := decide (a.drop i = b.drop i)
theorem eqD_step {a b : List (List UInt8)} {i : Nat} {s t : List UInt8} (ha : a[i]? = some s) (hb : b[i]? = some t) : eqD a b i = (decide (s = t) && eqD a b (i + 1)) := by
  have h1 : i < a.length := (List.getElem?_eq_some_iff.mp ha).1
  have h2 : a[i] = s := (List.getElem?_eq_some_iff.mp ha).2
  have h3 : i < b.length := (List.getElem?_eq_some_iff.mp hb).1
  have h4 : b[i] = t := (List.getElem?_eq_some_iff.mp hb).2
  unfold eqD
  rw [List.drop_eq_getElem_cons h1, List.drop_eq_getElem_cons h3, h2, h4]
  simp
theorem eqD_end {a b : List (List UInt8)} {i : Nat} (h : a.length ≤ i) (hb : b.length ≤ i) : eqD a b i = true := by
  unfold eqD; rw [List.drop_eq_nil_of_le h, List.drop_eq_nil_of_le hb]; simp
theorem eqL_len {a b : List (List UInt8)} (h : a.length ≠ b.length) : eqL a b = false := decide_eq_false fun e => h (by rw [e])
theorem eqL_self (a : List (List UInt8)) : eqL a a = true := decide_eq_true rfl
attribute [irreducible] eqL eqD
theorem eqL_0 (a b : List (List UInt8)) : eqL a b = eqD a b 0 := by unfold eqL eqD; rfl
theorem eqStrings_ct (a b : List (List UInt8)) (hl : a.length ≤ mostRows) (hb : b.length ≤ mostRows) : Ct Tryd.prog 74 [bSs a, bSs b] (.w (bB (eqL a b))) := by
  by_cases hab : a.length = b.length
  case neg =>
    rw [eqL_len hab]
    refine Ct.z wd Tryd.func74 rfl rfl Tryd.ntmps74 rfl rfl rfl rfl ?_
    repeat' ((conv => whnf); (first | (refine hK _ _ _ ?_; clear hK K) | refine Z.reg wd (fun K hK => ?_) | refine Z.seq ?_ | refine Z.cond (E := Ee) ?_ | refine Z.ret rfl ?_ | refine IfB.DT (by first | assumption | omega | (simp; done) | fail) ?_ | refine Calc.mk _ (rS_len _) ?_ | exact EqB.mk rfl))
  simp only [mostRows] at hl hb
  refine Ct.z wd Tryd.func74 rfl rfl Tryd.ntmps74 rfl rfl rfl rfl ?_
  repeat' ((conv => whnf); (first | (refine hK _ _ _ ?_; clear hK K) | refine Z.reg wd (fun K hK => ?_) | refine Z.seq ?_ | refine Z.skip ?_ | refine Z.cond (E := Ee) ?_ | refine Z.block ?_ | refine IfB.DF (by first | assumption | omega | (simp; done) | fail) ?_ | refine Calc.mk _ (rS_len _) ?_))
  refine Z.loopK [0, 1, 5] ?_; (conv => whnf); refine LoopZ.mk (α := Nat) (fun i => [(5, vI i)]) (fun i => []) (fun i => i ≤ a.length ∧ eqL a b = eqD a b i) (fun i => a.length - i) 0 rfl rfl (by exact ⟨by omega, eqL_0 a b⟩) ?_; intro nF i hI next; refine Z.force ?_
  obtain ⟨h1, h2⟩ := hI
  by_cases hn : i < a.length
  · obtain ⟨s, hs⟩ : ∃ s, a[i]? = some s := ⟨_, List.getElem?_eq_getElem hn⟩
    obtain ⟨t, ht⟩ : ∃ t, b[i]? = some t := ⟨_, List.getElem?_eq_getElem (by omega)⟩
    rw [eqD_step hs ht] at h2
    by_cases e : s = t
    · subst e
      rw [decide_eq_true rfl, Bool.true_and] at h2
      repeat' ((conv => whnf); (first | (refine hK _ _ _ ?_; clear hK K) | refine Z.reg wd (fun K hK => ?_) | refine Z.draw wd rfl (fun K hK => ?_) | refine Z.seq ?_ | refine Z.skip ?_ | refine Z.cond (E := Ee) ?_ | refine Z.block ?_ | refine Z.blockEnd ?_ | refine IfB.DT (by first | assumption | omega | (simp; done) | fail) ?_ | refine IfB.DF (by first | assumption | omega | (simp; done) | fail) ?_ | refine Need.mk (by kernel_rfl) ?_ | refine Need.mk (by first | omega | (simp only [strMost, mostRows, rS_len, rI_len, List.length_append, List.length_map, List.length_set, List.length_replicate, List.length_cons, List.length_nil, List.length_drop, List.length_take, letterL_len, upL_len, pathL_len, clearL_len, fillL_len] at *; omega) | (simp at *; omega) | fail) ?_ | refine Find.mk _ (rS_get (by assumption)) ?_ | refine Calc.mk _ (rS_len _) ?_))
      (refine Z.next (L := ?L) (next (i + 1) (by exact ⟨by omega, h2⟩) (by omega)) ?eL ?hc ?e1 ?e2 ?em; (case eL => exact rfl); all_goals exact rfl)
    · rw [decide_eq_false e, Bool.false_and] at h2
      rw [h2]
      repeat' ((conv => whnf); (first | (refine hK _ _ _ ?_; clear hK K) | refine Z.reg wd (fun K hK => ?_) | refine Z.draw wd rfl (fun K hK => ?_) | refine Z.seq ?_ | refine Z.skip ?_ | refine Z.cond (E := Ee) ?_ | refine Z.ret rfl ?_ | refine Z.block ?_ | refine IfB.DT (by first | assumption | omega | (simp; done) | fail) ?_ | refine Need.mk (by kernel_rfl) ?_ | refine Need.mk (by first | omega | (simp only [strMost, mostRows, rS_len, rI_len, List.length_append, List.length_map, List.length_set, List.length_replicate, List.length_cons, List.length_nil, List.length_drop, List.length_take, letterL_len, upL_len, pathL_len, clearL_len, fillL_len] at *; omega) | (simp at *; omega) | fail) ?_ | refine Find.mk _ (rS_get (by assumption)) ?_ | refine Calc.mk _ (rS_len _) ?_ | exact EqB.mk rfl))
  · rw [eqD_end (by omega) (by omega)] at h2
    rw [h2]
    repeat' ((conv => whnf); (first | (refine hK _ _ _ ?_; clear hK K) | refine Z.reg wd (fun K hK => ?_) | refine Z.seq ?_ | refine Z.cond (E := Ee) ?_ | refine Z.ret rfl ?_ | refine Z.exit rfl ?_ | refine IfB.DF (by first | assumption | omega | (simp; done) | fail) ?_ | refine Calc.mk _ (rS_len _) ?_ | exact EqB.mk rfl))
end Go.Proofs.YtfokmnafgabdiaaDoor.Eng
/- The helpers of the exact laws: marks, and trees. -/
namespace Go.Proofs.YtfokmnafgabdiaaDoor.Eng
open Go Go.RowKit Kw
set_option linter.unusedVariables false
set_option linter.unusedSimpArgs false
set_option maxRecDepth 10000
set_option maxHeartbeats 4000000
/-- So many marks. -/
def markL (k : Nat) (n : Nat) : List (List UInt8) := (List.range n).map fun i => markS (k + i)
theorem markL_len (k n : Nat) : (markL k n).length = n := by simp [markL]
theorem markL_get {k n i : Nat} (h : i < n) : (markL k n)[i]? = some (markS (k + i)) := by
  unfold markL; rw [List.getElem?_map, List.getElem?_range h]; rfl
theorem heldStrings_ct (k n : Nat) (hk : 0 < k) (hb : k + n ≤ 2 ^ 24) (hn : n ≤ mostRows) : Ct Tryd.prog 76 [bSs (markL k n), bI k] (.w (bI ((k + n : Nat) : Int))) := by
  simp only [mostRows] at hn
  have hl := markL_len k n
  refine Ct.z wd Tryd.func76 rfl rfl Tryd.ntmps76 rfl rfl rfl rfl ?_
  repeat' ((conv => whnf); (first | (refine hK _ _ _ ?_; clear hK K) | refine Z.reg wd (fun K hK => ?_) | refine Z.seq ?_ | refine Z.block ?_))
  refine Z.loopK [0, 1, 5] ?_; (conv => whnf); refine LoopZ.mk (α := Nat) (fun i => [(5, vI i), (1, vI ((k + i : Nat) : Int))]) (fun i => []) (fun i => i ≤ n) (fun i => n - i) 0 rfl rfl (by omega) ?_; intro nF i hI next; refine Z.force ?_
  by_cases h : i < n
  · have hg := markL_get (k := k) h
    repeat' ((conv => whnf); (first | (refine hK _ _ _ ?_; clear hK K) | refine Z.reg wd (fun K hK => ?_) | refine Z.draw wd rfl (fun K hK => ?_) | refine Z.seq ?_ | refine Z.skip ?_ | refine Z.cond (E := Ee) ?_ | refine Z.block ?_ | refine Z.blockEnd ?_ | refine IfB.DT (by first | assumption | omega | (simp; done) | fail) ?_ | refine IfB.DF (by first | assumption | omega | (simp; done) | fail) ?_ | refine Need.mk (by kernel_rfl) ?_ | refine Need.mk (by first | omega | (simp only [strMost, mostRows, rS_len, rI_len, List.length_append, List.length_map, List.length_set, List.length_replicate, List.length_cons, List.length_nil, List.length_drop, List.length_take, letterL_len, upL_len, pathL_len, clearL_len, fillL_len, markL_len] at *; omega) | (simp at *; omega) | fail) ?_ | refine CallD.mk _ (markText_ct _ (by first | omega | (simp only [strMost, mostRows, rS_len, rI_len, List.length_append, List.length_map, List.length_set, List.length_replicate, List.length_cons, List.length_nil, List.length_drop, List.length_take, letterL_len, upL_len, pathL_len, clearL_len, fillL_len, markL_len] at *; omega) | (simp at *; omega) | fail) (by first | omega | (simp only [strMost, mostRows, rS_len, rI_len, List.length_append, List.length_map, List.length_set, List.length_replicate, List.length_cons, List.length_nil, List.length_drop, List.length_take, letterL_len, upL_len, pathL_len, clearL_len, fillL_len, markL_len] at *; omega) | (simp at *; omega) | fail)) (by first | ((repeat' (first | exact trivial | exact fun _ => rfl | refine And.intro ?_ ?_ | (intro e; first | (simp at e; done) | (simp at e; omega)) | fail)); done) | fail) ?_ | refine Find.mk _ (rS_get (by assumption)) ?_ | refine Calc.mk _ (rS_len _) ?_))
    (refine Z.next (L := ?L) (next (i + 1) (by omega) (by omega)) ?eL ?hc ?e1 ?e2 ?em; (case eL => exact rfl); all_goals exact rfl)
  · obtain rfl : i = n := by omega
    repeat' ((conv => whnf); (first | (refine hK _ _ _ ?_; clear hK K) | refine Z.reg wd (fun K hK => ?_) | refine Z.seq ?_ | refine Z.cond (E := Ee) ?_ | refine Z.ret rfl ?_ | refine Z.exit rfl ?_ | refine IfB.DF (by first | assumption | omega | (simp; done) | fail) ?_ | refine Calc.mk _ (rS_len _) ?_ | exact EqB.mk rfl))
def markM (k : Nat) (l : List (List UInt8)) (i : Nat) : List (List UInt8) := markL k i ++ l.drop i
theorem markM_len {k : Nat} {l : List (List UInt8)} {i : Nat} (h : i ≤ l.length) : (markM k l i).length = l.length := by
  unfold markM; rw [List.length_append, markL_len, List.length_drop]; omega
theorem markM_set {k : Nat} {l : List (List UInt8)} {i : Nat} (h : i < l.length) : (rS (markM k l i)).set i [.lit (.string (mk (markS (k + i))))] = rS (markM k l (i + 1)) := by
  rw [rS_set]
  congr 1
  unfold markM
  rw [List.set_append_right _ _ (by rw [markL_len]; exact Nat.le_refl _), markL_len, Nat.sub_self, List.drop_eq_getElem_cons h, List.set_cons_zero]
  unfold markL
  rw [List.range_succ, List.map_append]; simp
theorem markM_all (k : Nat) (l : List (List UInt8)) {i : Nat} (h : i = l.length) : markM k l i = markL k l.length := by
  subst h; unfold markM; simp
theorem markStrings_hc (l : List (List UInt8)) (k n : Nat) (cap : Option Nat) (hn : n = l.length) (hk : 0 < k) (hb : k + n ≤ 2 ^ 24) (hl : l.length ≤ mostRows) :
    HCt Tryd.prog 75 1 most [.rows 1 (rS l)] [.one (.ref 0 0 n cap), .one (.c (.lit (.int .i64 (k : Nat))))] (vI ((k + n : Nat) : Int)) [.rows 1 (rS (markL k l.length))] 1 := by
  simp only [mostRows] at hl
  refine HCt.z wd Tryd.func75 rfl rfl Tryd.ntmps75 rfl rfl ?_
  repeat' ((conv => whnf); (first | (refine hK _ _ _ ?_; clear hK K) | refine Z.reg wd (fun K hK => ?_) | refine Z.seq ?_ | refine Z.block ?_))
  refine Z.loopK [0, 1, 5] ?_; (conv => whnf); refine LoopZ.mk (α := Nat) (fun i => [(5, vI i), (1, vI ((k + i : Nat) : Int))]) (fun i => [(0, .rows 1 (rS (markM k l i)))]) (fun i => i ≤ n) (fun i => n - i) 0 rfl rfl (by omega) ?_; intro nF i hI next; refine Z.force ?_
  by_cases h : i < n
  · have hi : i < l.length := by omega
    have hm := markM_len (k := k) (Nat.le_of_lt hi)
    repeat' ((conv => whnf); (first | (refine hK _ _ _ ?_; clear hK K) | refine Z.reg wd (fun K hK => ?_) | refine Z.seq ?_ | refine Z.skip ?_ | refine Z.cond (E := Ee) ?_ | refine Z.block ?_ | refine Z.blockEnd ?_ | refine IfB.DT (by first | assumption | omega | (simp; done) | fail) ?_ | refine Need.mk (by first | omega | (simp only [strMost, mostRows, rS_len, rI_len, List.length_append, List.length_map, List.length_set, List.length_replicate, List.length_cons, List.length_nil, List.length_drop, List.length_take, letterL_len, upL_len, pathL_len, clearL_len, fillL_len, markL_len] at *; omega) | (simp at *; omega) | fail) ?_ | refine CallW.mk _ (markText_ct _ (by first | omega | (simp only [strMost, mostRows, rS_len, rI_len, List.length_append, List.length_map, List.length_set, List.length_replicate, List.length_cons, List.length_nil, List.length_drop, List.length_take, letterL_len, upL_len, pathL_len, clearL_len, fillL_len, markL_len] at *; omega) | (simp at *; omega) | fail) (by first | omega | (simp only [strMost, mostRows, rS_len, rI_len, List.length_append, List.length_map, List.length_set, List.length_replicate, List.length_cons, List.length_nil, List.length_drop, List.length_take, letterL_len, upL_len, pathL_len, clearL_len, fillL_len, markL_len] at *; omega) | (simp at *; omega) | fail)) ?_ | refine Find.mk _ (rS_getD (by first | omega | (simp only [strMost, mostRows, rS_len, rI_len, List.length_append, List.length_map, List.length_set, List.length_replicate, List.length_cons, List.length_nil, List.length_drop, List.length_take, letterL_len, upL_len, pathL_len, clearL_len, fillL_len, markL_len] at *; omega) | (simp at *; omega) | fail)) ?_ | refine Calc.mk _ (markM_set (by assumption)) ?_ | refine Calc.mk _ (rS_takeall (by first | rfl | assumption | (simp only [rS_len, rI_len, List.length_append, List.length_map, List.length_set, List.length_replicate, List.length_cons, List.length_nil, Nat.zero_add, letterL_len, upL_len, pathL_len, clearL_len, fillL_len, markL_len]; done) | omega | (simp only [rS_len, rI_len, List.length_append, List.length_map, List.length_set, List.length_replicate, List.length_cons, List.length_nil, List.length_drop, List.length_take, letterL_len, upL_len, pathL_len, clearL_len, fillL_len, markL_len] at *; omega) | fail)) ?_ | refine Calc.mk _ (rS_len _) ?_ | refine Calc.mk _ (Nat.zero_add _) ?_))
    (refine Z.next (L := ?L) (next (i + 1) (by omega) (by omega)) ?eL ?hc ?e1 ?e2 ?em; (case eL => exact rfl); all_goals exact rfl)
  · rw [markM_all k l (by omega)]
    obtain rfl : i = n := by omega
    have hml := markL_len k l.length
    repeat' ((conv => whnf); (first | (refine hK _ _ _ ?_; clear hK K) | refine Z.reg wd (fun K hK => ?_) | refine Z.seq ?_ | refine Z.cond (E := Ee) ?_ | refine Z.hret [4] rfl ?_ | refine Z.exit rfl ?_ | refine IfB.DF (by first | assumption | omega | (simp; done) | fail) ?_ | refine Calc.mk _ (rS_takeall (by first | rfl | assumption | (simp only [rS_len, rI_len, List.length_append, List.length_map, List.length_set, List.length_replicate, List.length_cons, List.length_nil, Nat.zero_add, letterL_len, upL_len, pathL_len, clearL_len, fillL_len, markL_len]; done) | omega | (simp only [rS_len, rI_len, List.length_append, List.length_map, List.length_set, List.length_replicate, List.length_cons, List.length_nil, List.length_drop, List.length_take, letterL_len, upL_len, pathL_len, clearL_len, fillL_len, markL_len] at *; omega) | fail)) ?_ | refine Calc.mk _ (rS_len _) ?_ | exact EqH.mk2 rfl rfl))
theorem markTree_hc (l : List (List UInt8)) (k n : Nat) (cap : Option Nat) (hn : n = l.length) (hk : 0 < k) (hb : k + n ≤ 2 ^ 24) (hl : l.length ≤ mostRows) :
    HCt Tryd.prog 30 1 most [.rows 1 (rS l)] [.agg [.ref 0 0 n cap], .one (.c (.lit (.int .i64 (k : Nat))))] (vI ((k + n : Nat) : Int)) [.rows 1 (rS (markL k l.length))] 1 := by
  refine HCt.z wd Tryd.func30 rfl rfl Tryd.ntmps30 rfl rfl ?_
  repeat' ((conv => whnf); (first | (refine hK _ _ _ ?_; clear hK K) | refine Z.reg wd (fun K hK => ?_) | refine Z.seq ?_ | refine Z.hret [4] rfl ?_ | (refine RawW.mk (O.hcall wd rfl rfl rfl rfl rfl rfl rfl rfl rfl (markStrings_hc _ _ _ _ (by first | rfl | assumption | (simp only [rS_len, rI_len, List.length_append, List.length_map, List.length_set, List.length_replicate, List.length_cons, List.length_nil, Nat.zero_add, letterL_len, upL_len, pathL_len, clearL_len, fillL_len, markL_len]; done) | omega | (simp only [rS_len, rI_len, List.length_append, List.length_map, List.length_set, List.length_replicate, List.length_cons, List.length_nil, List.length_drop, List.length_take, letterL_len, upL_len, pathL_len, clearL_len, fillL_len, markL_len] at *; omega) | fail) (by first | omega | (simp only [strMost, mostRows, rS_len, rI_len, List.length_append, List.length_map, List.length_set, List.length_replicate, List.length_cons, List.length_nil, List.length_drop, List.length_take, letterL_len, upL_len, pathL_len, clearL_len, fillL_len, markL_len] at *; omega) | (simp at *; omega) | fail) (by first | omega | (simp only [strMost, mostRows, rS_len, rI_len, List.length_append, List.length_map, List.length_set, List.length_replicate, List.length_cons, List.length_nil, List.length_drop, List.length_take, letterL_len, upL_len, pathL_len, clearL_len, fillL_len, markL_len] at *; omega) | (simp at *; omega) | fail) (by first | omega | (simp only [strMost, mostRows, rS_len, rI_len, List.length_append, List.length_map, List.length_set, List.length_replicate, List.length_cons, List.length_nil, List.length_drop, List.length_take, letterL_len, upL_len, pathL_len, clearL_len, fillL_len, markL_len] at *; omega) | (simp at *; omega) | fail)) rfl rfl rfl rfl rfl rfl rfl rfl rfl (le_ rfl) rfl rfl ?_); refine Z.opsF wd (fun K hK => ?_)) | exact EqH.mk2 rfl rfl))
theorem heldTree_ct (k n : Nat) (hk : 0 < k) (hb : k + n ≤ 2 ^ 24) (hn : n ≤ mostRows) : Ct Tryd.prog 31 [bT (markL k n), bI k] (.w (bI ((k + n : Nat) : Int))) := by
  refine Ct.z wd Tryd.func31 rfl rfl Tryd.ntmps31 rfl rfl rfl rfl ?_
  repeat' ((conv => whnf); (first | (refine hK _ _ _ ?_; clear hK K) | refine Z.reg wd (fun K hK => ?_) | refine Z.seq ?_ | refine Z.skip ?_ | refine Z.cond (E := Ee) ?_ | refine Z.ret rfl ?_ | refine IfB.F rfl ?_ | refine CallW.mk _ (heldStrings_ct _ _ (by first | omega | (simp only [strMost, mostRows, rS_len, rI_len, List.length_append, List.length_map, List.length_set, List.length_replicate, List.length_cons, List.length_nil, List.length_drop, List.length_take, letterL_len, upL_len, pathL_len, clearL_len, fillL_len, markL_len] at *; omega) | (simp at *; omega) | fail) (by first | omega | (simp only [strMost, mostRows, rS_len, rI_len, List.length_append, List.length_map, List.length_set, List.length_replicate, List.length_cons, List.length_nil, List.length_drop, List.length_take, letterL_len, upL_len, pathL_len, clearL_len, fillL_len, markL_len] at *; omega) | (simp at *; omega) | fail) (by first | omega | (simp only [strMost, mostRows, rS_len, rI_len, List.length_append, List.length_map, List.length_set, List.length_replicate, List.length_cons, List.length_nil, List.length_drop, List.length_take, letterL_len, upL_len, pathL_len, clearL_len, fillL_len, markL_len] at *; omega) | (simp at *; omega) | fail)) ?_ | exact EqB.mk rfl))
theorem eqTree_ct (a b : List (List UInt8)) (hl : a.length ≤ mostRows) (hb : b.length ≤ mostRows) : Ct Tryd.prog 29 [bT a, bT b] (.w (bB (eqL a b))) := by
  refine Ct.z wd Tryd.func29 rfl rfl Tryd.ntmps29 rfl rfl rfl rfl ?_
  repeat' ((conv => whnf); (first | (refine hK _ _ _ ?_; clear hK K) | refine Z.reg wd (fun K hK => ?_) | refine Z.seq ?_ | refine Z.skip ?_ | refine Z.cond (E := Ee) ?_ | refine Z.ret rfl ?_ | refine IfB.N ?_ | refine IfB.mk (fun h => ?_) (fun h => ?_) | refine CallW.mk _ (eqStrings_ct _ _ (by first | omega | (simp only [strMost, mostRows, rS_len, rI_len, List.length_append, List.length_map, List.length_set, List.length_replicate, List.length_cons, List.length_nil, List.length_drop, List.length_take, letterL_len, upL_len, pathL_len, clearL_len, fillL_len, markL_len] at *; omega) | (simp at *; omega) | fail) (by first | omega | (simp only [strMost, mostRows, rS_len, rI_len, List.length_append, List.length_map, List.length_set, List.length_replicate, List.length_cons, List.length_nil, List.length_drop, List.length_take, letterL_len, upL_len, pathL_len, clearL_len, fillL_len, markL_len] at *; omega) | (simp at *; omega) | fail)) ?_ | refine EqB.mk ?_))
  all_goals (first | (rw [‹eqL a b = _›]; done) | skip)
theorem toTree_ct (l : List (List UInt8)) (hl : l.length ≤ mostRows) : Ct Tryd.prog 28 [bT l] (oT l none) := by
  refine Ct.z wd Tryd.func28 rfl rfl Tryd.ntmps28 rfl rfl rfl rfl ?_
  repeat' ((conv => whnf); (first | (refine hK _ _ _ ?_; clear hK K) | refine Z.reg wd (fun K hK => ?_) | refine Z.seq ?_ | refine Z.ret rfl ?_ | refine CallW.mk _ (toStrings_ct _ (by first | omega | (simp only [strMost, mostRows, rS_len, rI_len, List.length_append, List.length_map, List.length_set, List.length_replicate, List.length_cons, List.length_nil, List.length_drop, List.length_take, letterL_len, upL_len, pathL_len, clearL_len, fillL_len, markL_len] at *; omega) | (simp at *; omega) | fail)) ?_ | refine Calc.mk _ (vw_all _) ?_ | exact EqB.mk rfl))
theorem szTree_ct (l : List (List UInt8)) (left : Int) (hl : l.length ≤ 9223372036854775807) (hs : ∀ s ∈ l, s.length ≤ 9223372036854775807) (h0 : 0 ≤ left) (h1 : left ≤ 2097152) : Ct Tryd.prog 26 [bT l, bI left] (.w (bI (szL left l))) := by
  have hr := szL_range left l h0
  refine Ct.z wd Tryd.func26 rfl rfl Tryd.ntmps26 rfl rfl rfl rfl ?_
  repeat' ((conv => whnf); (first | (refine hK _ _ _ ?_; clear hK K) | refine Z.reg wd (fun K hK => ?_) | refine Z.seq ?_ | refine Z.skip ?_ | refine Z.cond (E := Ee) ?_ | refine Z.ret rfl ?_ | refine IfB.D (fun h => ?_) (fun h => ?_) | refine CallW.mk _ (szStrings_ct _ _ (by first | omega | (simp only [strMost, mostRows, rS_len, rI_len, List.length_append, List.length_map, List.length_set, List.length_replicate, List.length_cons, List.length_nil, List.length_drop, List.length_take, letterL_len, upL_len, pathL_len, clearL_len, fillL_len, markL_len] at *; omega) | (simp at *; omega) | fail) (by assumption) (by first | omega | (simp only [strMost, mostRows, rS_len, rI_len, List.length_append, List.length_map, List.length_set, List.length_replicate, List.length_cons, List.length_nil, List.length_drop, List.length_take, letterL_len, upL_len, pathL_len, clearL_len, fillL_len, markL_len] at *; omega) | (simp at *; omega) | fail) (by first | omega | (simp only [strMost, mostRows, rS_len, rI_len, List.length_append, List.length_map, List.length_set, List.length_replicate, List.length_cons, List.length_nil, List.length_drop, List.length_take, letterL_len, upL_len, pathL_len, clearL_len, fillL_len, markL_len] at *; omega) | (simp at *; omega) | fail)) ?_ | exact EqB.mk rfl | refine EqB.mk ?_))
  rw [show szL left l = -1 from by omega]
end Go.Proofs.YtfokmnafgabdiaaDoor.Eng
/- The law FnExactTreClear, whatever the arguments. -/
namespace Go.Proofs.YtfokmnafgabdiaaDoor.Eng
open Go Go.RowKit Kw
set_option linter.unusedVariables false
set_option linter.unusedSimpArgs false
set_option maxRecDepth 10000
set_option maxHeartbeats 4000000
theorem eqNo_ct : Ct Tryd.prog 29 [bT [], bT []] (.w (bB true)) := by
  have := eqTree_ct [] [] (by simp) (by simp)
  rwa [eqL_self] at this
theorem markNo_hc : HCt Tryd.prog 30 1 most [.rows 1 []] [.agg [.ref 0 0 0 none], .one (.c (.lit (.int .i64 1)))] (vI 1) [.rows 1 []] 1 := markTree_hc [] 1 0 none rfl (by omega) (by omega) (by simp)
theorem heldNo_ct : Ct Tryd.prog 31 [bT [], bI 1] (.w (bI 1)) := heldTree_ct 1 0 (by omega) (by omega) (by simp)
theorem exactTreClear_ct (l : List (List UInt8)) (who : Int) (hl : l.length ≤ 9223372036854775807) (hs : ∀ s ∈ l, s.length ≤ 9223372036854775807) : Ct Tryd.prog 5 [bT l, bI who] (.w (bB true)) := by
  have hr := szL_range 1048576 l (by omega)
  by_cases hz : 0 ≤ szL 1048576 l
  case neg =>
    clear hr
    refine Ct.z wd Tryd.func5 rfl rfl Tryd.ntmps5 rfl rfl rfl rfl ?_
    repeat' ((conv => whnf); (first | (refine hK _ _ _ ?_; clear hK K) | refine Z.reg wd (fun K hK => ?_) | refine Z.seq ?_ | refine Z.cond (E := Ee) ?_ | refine Z.ret rfl ?_ | refine IfB.DT (by first | assumption | omega | (simp; done) | fail) ?_ | refine CallW.mk _ (szTree_ct _ _ (by first | omega | (simp only [strMost, mostRows, rS_len, rI_len, List.length_append, List.length_map, List.length_set, List.length_replicate, List.length_cons, List.length_nil, List.length_drop, List.length_take, letterL_len, upL_len, pathL_len, clearL_len, fillL_len, markL_len] at *; omega) | (simp at *; omega) | fail) (by assumption) (by first | omega | (simp only [strMost, mostRows, rS_len, rI_len, List.length_append, List.length_map, List.length_set, List.length_replicate, List.length_cons, List.length_nil, List.length_drop, List.length_take, letterL_len, upL_len, pathL_len, clearL_len, fillL_len, markL_len] at *; omega) | (simp at *; omega) | fail) (by first | omega | (simp only [strMost, mostRows, rS_len, rI_len, List.length_append, List.length_map, List.length_set, List.length_replicate, List.length_cons, List.length_nil, List.length_drop, List.length_take, letterL_len, upL_len, pathL_len, clearL_len, fillL_len, markL_len] at *; omega) | (simp at *; omega) | fail)) ?_ | exact EqB.mk rfl))
  have hlen : l.length ≤ 1048576 := by have := hr.2.2 hz; omega
  have e0 := eqL_self l
  by_cases hk : okT l = true ∧ (0 ≤ who ∧ who ≤ 7)
  · obtain ⟨hk, hw⟩ := hk
    have e1 := eqL_self (clearL l who)
    have hc := clearL_len l who
    have hc2 := rS_len (clearL l who)
    refine Ct.z wd Tryd.func5 rfl rfl Tryd.ntmps5 rfl rfl rfl rfl ?_
    repeat' ((conv => whnf); (first | (refine hK _ _ _ ?_; clear hK K) | refine Z.reg wd (fun K hK => ?_) | refine Z.draw wd rfl (fun K hK => ?_) | refine Z.seq ?_ | refine Z.skip ?_ | refine Z.cond (E := Ee) ?_ | refine Z.ret rfl ?_ | refine IfB.F rfl ?_ | refine IfB.T (by assumption) ?_ | refine IfB.DF (by first | assumption | omega | (simp; done) | fail) ?_ | refine IfB.N ?_ | refine Need.mk ⟨by first | (simp only [BV.untie, BW.untie, B1.untie, B0.untie, untie_rI, untie_rS, List.map_cons, List.map_nil]; done) | (simp only [BV.untie, BW.untie, B1.untie, B0.untie, untie_rI, untie_rS, List.map_cons, List.map_nil]; rfl) | fail, rfl⟩ ?_ | refine Need.mk (by kernel_rfl) ?_ | refine CallW.mk _ (szTree_ct _ _ (by first | omega | (simp only [strMost, mostRows, rS_len, rI_len, List.length_append, List.length_map, List.length_set, List.length_replicate, List.length_cons, List.length_nil, List.length_drop, List.length_take, letterL_len, upL_len, pathL_len, clearL_len, fillL_len, markL_len] at *; omega) | (simp at *; omega) | fail) (by assumption) (by first | omega | (simp only [strMost, mostRows, rS_len, rI_len, List.length_append, List.length_map, List.length_set, List.length_replicate, List.length_cons, List.length_nil, List.length_drop, List.length_take, letterL_len, upL_len, pathL_len, clearL_len, fillL_len, markL_len] at *; omega) | (simp at *; omega) | fail) (by first | omega | (simp only [strMost, mostRows, rS_len, rI_len, List.length_append, List.length_map, List.length_set, List.length_replicate, List.length_cons, List.length_nil, List.length_drop, List.length_take, letterL_len, upL_len, pathL_len, clearL_len, fillL_len, markL_len] at *; omega) | (simp at *; omega) | fail)) ?_ | refine CallW.mk _ (toTree_ct _ (by first | omega | (simp only [strMost, mostRows, rS_len, rI_len, List.length_append, List.length_map, List.length_set, List.length_replicate, List.length_cons, List.length_nil, List.length_drop, List.length_take, letterL_len, upL_len, pathL_len, clearL_len, fillL_len, markL_len] at *; omega) | (simp at *; omega) | fail)) ?_ | refine CallD.mk _ (toTree_ct _ (by first | omega | (simp only [strMost, mostRows, rS_len, rI_len, List.length_append, List.length_map, List.length_set, List.length_replicate, List.length_cons, List.length_nil, List.length_drop, List.length_take, letterL_len, upL_len, pathL_len, clearL_len, fillL_len, markL_len] at *; omega) | (simp at *; omega) | fail)) (by first | ((repeat' (first | exact trivial | exact fun _ => rfl | refine And.intro ?_ ?_ | (intro e; first | (simp at e; done) | (simp at e; omega)) | fail)); done) | fail) ?_ | refine CallW.mk _ (sTreClear_ct _ _ (by assumption) (by omega)) ?_ | refine CallW.mk _ (treClear_ct _ _ (by assumption) (by omega)) ?_ | refine CallW.mk _ (eqTree_ct _ _ (by first | omega | (simp only [strMost, mostRows, rS_len, rI_len, List.length_append, List.length_map, List.length_set, List.length_replicate, List.length_cons, List.length_nil, List.length_drop, List.length_take, letterL_len, upL_len, pathL_len, clearL_len, fillL_len, markL_len] at *; omega) | (simp at *; omega) | fail) (by first | omega | (simp only [strMost, mostRows, rS_len, rI_len, List.length_append, List.length_map, List.length_set, List.length_replicate, List.length_cons, List.length_nil, List.length_drop, List.length_take, letterL_len, upL_len, pathL_len, clearL_len, fillL_len, markL_len] at *; omega) | (simp at *; omega) | fail)) ?_ | refine CallD.mk _ (eqTree_ct _ _ (by first | omega | (simp only [strMost, mostRows, rS_len, rI_len, List.length_append, List.length_map, List.length_set, List.length_replicate, List.length_cons, List.length_nil, List.length_drop, List.length_take, letterL_len, upL_len, pathL_len, clearL_len, fillL_len, markL_len] at *; omega) | (simp at *; omega) | fail) (by first | omega | (simp only [strMost, mostRows, rS_len, rI_len, List.length_append, List.length_map, List.length_set, List.length_replicate, List.length_cons, List.length_nil, List.length_drop, List.length_take, letterL_len, upL_len, pathL_len, clearL_len, fillL_len, markL_len] at *; omega) | (simp at *; omega) | fail)) (by first | ((repeat' (first | exact trivial | exact fun _ => rfl | refine And.intro ?_ ?_ | (intro e; first | (simp at e; done) | (simp at e; omega)) | fail)); done) | fail) ?_ | (refine RawW.mk (O.hcall wd rfl rfl rfl rfl rfl rfl rfl rfl rfl (markTree_hc _ _ _ _ (by first | rfl | assumption | (simp only [rS_len, rI_len, List.length_append, List.length_map, List.length_set, List.length_replicate, List.length_cons, List.length_nil, Nat.zero_add, letterL_len, upL_len, pathL_len, clearL_len, fillL_len, markL_len]; done) | omega | (simp only [rS_len, rI_len, List.length_append, List.length_map, List.length_set, List.length_replicate, List.length_cons, List.length_nil, List.length_drop, List.length_take, letterL_len, upL_len, pathL_len, clearL_len, fillL_len, markL_len] at *; omega) | fail) (by first | omega | (simp only [strMost, mostRows, rS_len, rI_len, List.length_append, List.length_map, List.length_set, List.length_replicate, List.length_cons, List.length_nil, List.length_drop, List.length_take, letterL_len, upL_len, pathL_len, clearL_len, fillL_len, markL_len] at *; omega) | (simp at *; omega) | fail) (by first | omega | (simp only [strMost, mostRows, rS_len, rI_len, List.length_append, List.length_map, List.length_set, List.length_replicate, List.length_cons, List.length_nil, List.length_drop, List.length_take, letterL_len, upL_len, pathL_len, clearL_len, fillL_len, markL_len] at *; omega) | (simp at *; omega) | fail) (by first | omega | (simp only [strMost, mostRows, rS_len, rI_len, List.length_append, List.length_map, List.length_set, List.length_replicate, List.length_cons, List.length_nil, List.length_drop, List.length_take, letterL_len, upL_len, pathL_len, clearL_len, fillL_len, markL_len] at *; omega) | (simp at *; omega) | fail)) rfl rfl rfl rfl rfl rfl rfl rfl rfl (le_ rfl) rfl rfl ?_); refine Z.opsF wd (fun K hK => ?_)) | refine CallW.mk _ (heldTree_ct _ _ (by first | omega | (simp only [strMost, mostRows, rS_len, rI_len, List.length_append, List.length_map, List.length_set, List.length_replicate, List.length_cons, List.length_nil, List.length_drop, List.length_take, letterL_len, upL_len, pathL_len, clearL_len, fillL_len, markL_len] at *; omega) | (simp at *; omega) | fail) (by first | omega | (simp only [strMost, mostRows, rS_len, rI_len, List.length_append, List.length_map, List.length_set, List.length_replicate, List.length_cons, List.length_nil, List.length_drop, List.length_take, letterL_len, upL_len, pathL_len, clearL_len, fillL_len, markL_len] at *; omega) | (simp at *; omega) | fail) (by first | omega | (simp only [strMost, mostRows, rS_len, rI_len, List.length_append, List.length_map, List.length_set, List.length_replicate, List.length_cons, List.length_nil, List.length_drop, List.length_take, letterL_len, upL_len, pathL_len, clearL_len, fillL_len, markL_len] at *; omega) | (simp at *; omega) | fail)) ?_ | refine Calc.mk _ (vw_all _) ?_ | refine Calc.mk _ (rS_takeall (by first | rfl | assumption | (simp only [rS_len, rI_len, List.length_append, List.length_map, List.length_set, List.length_replicate, List.length_cons, List.length_nil, Nat.zero_add, letterL_len, upL_len, pathL_len, clearL_len, fillL_len, markL_len]; done) | omega | (simp only [rS_len, rI_len, List.length_append, List.length_map, List.length_set, List.length_replicate, List.length_cons, List.length_nil, List.length_drop, List.length_take, letterL_len, upL_len, pathL_len, clearL_len, fillL_len, markL_len] at *; omega) | fail)) ?_ | exact EqB.mk rfl))
  · have hn : okT l = false ∨ ¬ (0 ≤ who ∧ who ≤ 7) := by
      cases e : okT l with
      | false => exact .inl rfl
      | true => exact .inr fun h => hk ⟨e, h⟩
    have e1 := eqL_self []
    refine Ct.z wd Tryd.func5 rfl rfl Tryd.ntmps5 rfl rfl rfl rfl ?_
    repeat' ((conv => whnf); (first | (refine hK _ _ _ ?_; clear hK K) | refine Z.reg wd (fun K hK => ?_) | refine Z.draw wd rfl (fun K hK => ?_) | refine Z.seq ?_ | refine Z.skip ?_ | refine Z.cond (E := Ee) ?_ | refine Z.ret rfl ?_ | refine IfB.F rfl ?_ | refine IfB.T (by assumption) ?_ | refine IfB.DF (by first | assumption | omega | (simp; done) | fail) ?_ | refine IfB.N ?_ | refine Need.mk ⟨by first | (simp only [BV.untie, BW.untie, B1.untie, B0.untie, untie_rI, untie_rS, List.map_cons, List.map_nil]; done) | (simp only [BV.untie, BW.untie, B1.untie, B0.untie, untie_rI, untie_rS, List.map_cons, List.map_nil]; rfl) | fail, rfl⟩ ?_ | refine Need.mk (by kernel_rfl) ?_ | refine CallW.mk _ (szTree_ct _ _ (by first | omega | (simp only [strMost, mostRows, rS_len, rI_len, List.length_append, List.length_map, List.length_set, List.length_replicate, List.length_cons, List.length_nil, List.length_drop, List.length_take, letterL_len, upL_len, pathL_len, clearL_len, fillL_len, markL_len] at *; omega) | (simp at *; omega) | fail) (by assumption) (by first | omega | (simp only [strMost, mostRows, rS_len, rI_len, List.length_append, List.length_map, List.length_set, List.length_replicate, List.length_cons, List.length_nil, List.length_drop, List.length_take, letterL_len, upL_len, pathL_len, clearL_len, fillL_len, markL_len] at *; omega) | (simp at *; omega) | fail) (by first | omega | (simp only [strMost, mostRows, rS_len, rI_len, List.length_append, List.length_map, List.length_set, List.length_replicate, List.length_cons, List.length_nil, List.length_drop, List.length_take, letterL_len, upL_len, pathL_len, clearL_len, fillL_len, markL_len] at *; omega) | (simp at *; omega) | fail)) ?_ | refine CallW.mk _ (toTree_ct _ (by first | omega | (simp only [strMost, mostRows, rS_len, rI_len, List.length_append, List.length_map, List.length_set, List.length_replicate, List.length_cons, List.length_nil, List.length_drop, List.length_take, letterL_len, upL_len, pathL_len, clearL_len, fillL_len, markL_len] at *; omega) | (simp at *; omega) | fail)) ?_ | refine CallD.mk _ (toTree_ct _ (by first | omega | (simp only [strMost, mostRows, rS_len, rI_len, List.length_append, List.length_map, List.length_set, List.length_replicate, List.length_cons, List.length_nil, List.length_drop, List.length_take, letterL_len, upL_len, pathL_len, clearL_len, fillL_len, markL_len] at *; omega) | (simp at *; omega) | fail)) (by first | ((repeat' (first | exact trivial | exact fun _ => rfl | refine And.intro ?_ ?_ | (intro e; first | (simp at e; done) | (simp at e; omega)) | fail)); done) | fail) ?_ | refine CallW.mk _ (sTreClearNo_ct _ _ (by first | omega | (simp only [strMost, mostRows, rS_len, rI_len, List.length_append, List.length_map, List.length_set, List.length_replicate, List.length_cons, List.length_nil, List.length_drop, List.length_take, letterL_len, upL_len, pathL_len, clearL_len, fillL_len, markL_len] at *; omega) | (simp at *; omega) | fail) (by assumption)) ?_ | refine CallW.mk _ (treClearNo_ct _ _ (by first | omega | (simp only [strMost, mostRows, rS_len, rI_len, List.length_append, List.length_map, List.length_set, List.length_replicate, List.length_cons, List.length_nil, List.length_drop, List.length_take, letterL_len, upL_len, pathL_len, clearL_len, fillL_len, markL_len] at *; omega) | (simp at *; omega) | fail) (by assumption)) ?_ | refine CallW.mk _ eqNo_ct ?_ | refine CallD.mk _ (eqTree_ct _ _ (by first | omega | (simp only [strMost, mostRows, rS_len, rI_len, List.length_append, List.length_map, List.length_set, List.length_replicate, List.length_cons, List.length_nil, List.length_drop, List.length_take, letterL_len, upL_len, pathL_len, clearL_len, fillL_len, markL_len] at *; omega) | (simp at *; omega) | fail) (by first | omega | (simp only [strMost, mostRows, rS_len, rI_len, List.length_append, List.length_map, List.length_set, List.length_replicate, List.length_cons, List.length_nil, List.length_drop, List.length_take, letterL_len, upL_len, pathL_len, clearL_len, fillL_len, markL_len] at *; omega) | (simp at *; omega) | fail)) (by first | ((repeat' (first | exact trivial | exact fun _ => rfl | refine And.intro ?_ ?_ | (intro e; first | (simp at e; done) | (simp at e; omega)) | fail)); done) | fail) ?_ | (refine RawW.mk (O.hcall wd rfl rfl rfl rfl rfl rfl rfl rfl rfl markNo_hc rfl rfl rfl rfl rfl rfl rfl rfl rfl (le_ rfl) rfl rfl ?_); refine Z.opsF wd (fun K hK => ?_)) | (refine RawW.mk (O.hcall wd rfl rfl rfl rfl rfl rfl rfl rfl rfl (markTree_hc _ _ _ _ (by first | rfl | assumption | (simp only [rS_len, rI_len, List.length_append, List.length_map, List.length_set, List.length_replicate, List.length_cons, List.length_nil, Nat.zero_add, letterL_len, upL_len, pathL_len, clearL_len, fillL_len, markL_len]; done) | omega | (simp only [rS_len, rI_len, List.length_append, List.length_map, List.length_set, List.length_replicate, List.length_cons, List.length_nil, List.length_drop, List.length_take, letterL_len, upL_len, pathL_len, clearL_len, fillL_len, markL_len] at *; omega) | fail) (by first | omega | (simp only [strMost, mostRows, rS_len, rI_len, List.length_append, List.length_map, List.length_set, List.length_replicate, List.length_cons, List.length_nil, List.length_drop, List.length_take, letterL_len, upL_len, pathL_len, clearL_len, fillL_len, markL_len] at *; omega) | (simp at *; omega) | fail) (by first | omega | (simp only [strMost, mostRows, rS_len, rI_len, List.length_append, List.length_map, List.length_set, List.length_replicate, List.length_cons, List.length_nil, List.length_drop, List.length_take, letterL_len, upL_len, pathL_len, clearL_len, fillL_len, markL_len] at *; omega) | (simp at *; omega) | fail) (by first | omega | (simp only [strMost, mostRows, rS_len, rI_len, List.length_append, List.length_map, List.length_set, List.length_replicate, List.length_cons, List.length_nil, List.length_drop, List.length_take, letterL_len, upL_len, pathL_len, clearL_len, fillL_len, markL_len] at *; omega) | (simp at *; omega) | fail)) rfl rfl rfl rfl rfl rfl rfl rfl rfl (le_ rfl) rfl rfl ?_); refine Z.opsF wd (fun K hK => ?_)) | refine CallW.mk _ heldNo_ct ?_ | refine Calc.mk _ (vw_all _) ?_ | exact EqB.mk rfl))
end Go.Proofs.YtfokmnafgabdiaaDoor.Eng
