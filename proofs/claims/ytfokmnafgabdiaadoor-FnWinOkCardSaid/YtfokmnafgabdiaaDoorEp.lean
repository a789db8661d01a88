/- Merged: V21, N5, V22, V23, V24, V27, V25, V26. -/
import Derived.Test.YtfokmnafgabdiaaDoorEi
import Derived.Test.YtfokmnafgabdiaaDoorEj
import Derived.Test.YtfokmnafgabdiaaDoorEm
/- Windows that are ok, whatever they hold: by the program, by the reference. -/
namespace Go.Proofs.YtfokmnafgabdiaaDoor.Eng
open Go Go.RowKit Kw
set_option linter.unusedVariables false
set_option linter.unusedSimpArgs false
set_option maxRecDepth 10000
set_option maxHeartbeats 4000000
attribute [local irreducible] Ct HCt
abbrev bW (k : List UInt8) (top : Int) (l : List Int) : BW := .agg [.b (.c (.lit (.string (mk k)))), .b (.c (.lit (.int .i64 top))), .b (.c (.ro 1 (rI l)))]
/-- One number of a window is as it must be. -/
def fallP (top : Int) (l : List Int) (j : Nat) (x : Int) : Prop := 1 ≤ x ∧ top - 8 < x ∧ (0 < j → ∀ y, l[((j : Int) - 1).toNat]? = some y → x < y)
/-- And so are all from a place on. -/
noncomputable def fallD (top : Int) (l : List Int) (i : Nat) : Bool := @decide (∀ j, i ≤ j → ∀ x, l[j]? = some x → fallP top l j x) (Classical.propDecidable _)
theorem fallD_iff {top : Int} {l : List Int} {i : Nat} : fallD top l i = true ↔ ∀ j, i ≤ j → ∀ x, l[j]? = some x → fallP top l j x := by
  unfold fallD; exact @decide_eq_true_iff _ (Classical.propDecidable _)
theorem fallD_end {top : Int} {l : List Int} {i : Nat} (h : l.length ≤ i) : fallD top l i = true := fallD_iff.2 fun j hj x hx => by
  have := (List.getElem?_eq_some_iff.mp hx).1; omega
theorem fallD_yes {top : Int} {l : List Int} {i : Nat} {x : Int} (hx : l[i]? = some x) (h : fallP top l i x) : fallD top l i = fallD top l (i + 1) := by
  have e : fallD top l i = true ↔ fallD top l (i + 1) = true := by
    rw [fallD_iff, fallD_iff]
    refine ⟨fun q j hj => q j (by omega), fun q j hj y hy => ?_⟩
    by_cases e : j = i
    · subst e; rw [hx] at hy; cases hy; exact h
    · exact q j (by omega) y hy
  exact Bool.eq_iff_iff.2 e
theorem fallD_no {top : Int} {l : List Int} {i : Nat} {x : Int} (hx : l[i]? = some x) (h : ¬ fallP top l i x) : fallD top l i = false := by
  cases e : fallD top l i with
  | false => rfl
  | true => exact absurd (fallD_iff.1 e i (Nat.le_refl _) x hx) h
attribute [irreducible] fallD
/-- Whether a window is ok. -/
noncomputable def okW (k : List UInt8) (top : Int) (l : List Int) : Bool := decide ((madeL k).op = 5) && (decide (1 ≤ top ∧ top ≤ 999) && (decide (l[0]? = some top) && fallD top l 0))
theorem okW_5 {k : List UInt8} {top : Int} {l : List Int} (h : (madeL k).op ≠ 5) : okW k top l = false := by unfold okW; rw [decide_eq_false h]; rfl
theorem okW_t {k : List UInt8} {top : Int} {l : List Int} (h : ¬ (1 ≤ top ∧ top ≤ 999)) : okW k top l = false := by unfold okW; rw [decide_eq_false h, Bool.false_and, Bool.and_false]
theorem okW_0 {k : List UInt8} {top : Int} {l : List Int} (h : ¬ (l[0]? = some top)) : okW k top l = false := by unfold okW; rw [decide_eq_false h, Bool.false_and, Bool.and_false, Bool.and_false]
theorem okW_all {k : List UInt8} {top : Int} {l : List Int} (h : (madeL k).op = 5) (h2 : 1 ≤ top ∧ top ≤ 999) (h3 : l[0]? = some top) : okW k top l = fallD top l 0 := by
  unfold okW; rw [decide_eq_true h, decide_eq_true h2, decide_eq_true h3]; rfl
theorem okW_iff {k : List UInt8} {top : Int} {l : List Int} : okW k top l = true ↔ (madeL k).op = 5 ∧ (1 ≤ top ∧ top ≤ 999) ∧ l[0]? = some top ∧ fallD top l 0 = true := by
  unfold okW; simp only [Bool.and_eq_true, decide_eq_true_eq]
attribute [irreducible] okW
theorem winOk_ct (k : List UInt8) (top : Int) (l : List Int) (hl : l.length ≤ mostRows) : Ct Tryd.prog 25 [bW k top l] (.w (bB (okW k top l))) := by
  simp only [mostRows] at hl
  by_cases h5 : (madeL k).op = 5
  case neg =>
    rw [okW_5 h5]
    refine Ct.z wd Tryd.func25 rfl rfl Tryd.ntmps25 rfl rfl rfl rfl ?_
    repeat' ((conv => whnf); (first | (refine hK _ _ _ ?_; clear hK K) | (show Z _ _ _ _ _ _ _ _; first | refine Z.reg wd (fun K hK => ?_) | refine Z.draw2 wd rfl (fun K hK => ?_) | refine Z.seq ?_ | refine Z.cond (E := Ee) ?_ | refine Z.ret rfl ?_) | (show IfB _ _ _; first | refine IfB.T rfl ?_ | refine IfB.DT (by first | assumption | omega | (simp; done) | fail) ?_) | (show Need _ _; first | refine Need.mk (by kernel_rfl) ?_) | (show CallD _ _ _ _ _; first | refine CallD.mk _ (secMade_ct _) (by first | ((repeat' (first | exact trivial | exact fun _ => rfl | refine And.intro ?_ ?_ | (intro e; first | (simp at e; done) | (simp at e; omega)) | fail)); done) | fail) ?_) | exact EqB.mk rfl))
  by_cases ht : 1 ≤ top ∧ top ≤ 999
  case neg =>
    rw [okW_t ht]
    refine Ct.z wd Tryd.func25 rfl rfl Tryd.ntmps25 rfl rfl rfl rfl ?_
    repeat' ((conv => whnf); (first | (refine hK _ _ _ ?_; clear hK K) | (show Z _ _ _ _ _ _ _ _; first | refine Z.reg wd (fun K hK => ?_) | refine Z.draw2 wd rfl (fun K hK => ?_) | refine Z.seq ?_ | refine Z.cond (E := Ee) ?_ | refine Z.ret rfl ?_) | (show IfB _ _ _; first | refine IfB.T rfl ?_ | refine IfB.F rfl ?_ | refine IfB.DF (by first | assumption | omega | (simp; done) | fail) ?_ | refine IfB.N ?_) | (show Need _ _; first | refine Need.mk (by kernel_rfl) ?_) | (show CallD _ _ _ _ _; first | refine CallD.mk _ (secMade_ct _) (by first | ((repeat' (first | exact trivial | exact fun _ => rfl | refine And.intro ?_ ?_ | (intro e; first | (simp at e; done) | (simp at e; omega)) | fail)); done) | fail) ?_ | refine CallD.mk _ (in_ct _ _ _) (by first | ((repeat' (first | exact trivial | exact fun _ => rfl | refine And.intro ?_ ?_ | (intro e; first | (simp at e; done) | (simp at e; omega)) | fail)); done) | fail) ?_) | exact EqB.mk rfl))
  cases l with
  | nil =>
    rw [okW_0 (by simp)]
    refine Ct.z wd Tryd.func25 rfl rfl Tryd.ntmps25 rfl rfl rfl rfl ?_
    repeat' ((conv => whnf); (first | (refine hK _ _ _ ?_; clear hK K) | (show Z _ _ _ _ _ _ _ _; first | refine Z.reg wd (fun K hK => ?_) | refine Z.draw2 wd rfl (fun K hK => ?_) | refine Z.seq ?_ | refine Z.cond (E := Ee) ?_ | refine Z.ret rfl ?_) | (show IfB _ _ _; first | refine IfB.T rfl ?_ | refine IfB.F rfl ?_ | refine IfB.DT (by first | assumption | omega | (simp; done) | fail) ?_ | refine IfB.DF (by first | assumption | omega | (simp; done) | fail) ?_ | refine IfB.N ?_) | (show Need _ _; first | refine Need.mk (by kernel_rfl) ?_) | (show CallD _ _ _ _ _; first | refine CallD.mk _ (secMade_ct _) (by first | ((repeat' (first | exact trivial | exact fun _ => rfl | refine And.intro ?_ ?_ | (intro e; first | (simp at e; done) | (simp at e; omega)) | fail)); done) | fail) ?_ | refine CallD.mk _ (in_ct _ _ _) (by first | ((repeat' (first | exact trivial | exact fun _ => rfl | refine And.intro ?_ ?_ | (intro e; first | (simp at e; done) | (simp at e; omega)) | fail)); done) | fail) ?_) | (show Calc _ _; first | refine Calc.mk _ (rI_len _) ?_) | exact EqB.mk rfl))
  | cons z t =>
    have h00 : (z :: t)[(0 : Int).toNat]? = some z := rfl
    simp only [List.length_cons] at hl
    by_cases h0 : z = top
    case neg =>
      rw [okW_0 (by simpa using h0)]
      refine Ct.z wd Tryd.func25 rfl rfl Tryd.ntmps25 rfl rfl rfl rfl ?_
      repeat' ((conv => whnf); (first | (refine hK _ _ _ ?_; clear hK K) | (show Z _ _ _ _ _ _ _ _; first | refine Z.reg wd (fun K hK => ?_) | refine Z.draw2 wd rfl (fun K hK => ?_) | refine Z.seq ?_ | refine Z.cond (E := Ee) ?_ | refine Z.ret rfl ?_) | (show IfB _ _ _; first | refine IfB.F rfl ?_ | refine IfB.DT (by first | assumption | omega | (simp; done) | fail) ?_ | refine IfB.DF (by first | assumption | omega | (simp; done) | fail) ?_ | refine IfB.N ?_) | (show Need _ _; first | refine Need.mk (by kernel_rfl) ?_ | refine Need.mk (by first | omega | (simp only [strMost, mostRows, rS_len, rI_len, List.length_append, List.length_map, List.length_set, List.length_replicate, List.length_cons, List.length_nil, List.length_drop, List.length_take, letterL_len, upL_len, pathL_len, clearL_len, fillL_len, markL_len, setL_len]; done) | (simp only [strMost, mostRows, rS_len, rI_len, List.length_append, List.length_map, List.length_set, List.length_replicate, List.length_cons, List.length_nil, List.length_drop, List.length_take, letterL_len, upL_len, pathL_len, clearL_len, fillL_len, markL_len, setL_len] at *; omega) | (simp at *; omega) | fail) ?_) | (show CallD _ _ _ _ _; first | refine CallD.mk _ (secMade_ct _) (by first | ((repeat' (first | exact trivial | exact fun _ => rfl | refine And.intro ?_ ?_ | (intro e; first | (simp at e; done) | (simp at e; omega)) | fail)); done) | fail) ?_ | refine CallD.mk _ (in_ct _ _ _) (by first | ((repeat' (first | exact trivial | exact fun _ => rfl | refine And.intro ?_ ?_ | (intro e; first | (simp at e; done) | (simp at e; omega)) | fail)); done) | fail) ?_) | (show Find _ _; first | refine Find.mk _ rfl ?_) | (show Calc _ _; first | refine Calc.mk _ (rI_len _) ?_) | exact EqB.mk rfl))
    subst h0
    rw [okW_all h5 ht rfl]
    have hlc : (z :: t).length = t.length + 1 := rfl
    refine Ct.z wd Tryd.func25 rfl rfl Tryd.ntmps25 rfl rfl rfl rfl ?_
    repeat' ((conv => whnf); (first | (refine hK _ _ _ ?_; clear hK K) | (show Z _ _ _ _ _ _ _ _; first | refine Z.reg wd (fun K hK => ?_) | refine Z.draw2 wd rfl (fun K hK => ?_) | refine Z.seq ?_ | refine Z.skip ?_ | refine Z.cond (E := Ee) ?_ | refine Z.block ?_) | (show IfB _ _ _; first | refine IfB.F rfl ?_ | refine IfB.DT (by first | assumption | omega | (simp; done) | fail) ?_ | refine IfB.DF (by first | assumption | omega | (simp; done) | fail) ?_ | refine IfB.N ?_) | (show Need _ _; first | refine Need.mk (by kernel_rfl) ?_ | refine Need.mk (by first | omega | (simp only [strMost, mostRows, rS_len, rI_len, List.length_append, List.length_map, List.length_set, List.length_replicate, List.length_cons, List.length_nil, List.length_drop, List.length_take, letterL_len, upL_len, pathL_len, clearL_len, fillL_len, markL_len, setL_len]; done) | (simp only [strMost, mostRows, rS_len, rI_len, List.length_append, List.length_map, List.length_set, List.length_replicate, List.length_cons, List.length_nil, List.length_drop, List.length_take, letterL_len, upL_len, pathL_len, clearL_len, fillL_len, markL_len, setL_len] at *; omega) | (simp at *; omega) | fail) ?_) | (show CallD _ _ _ _ _; first | refine CallD.mk _ (secMade_ct _) (by first | ((repeat' (first | exact trivial | exact fun _ => rfl | refine And.intro ?_ ?_ | (intro e; first | (simp at e; done) | (simp at e; omega)) | fail)); done) | fail) ?_ | refine CallD.mk _ (in_ct _ _ _) (by first | ((repeat' (first | exact trivial | exact fun _ => rfl | refine And.intro ?_ ?_ | (intro e; first | (simp at e; done) | (simp at e; omega)) | fail)); done) | fail) ?_) | (show Find _ _; first | refine Find.mk _ rfl ?_) | (show Calc _ _; first | refine Calc.mk _ (rI_len _) ?_)))
    refine Z.loopK2 [1, 32, 33, 34] ?_; (conv => whnf); refine LoopZ.mk (α := Nat) (fun i => [(34, vI i)]) (fun i => []) (fun i => i ≤ (z :: t).length ∧ fallD z (z :: t) 0 = fallD z (z :: t) i) (fun i => (z :: t).length - i) 0 rfl rfl (by exact ⟨by omega, rfl⟩) ?_; intro nF i hI next; refine Z.force ?_
    obtain ⟨i1, i2⟩ := hI
    generalize hL : z :: t = L at *
    by_cases hlt : i < L.length
    · obtain ⟨x, hx⟩ : ∃ x, L[i]? = some x := ⟨_, List.getElem?_eq_getElem hlt⟩
      by_cases p1 : 1 ≤ x
      case neg =>
        rw [i2, fallD_no hx (fun q => p1 q.1)]
        repeat' ((conv => whnf); (first | (refine hK _ _ _ ?_; clear hK K) | (show Z _ _ _ _ _ _ _ _; first | refine Z.reg wd (fun K hK => ?_) | refine Z.seq ?_ | refine Z.skip ?_ | refine Z.cond (E := Ee) ?_ | refine Z.ret rfl ?_ | refine Z.block ?_) | (show IfB _ _ _; first | refine IfB.T rfl ?_ | refine IfB.DT (by first | assumption | omega | (simp; done) | fail) ?_) | (show Need _ _; first | refine Need.mk (by first | omega | (simp only [strMost, mostRows, rS_len, rI_len, List.length_append, List.length_map, List.length_set, List.length_replicate, List.length_cons, List.length_nil, List.length_drop, List.length_take, letterL_len, upL_len, pathL_len, clearL_len, fillL_len, markL_len, setL_len]; done) | (simp only [strMost, mostRows, rS_len, rI_len, List.length_append, List.length_map, List.length_set, List.length_replicate, List.length_cons, List.length_nil, List.length_drop, List.length_take, letterL_len, upL_len, pathL_len, clearL_len, fillL_len, markL_len, setL_len] at *; omega) | (simp at *; omega) | fail) ?_) | (show Find _ _; first | refine Find.mk _ (rI_get (by assumption)) ?_) | exact EqB.mk rfl))
      by_cases p2 : z - 8 < x
      case neg =>
        rw [i2, fallD_no hx (fun q => p2 q.2.1)]
        repeat' ((conv => whnf); (first | (refine hK _ _ _ ?_; clear hK K) | (show Z _ _ _ _ _ _ _ _; first | refine Z.reg wd (fun K hK => ?_) | refine Z.seq ?_ | refine Z.skip ?_ | refine Z.cond (E := Ee) ?_ | refine Z.ret rfl ?_ | refine Z.block ?_) | (show IfB _ _ _; first | refine IfB.T rfl ?_ | refine IfB.F rfl ?_ | refine IfB.DT (by first | assumption | omega | (simp; done) | fail) ?_ | refine IfB.DF (by first | assumption | omega | (simp; done) | fail) ?_) | (show Need _ _; first | refine Need.mk (by first | omega | (simp only [strMost, mostRows, rS_len, rI_len, List.length_append, List.length_map, List.length_set, List.length_replicate, List.length_cons, List.length_nil, List.length_drop, List.length_take, letterL_len, upL_len, pathL_len, clearL_len, fillL_len, markL_len, setL_len]; done) | (simp only [strMost, mostRows, rS_len, rI_len, List.length_append, List.length_map, List.length_set, List.length_replicate, List.length_cons, List.length_nil, List.length_drop, List.length_take, letterL_len, upL_len, pathL_len, clearL_len, fillL_len, markL_len, setL_len] at *; omega) | (simp at *; omega) | fail) ?_) | (show Find _ _; first | refine Find.mk _ (rI_get (by assumption)) ?_) | exact EqB.mk rfl))
      by_cases p3 : 0 < i
      · obtain ⟨y, hy⟩ : ∃ y, L[((i : Int) - 1).toNat]? = some y := ⟨_, List.getElem?_eq_getElem (by omega)⟩
        by_cases p4 : x < y
        · rw [fallD_yes hx ⟨p1, p2, fun _ y' hy' => by rw [hy] at hy'; cases hy'; exact p4⟩] at i2
          repeat' ((conv => whnf); (first | (refine hK _ _ _ ?_; clear hK K) | (show Z _ _ _ _ _ _ _ _; first | refine Z.reg wd (fun K hK => ?_) | refine Z.seq ?_ | refine Z.skip ?_ | refine Z.cond (E := Ee) ?_ | refine Z.block ?_ | refine Z.blockEnd ?_) | (show IfB _ _ _; first | refine IfB.T rfl ?_ | refine IfB.F rfl ?_ | refine IfB.DT (by first | assumption | omega | (simp; done) | fail) ?_ | refine IfB.DF (by first | assumption | omega | (simp; done) | fail) ?_) | (show Need _ _; first | refine Need.mk (by first | omega | (simp only [strMost, mostRows, rS_len, rI_len, List.length_append, List.length_map, List.length_set, List.length_replicate, List.length_cons, List.length_nil, List.length_drop, List.length_take, letterL_len, upL_len, pathL_len, clearL_len, fillL_len, markL_len, setL_len]; done) | (simp only [strMost, mostRows, rS_len, rI_len, List.length_append, List.length_map, List.length_set, List.length_replicate, List.length_cons, List.length_nil, List.length_drop, List.length_take, letterL_len, upL_len, pathL_len, clearL_len, fillL_len, markL_len, setL_len] at *; omega) | (simp at *; omega) | fail) ?_) | (show Find _ _; first | refine Find.mk _ (rI_get (by assumption)) ?_)))
          (refine Z.next2 (next (i + 1) (by exact ⟨by omega, i2⟩) (by omega)) ?_; (conv => whnf); exact ⟨rfl, rfl, rfl⟩)
        · rw [i2, fallD_no hx (fun q => p4 (q.2.2 p3 y hy))]
          repeat' ((conv => whnf); (first | (refine hK _ _ _ ?_; clear hK K) | (show Z _ _ _ _ _ _ _ _; first | refine Z.reg wd (fun K hK => ?_) | refine Z.seq ?_ | refine Z.skip ?_ | refine Z.cond (E := Ee) ?_ | refine Z.ret rfl ?_ | refine Z.block ?_) | (show IfB _ _ _; first | refine IfB.T rfl ?_ | refine IfB.F rfl ?_ | refine IfB.DT (by first | assumption | omega | (simp; done) | fail) ?_ | refine IfB.DF (by first | assumption | omega | (simp; done) | fail) ?_) | (show Need _ _; first | refine Need.mk (by first | omega | (simp only [strMost, mostRows, rS_len, rI_len, List.length_append, List.length_map, List.length_set, List.length_replicate, List.length_cons, List.length_nil, List.length_drop, List.length_take, letterL_len, upL_len, pathL_len, clearL_len, fillL_len, markL_len, setL_len]; done) | (simp only [strMost, mostRows, rS_len, rI_len, List.length_append, List.length_map, List.length_set, List.length_replicate, List.length_cons, List.length_nil, List.length_drop, List.length_take, letterL_len, upL_len, pathL_len, clearL_len, fillL_len, markL_len, setL_len] at *; omega) | (simp at *; omega) | fail) ?_) | (show Find _ _; first | refine Find.mk _ (rI_get (by assumption)) ?_) | exact EqB.mk rfl))
      · rw [fallD_yes hx ⟨p1, p2, fun q => absurd q p3⟩] at i2
        repeat' ((conv => whnf); (first | (refine hK _ _ _ ?_; clear hK K) | (show Z _ _ _ _ _ _ _ _; first | refine Z.reg wd (fun K hK => ?_) | refine Z.seq ?_ | refine Z.skip ?_ | refine Z.cond (E := Ee) ?_ | refine Z.block ?_ | refine Z.blockEnd ?_) | (show IfB _ _ _; first | refine IfB.F rfl ?_ | refine IfB.DT (by first | assumption | omega | (simp; done) | fail) ?_ | refine IfB.DF (by first | assumption | omega | (simp; done) | fail) ?_) | (show Need _ _; first | refine Need.mk (by first | omega | (simp only [strMost, mostRows, rS_len, rI_len, List.length_append, List.length_map, List.length_set, List.length_replicate, List.length_cons, List.length_nil, List.length_drop, List.length_take, letterL_len, upL_len, pathL_len, clearL_len, fillL_len, markL_len, setL_len]; done) | (simp only [strMost, mostRows, rS_len, rI_len, List.length_append, List.length_map, List.length_set, List.length_replicate, List.length_cons, List.length_nil, List.length_drop, List.length_take, letterL_len, upL_len, pathL_len, clearL_len, fillL_len, markL_len, setL_len] at *; omega) | (simp at *; omega) | fail) ?_) | (show Find _ _; first | refine Find.mk _ (rI_get (by assumption)) ?_)))
        (refine Z.next2 (next (i + 1) (by exact ⟨by omega, i2⟩) (by omega)) ?_; (conv => whnf); exact ⟨rfl, rfl, rfl⟩)
    · rw [fallD_end (i := i) (by omega)] at i2
      rw [i2]
      repeat' ((conv => whnf); (first | (refine hK _ _ _ ?_; clear hK K) | (show Z _ _ _ _ _ _ _ _; first | refine Z.reg wd (fun K hK => ?_) | refine Z.seq ?_ | refine Z.cond (E := Ee) ?_ | refine Z.ret rfl ?_ | refine Z.exit rfl ?_) | (show IfB _ _ _; first | refine IfB.DF (by first | assumption | omega | (simp; done) | fail) ?_) | exact EqB.mk rfl))
end Go.Proofs.YtfokmnafgabdiaaDoor.Eng
/- Windows: a number put in, others dropped: plain facts of lists. -/
namespace Go.Proofs.YtfokmnafgabdiaaDoor.Eng
open Go Go.RowKit Kw
set_option linter.unusedVariables false
set_option linter.unusedSimpArgs false
/-- The numbers that are not too late. -/
def keepL (m : Int) (l : List Int) : List Int := l.filter fun x => decide (m - 8 < x)
abbrev Falls (l : List Int) : Prop := l.Pairwise (· > ·)
theorem keepL_le (m : Int) (l : List Int) : (keepL m l).length ≤ l.length := List.length_filter_le ..
/-- What the reference still appends. -/
def restS (n m : Int) : Bool → List Int → List Int
  | d, [] => if d then [] else [n]
  | d, x :: l => if d = false ∧ n > x then n :: ((if x > m - 8 then [x] else []) ++ restS n m true l) else (if x > m - 8 then [x] else []) ++ restS n m d l
theorem restS_true (n m : Int) : ∀ l : List Int, restS n m true l = keepL m l
  | [] => rfl
  | x :: l => by
    rw [restS, if_neg (by simp), restS_true n m l]
    unfold keepL
    by_cases hx : m - 8 < x
    · rw [List.filter_cons_of_pos (by simpa using hx), if_pos (by omega)]; rfl
    · rw [List.filter_cons_of_neg (by simpa using hx), if_neg (by omega)]; rfl
theorem falls_of {top : Int} {l : List Int} (h : fallD top l 0 = true) : Falls l := by
  have hf := fallD_iff.1 h
  rw [Falls, List.pairwise_iff_getElem]
  have key : ∀ (d i : Nat) (hi : i < l.length) (hj : i + d + 1 < l.length), l[i] > l[i + d + 1] := by
    intro d
    induction d with
    | zero =>
      intro i hi hj
      have := (hf (i + 1) (by omega) _ (List.getElem?_eq_getElem hj)).2.2 (by omega) l[i] (by
        rw [show ((((i + 1 : Nat) : Int)) - 1).toNat = i from by omega]; exact List.getElem?_eq_getElem hi)
      exact this
    | succ d ih =>
      intro i hi hj
      have h1 := ih i hi (by omega)
      have := (hf (i + (d + 1) + 1) (by omega) _ (List.getElem?_eq_getElem hj)).2.2 (by omega) l[i + d + 1] (by
        rw [show ((((i + (d + 1) + 1 : Nat) : Int)) - 1).toNat = i + d + 1 from by omega]; exact List.getElem?_eq_getElem (by omega))
      exact Int.lt_trans this h1
  intro i j hi hj hij
  obtain ⟨d, rfl⟩ : ∃ d, j = i + d + 1 := ⟨j - i - 1, by omega⟩
  exact key d i hi hj
theorem falls_len : ∀ (l : List Int) (lo hi : Int), lo ≤ hi → Falls l → (∀ x ∈ l, lo < x ∧ x ≤ hi) → (l.length : Int) ≤ hi - lo
  | [], lo, hi, h, _, _ => by simp; omega
  | x :: l, lo, hi, h, hf, hx => by
    obtain ⟨h1, h2⟩ := List.pairwise_cons.1 hf
    have hx0 := hx x (by simp)
    have := falls_len l lo (x - 1) (by omega) h2 fun y hy => ⟨(hx y (by simp [hy])).1, by have := h1 y hy; omega⟩
    simp only [List.length_cons]; omega
theorem okW_len {k : List UInt8} {top : Int} {l : List Int} (h : okW k top l = true) : l.length ≤ 8 := by
  obtain ⟨_, ht, h0, hf⟩ := okW_iff.1 h
  have hF := falls_of hf
  have := falls_len l (top - 8) top (by omega) hF fun x hx => by
    obtain ⟨i, hi, rfl⟩ := List.getElem_of_mem hx
    have h1 := (fallD_iff.1 hf i (by omega) _ (List.getElem?_eq_getElem hi)).2.1
    refine ⟨h1, ?_⟩
    have e0 : 0 < l.length := by omega
    rw [List.getElem?_eq_getElem e0] at h0
    have h0 := Option.some.inj h0
    cases i with
    | zero => omega
    | succ i =>
      have := (List.pairwise_iff_getElem.1 hF) 0 (i + 1) e0 hi (by omega)
      omega
  omega
end Go.Proofs.YtfokmnafgabdiaaDoor.Eng
/- Windows that are ok, by the reference; lists of numbers searched. -/
namespace Go.Proofs.YtfokmnafgabdiaaDoor.Eng
open Go Go.RowKit Kw
set_option linter.unusedVariables false
set_option linter.unusedSimpArgs false
set_option maxRecDepth 10000
set_option maxHeartbeats 4000000
attribute [local irreducible] Ct HCt
theorem sWinOk_ct (k : List UInt8) (top : Int) (l : List Int) (hl : l.length ≤ mostRows) : Ct Tryd.prog 33 [bW k top l] (.w (bB (okW k top l))) := by
  simp only [mostRows] at hl
  cases hk : okS k with
  | false =>
    rw [okW_5 (by rw [madeL_no hk]; decide)]
    refine Ct.z wd Tryd.func33 rfl rfl Tryd.ntmps33 rfl rfl rfl rfl ?_
    repeat' ((conv => whnf); (first | (refine hK _ _ _ ?_; clear hK K) | (show Z _ _ _ _ _ _ _ _; first | refine Z.reg wd (fun K hK => ?_) | refine Z.draw2 wd rfl (fun K hK => ?_) | refine Z.seq ?_ | refine Z.cond (E := Ee) ?_ | refine Z.ret rfl ?_) | (show IfB _ _ _; first | refine IfB.T rfl ?_ | refine IfB.F (by assumption) ?_ | refine IfB.N ?_) | (show Need _ _; first | refine Need.mk (by kernel_rfl) ?_) | (show CallD _ _ _ _ _; first | refine CallD.mk _ (sSecOk_ct _) (by first | ((repeat' (first | exact trivial | exact fun _ => rfl | refine And.intro ?_ ?_ | (intro e; first | (simp at e; done) | (simp at e; omega)) | fail)); done) | fail) ?_) | exact EqB.mk rfl))
  | true =>
    by_cases h5 : (madeL k).op = 5
    case neg =>
      rw [okW_5 h5]
      refine Ct.z wd Tryd.func33 rfl rfl Tryd.ntmps33 rfl rfl rfl rfl ?_
      repeat' ((conv => whnf); (first | (refine hK _ _ _ ?_; clear hK K) | (show Z _ _ _ _ _ _ _ _; first | refine Z.reg wd (fun K hK => ?_) | refine Z.draw2 wd rfl (fun K hK => ?_) | refine Z.seq ?_ | refine Z.cond (E := Ee) ?_ | refine Z.ret rfl ?_) | (show IfB _ _ _; first | refine IfB.T rfl ?_ | refine IfB.F rfl ?_ | refine IfB.T (by assumption) ?_ | refine IfB.DT (by first | assumption | omega | (simp; done) | fail) ?_ | refine IfB.N ?_) | (show Need _ _; first | refine Need.mk (by kernel_rfl) ?_) | (show CallD _ _ _ _ _; first | refine CallD.mk _ (sSecOk_ct _) (by first | ((repeat' (first | exact trivial | exact fun _ => rfl | refine And.intro ?_ ?_ | (intro e; first | (simp at e; done) | (simp at e; omega)) | fail)); done) | fail) ?_ | refine CallD.mk _ (l1How_ct _ (by assumption)) (by first | ((repeat' (first | exact trivial | exact fun _ => rfl | refine And.intro ?_ ?_ | (intro e; first | (simp at e; done) | (simp at e; omega)) | fail)); done) | fail) ?_) | exact EqB.mk rfl))
    by_cases ht : 1 ≤ top ∧ top ≤ 999
    case neg =>
      rw [okW_t ht]
      refine Ct.z wd Tryd.func33 rfl rfl Tryd.ntmps33 rfl rfl rfl rfl ?_
      repeat' ((conv => whnf); (first | (refine hK _ _ _ ?_; clear hK K) | (show Z _ _ _ _ _ _ _ _; first | refine Z.reg wd (fun K hK => ?_) | refine Z.draw2 wd rfl (fun K hK => ?_) | refine Z.seq ?_ | refine Z.cond (E := Ee) ?_ | refine Z.ret rfl ?_) | (show IfB _ _ _; first | refine IfB.T rfl ?_ | refine IfB.F rfl ?_ | refine IfB.T (by assumption) ?_ | refine IfB.DF (by first | assumption | omega | (simp; done) | fail) ?_ | refine IfB.N ?_) | (show Need _ _; first | refine Need.mk (by kernel_rfl) ?_) | (show CallD _ _ _ _ _; first | refine CallD.mk _ (sSecOk_ct _) (by first | ((repeat' (first | exact trivial | exact fun _ => rfl | refine And.intro ?_ ?_ | (intro e; first | (simp at e; done) | (simp at e; omega)) | fail)); done) | fail) ?_ | refine CallD.mk _ (l1How_ct _ (by assumption)) (by first | ((repeat' (first | exact trivial | exact fun _ => rfl | refine And.intro ?_ ?_ | (intro e; first | (simp at e; done) | (simp at e; omega)) | fail)); done) | fail) ?_ | refine CallD.mk _ (l1In_ct _ _ _) (by first | ((repeat' (first | exact trivial | exact fun _ => rfl | refine And.intro ?_ ?_ | (intro e; first | (simp at e; done) | (simp at e; omega)) | fail)); done) | fail) ?_) | exact EqB.mk rfl))
    cases l with
    | nil =>
      rw [okW_0 (by simp)]
      refine Ct.z wd Tryd.func33 rfl rfl Tryd.ntmps33 rfl rfl rfl rfl ?_
      repeat' ((conv => whnf); (first | (refine hK _ _ _ ?_; clear hK K) | (show Z _ _ _ _ _ _ _ _; first | refine Z.reg wd (fun K hK => ?_) | refine Z.draw2 wd rfl (fun K hK => ?_) | refine Z.seq ?_ | refine Z.cond (E := Ee) ?_ | refine Z.ret rfl ?_) | (show IfB _ _ _; first | refine IfB.T rfl ?_ | refine IfB.F rfl ?_ | refine IfB.T (by assumption) ?_ | refine IfB.DT (by first | assumption | omega | (simp; done) | fail) ?_ | refine IfB.DF (by first | assumption | omega | (simp; done) | fail) ?_ | refine IfB.N ?_) | (show Need _ _; first | refine Need.mk (by kernel_rfl) ?_) | (show CallD _ _ _ _ _; first | refine CallD.mk _ (sSecOk_ct _) (by first | ((repeat' (first | exact trivial | exact fun _ => rfl | refine And.intro ?_ ?_ | (intro e; first | (simp at e; done) | (simp at e; omega)) | fail)); done) | fail) ?_ | refine CallD.mk _ (l1How_ct _ (by assumption)) (by first | ((repeat' (first | exact trivial | exact fun _ => rfl | refine And.intro ?_ ?_ | (intro e; first | (simp at e; done) | (simp at e; omega)) | fail)); done) | fail) ?_ | refine CallD.mk _ (l1In_ct _ _ _) (by first | ((repeat' (first | exact trivial | exact fun _ => rfl | refine And.intro ?_ ?_ | (intro e; first | (simp at e; done) | (simp at e; omega)) | fail)); done) | fail) ?_) | (show Calc _ _; first | refine Calc.mk _ (rI_len _) ?_) | exact EqB.mk rfl))
    | cons z t =>
      have h00 : (z :: t)[(0 : Int).toNat]? = some z := rfl
      simp only [List.length_cons] at hl
      by_cases h0 : z = top
      case neg =>
        rw [okW_0 (by simpa using h0)]
        refine Ct.z wd Tryd.func33 rfl rfl Tryd.ntmps33 rfl rfl rfl rfl ?_
        repeat' ((conv => whnf); (first | (refine hK _ _ _ ?_; clear hK K) | (show Z _ _ _ _ _ _ _ _; first | refine Z.reg wd (fun K hK => ?_) | refine Z.draw2 wd rfl (fun K hK => ?_) | refine Z.seq ?_ | refine Z.cond (E := Ee) ?_ | refine Z.ret rfl ?_) | (show IfB _ _ _; first | refine IfB.F rfl ?_ | refine IfB.T (by assumption) ?_ | refine IfB.DT (by first | assumption | omega | (simp; done) | fail) ?_ | refine IfB.DF (by first | assumption | omega | (simp; done) | fail) ?_ | refine IfB.N ?_) | (show Need _ _; first | refine Need.mk (by kernel_rfl) ?_ | refine Need.mk (by first | omega | (simp only [strMost, mostRows, rS_len, rI_len, List.length_append, List.length_map, List.length_set, List.length_replicate, List.length_cons, List.length_nil, List.length_drop, List.length_take, letterL_len, upL_len, pathL_len, clearL_len, fillL_len, markL_len, setL_len]; done) | (simp only [strMost, mostRows, rS_len, rI_len, List.length_append, List.length_map, List.length_set, List.length_replicate, List.length_cons, List.length_nil, List.length_drop, List.length_take, letterL_len, upL_len, pathL_len, clearL_len, fillL_len, markL_len, setL_len] at *; omega) | (simp at *; omega) | fail) ?_) | (show CallD _ _ _ _ _; first | refine CallD.mk _ (sSecOk_ct _) (by first | ((repeat' (first | exact trivial | exact fun _ => rfl | refine And.intro ?_ ?_ | (intro e; first | (simp at e; done) | (simp at e; omega)) | fail)); done) | fail) ?_ | refine CallD.mk _ (l1How_ct _ (by assumption)) (by first | ((repeat' (first | exact trivial | exact fun _ => rfl | refine And.intro ?_ ?_ | (intro e; first | (simp at e; done) | (simp at e; omega)) | fail)); done) | fail) ?_ | refine CallD.mk _ (l1In_ct _ _ _) (by first | ((repeat' (first | exact trivial | exact fun _ => rfl | refine And.intro ?_ ?_ | (intro e; first | (simp at e; done) | (simp at e; omega)) | fail)); done) | fail) ?_) | (show Find _ _; first | refine Find.mk _ rfl ?_) | (show Calc _ _; first | refine Calc.mk _ (rI_len _) ?_) | exact EqB.mk rfl))
      subst h0
      rw [okW_all h5 ht rfl]
      have hlc : (z :: t).length = t.length + 1 := rfl
      have hs : fallD z (z :: t) 0 = fallD z (z :: t) 1 := fallD_yes (x := z) rfl ⟨ht.1, by omega, fun q => absurd q (by omega)⟩
      refine Ct.z wd Tryd.func33 rfl rfl Tryd.ntmps33 rfl rfl rfl rfl ?_
      repeat' ((conv => whnf); (first | (refine hK _ _ _ ?_; clear hK K) | (show Z _ _ _ _ _ _ _ _; first | refine Z.reg wd (fun K hK => ?_) | refine Z.draw2 wd rfl (fun K hK => ?_) | refine Z.seq ?_ | refine Z.skip ?_ | refine Z.cond (E := Ee) ?_ | refine Z.block ?_) | (show IfB _ _ _; first | refine IfB.F rfl ?_ | refine IfB.T (by assumption) ?_ | refine IfB.DT (by first | assumption | omega | (simp; done) | fail) ?_ | refine IfB.DF (by first | assumption | omega | (simp; done) | fail) ?_ | refine IfB.N ?_) | (show Need _ _; first | refine Need.mk (by kernel_rfl) ?_ | refine Need.mk (by first | omega | (simp only [strMost, mostRows, rS_len, rI_len, List.length_append, List.length_map, List.length_set, List.length_replicate, List.length_cons, List.length_nil, List.length_drop, List.length_take, letterL_len, upL_len, pathL_len, clearL_len, fillL_len, markL_len, setL_len]; done) | (simp only [strMost, mostRows, rS_len, rI_len, List.length_append, List.length_map, List.length_set, List.length_replicate, List.length_cons, List.length_nil, List.length_drop, List.length_take, letterL_len, upL_len, pathL_len, clearL_len, fillL_len, markL_len, setL_len] at *; omega) | (simp at *; omega) | fail) ?_) | (show CallD _ _ _ _ _; first | refine CallD.mk _ (sSecOk_ct _) (by first | ((repeat' (first | exact trivial | exact fun _ => rfl | refine And.intro ?_ ?_ | (intro e; first | (simp at e; done) | (simp at e; omega)) | fail)); done) | fail) ?_ | refine CallD.mk _ (l1How_ct _ (by assumption)) (by first | ((repeat' (first | exact trivial | exact fun _ => rfl | refine And.intro ?_ ?_ | (intro e; first | (simp at e; done) | (simp at e; omega)) | fail)); done) | fail) ?_ | refine CallD.mk _ (l1In_ct _ _ _) (by first | ((repeat' (first | exact trivial | exact fun _ => rfl | refine And.intro ?_ ?_ | (intro e; first | (simp at e; done) | (simp at e; omega)) | fail)); done) | fail) ?_) | (show Find _ _; first | refine Find.mk _ rfl ?_) | (show Calc _ _; first | refine Calc.mk _ (rI_len _) ?_)))
      refine Z.loopK2 [1, 3] ?_; (conv => whnf); refine LoopZ.mk (α := Nat) (fun i => [(3, vI i)]) (fun i => []) (fun i => (1 ≤ i ∧ i ≤ (z :: t).length) ∧ fallD z (z :: t) 0 = fallD z (z :: t) i) (fun i => (z :: t).length - i) 1 rfl rfl (by exact ⟨⟨by omega, by omega⟩, hs⟩) ?_; intro nF i hI next; refine Z.force ?_
      obtain ⟨⟨i0, i1⟩, i2⟩ := hI
      clear hs
      generalize hL : z :: t = L at *
      by_cases hlt : i < L.length
      · obtain ⟨x, hx⟩ : ∃ x, L[i]? = some x := ⟨_, List.getElem?_eq_getElem hlt⟩
        obtain ⟨y, hy⟩ : ∃ y, L[((i : Int) - 1).toNat]? = some y := ⟨_, List.getElem?_eq_getElem (by omega)⟩
        by_cases p4 : x < y
        case neg =>
          rw [i2, fallD_no hx (fun q => p4 (q.2.2 (by omega) y hy))]
          repeat' ((conv => whnf); (first | (refine hK _ _ _ ?_; clear hK K) | (show Z _ _ _ _ _ _ _ _; first | refine Z.reg wd (fun K hK => ?_) | refine Z.draw2 wd rfl (fun K hK => ?_) | refine Z.seq ?_ | refine Z.skip ?_ | refine Z.cond (E := Ee) ?_ | refine Z.ret rfl ?_ | refine Z.block ?_) | (show IfB _ _ _; first | refine IfB.T rfl ?_ | refine IfB.DT (by first | assumption | omega | (simp; done) | fail) ?_) | (show Need _ _; first | refine Need.mk (by kernel_rfl) ?_ | refine Need.mk (by first | omega | (simp only [strMost, mostRows, rS_len, rI_len, List.length_append, List.length_map, List.length_set, List.length_replicate, List.length_cons, List.length_nil, List.length_drop, List.length_take, letterL_len, upL_len, pathL_len, clearL_len, fillL_len, markL_len, setL_len]; done) | (simp only [strMost, mostRows, rS_len, rI_len, List.length_append, List.length_map, List.length_set, List.length_replicate, List.length_cons, List.length_nil, List.length_drop, List.length_take, letterL_len, upL_len, pathL_len, clearL_len, fillL_len, markL_len, setL_len] at *; omega) | (simp at *; omega) | fail) ?_) | (show Find _ _; first | refine Find.mk _ (rI_get (by assumption)) ?_) | (show Calc _ _; first | refine Calc.mk _ (rI_len _) ?_) | exact EqB.mk rfl))
        by_cases p2 : z - 8 < x
        case neg =>
          rw [i2, fallD_no hx (fun q => p2 q.2.1)]
          repeat' ((conv => whnf); (first | (refine hK _ _ _ ?_; clear hK K) | (show Z _ _ _ _ _ _ _ _; first | refine Z.reg wd (fun K hK => ?_) | refine Z.draw2 wd rfl (fun K hK => ?_) | refine Z.seq ?_ | refine Z.skip ?_ | refine Z.cond (E := Ee) ?_ | refine Z.ret rfl ?_ | refine Z.block ?_) | (show IfB _ _ _; first | refine IfB.T rfl ?_ | refine IfB.F rfl ?_ | refine IfB.DT (by first | assumption | omega | (simp; done) | fail) ?_ | refine IfB.DF (by first | assumption | omega | (simp; done) | fail) ?_) | (show Need _ _; first | refine Need.mk (by kernel_rfl) ?_ | refine Need.mk (by first | omega | (simp only [strMost, mostRows, rS_len, rI_len, List.length_append, List.length_map, List.length_set, List.length_replicate, List.length_cons, List.length_nil, List.length_drop, List.length_take, letterL_len, upL_len, pathL_len, clearL_len, fillL_len, markL_len, setL_len]; done) | (simp only [strMost, mostRows, rS_len, rI_len, List.length_append, List.length_map, List.length_set, List.length_replicate, List.length_cons, List.length_nil, List.length_drop, List.length_take, letterL_len, upL_len, pathL_len, clearL_len, fillL_len, markL_len, setL_len] at *; omega) | (simp at *; omega) | fail) ?_) | (show Find _ _; first | refine Find.mk _ (rI_get (by assumption)) ?_) | (show Calc _ _; first | refine Calc.mk _ (rI_len _) ?_) | exact EqB.mk rfl))
        by_cases p1 : 1 ≤ x
        case neg =>
          rw [i2, fallD_no hx (fun q => p1 q.1)]
          repeat' ((conv => whnf); (first | (refine hK _ _ _ ?_; clear hK K) | (show Z _ _ _ _ _ _ _ _; first | refine Z.reg wd (fun K hK => ?_) | refine Z.draw2 wd rfl (fun K hK => ?_) | refine Z.seq ?_ | refine Z.skip ?_ | refine Z.cond (E := Ee) ?_ | refine Z.ret rfl ?_ | refine Z.block ?_) | (show IfB _ _ _; first | refine IfB.F rfl ?_ | refine IfB.DT (by first | assumption | omega | (simp; done) | fail) ?_ | refine IfB.DF (by first | assumption | omega | (simp; done) | fail) ?_) | (show Need _ _; first | refine Need.mk (by kernel_rfl) ?_ | refine Need.mk (by first | omega | (simp only [strMost, mostRows, rS_len, rI_len, List.length_append, List.length_map, List.length_set, List.length_replicate, List.length_cons, List.length_nil, List.length_drop, List.length_take, letterL_len, upL_len, pathL_len, clearL_len, fillL_len, markL_len, setL_len]; done) | (simp only [strMost, mostRows, rS_len, rI_len, List.length_append, List.length_map, List.length_set, List.length_replicate, List.length_cons, List.length_nil, List.length_drop, List.length_take, letterL_len, upL_len, pathL_len, clearL_len, fillL_len, markL_len, setL_len] at *; omega) | (simp at *; omega) | fail) ?_) | (show Find _ _; first | refine Find.mk _ (rI_get (by assumption)) ?_) | (show Calc _ _; first | refine Calc.mk _ (rI_len _) ?_) | exact EqB.mk rfl))
        rw [fallD_yes hx ⟨p1, p2, fun _ y' hy' => by rw [hy] at hy'; cases hy'; exact p4⟩] at i2
        repeat' ((conv => whnf); (first | (refine hK _ _ _ ?_; clear hK K) | (show Z _ _ _ _ _ _ _ _; first | refine Z.reg wd (fun K hK => ?_) | refine Z.draw2 wd rfl (fun K hK => ?_) | refine Z.seq ?_ | refine Z.skip ?_ | refine Z.cond (E := Ee) ?_ | refine Z.block ?_ | refine Z.blockEnd ?_) | (show IfB _ _ _; first | refine IfB.F rfl ?_ | refine IfB.DT (by first | assumption | omega | (simp; done) | fail) ?_ | refine IfB.DF (by first | assumption | omega | (simp; done) | fail) ?_) | (show Need _ _; first | refine Need.mk (by kernel_rfl) ?_ | refine Need.mk (by first | omega | (simp only [strMost, mostRows, rS_len, rI_len, List.length_append, List.length_map, List.length_set, List.length_replicate, List.length_cons, List.length_nil, List.length_drop, List.length_take, letterL_len, upL_len, pathL_len, clearL_len, fillL_len, markL_len, setL_len]; done) | (simp only [strMost, mostRows, rS_len, rI_len, List.length_append, List.length_map, List.length_set, List.length_replicate, List.length_cons, List.length_nil, List.length_drop, List.length_take, letterL_len, upL_len, pathL_len, clearL_len, fillL_len, markL_len, setL_len] at *; omega) | (simp at *; omega) | fail) ?_) | (show Find _ _; first | refine Find.mk _ (rI_get (by assumption)) ?_) | (show Calc _ _; first | refine Calc.mk _ (rI_len _) ?_)))
        (refine Z.next2 (next (i + 1) (by exact ⟨⟨by omega, by omega⟩, i2⟩) (by omega)) ?_; (conv => whnf); exact ⟨rfl, rfl, rfl⟩)
      · rw [fallD_end (i := i) (by omega)] at i2
        rw [i2]
        repeat' ((conv => whnf); (first | (refine hK _ _ _ ?_; clear hK K) | (show Z _ _ _ _ _ _ _ _; first | refine Z.reg wd (fun K hK => ?_) | refine Z.seq ?_ | refine Z.cond (E := Ee) ?_ | refine Z.ret rfl ?_ | refine Z.exit rfl ?_) | (show IfB _ _ _; first | refine IfB.DF (by first | assumption | omega | (simp; done) | fail) ?_) | (show Calc _ _; first | refine Calc.mk _ (rI_len _) ?_) | exact EqB.mk rfl))
def hasI (l : List Int) (m : Int) : Bool := decide (m ∈ l)
theorem hasI_step {l : List Int} {m : Int} {i : Nat} {x : Int} (h : l[i]? = some x) : hasI (l.drop i) m = (decide (x = m) || hasI (l.drop (i + 1)) m) := by
  have hi : i < l.length := (List.getElem?_eq_some_iff.mp h).1
  have hs : l[i] = x := (List.getElem?_eq_some_iff.mp h).2
  unfold hasI
  rw [List.drop_eq_getElem_cons hi, hs]
  by_cases e : x = m
  · subst e; simp
  · simp [e, Ne.symm e]
theorem hasI_end {l : List Int} {m : Int} {i : Nat} (h : l.length ≤ i) : hasI (l.drop i) m = false := by
  unfold hasI; rw [List.drop_eq_nil_of_le h]; simp
attribute [irreducible] hasI
theorem l4In_ct (l : List Int) (m : Int) (hl : l.length ≤ mostRows) : Ct Tryd.prog 120 [bIs l, bI m] (.w (bB (hasI l m))) := by
  simp only [mostRows] at hl
  refine Ct.z wd Tryd.func120 rfl rfl Tryd.ntmps120 rfl rfl rfl rfl ?_
  repeat' ((conv => whnf); (first | (refine hK _ _ _ ?_; clear hK K) | (show Z _ _ _ _ _ _ _ _; first | refine Z.reg wd (fun K hK => ?_) | refine Z.seq ?_ | refine Z.block ?_)))
  refine Z.loopK2 [0, 1, 5] ?_; (conv => whnf); refine LoopZ.mk (α := Nat) (fun i => [(5, vI i)]) (fun i => []) (fun i => i ≤ l.length ∧ hasI l m = hasI (l.drop i) m) (fun i => l.length - i) 0 rfl rfl (by exact ⟨by omega, rfl⟩) ?_; intro nF i hI next; refine Z.force ?_
  obtain ⟨h1, h2⟩ := hI
  by_cases hlt : i < l.length
  · obtain ⟨x, hx⟩ : ∃ x, l[i]? = some x := ⟨_, List.getElem?_eq_getElem hlt⟩
    rw [hasI_step hx] at h2
    by_cases e : x = m
    · rw [decide_eq_true e, Bool.true_or] at h2
      rw [h2]
      repeat' ((conv => whnf); (first | (refine hK _ _ _ ?_; clear hK K) | (show Z _ _ _ _ _ _ _ _; first | refine Z.reg wd (fun K hK => ?_) | refine Z.seq ?_ | refine Z.skip ?_ | refine Z.cond (E := Ee) ?_ | refine Z.ret rfl ?_ | refine Z.block ?_) | (show IfB _ _ _; first | refine IfB.DT (by first | assumption | omega | (simp; done) | fail) ?_) | (show Need _ _; first | refine Need.mk (by first | omega | (simp only [strMost, mostRows, rS_len, rI_len, List.length_append, List.length_map, List.length_set, List.length_replicate, List.length_cons, List.length_nil, List.length_drop, List.length_take, letterL_len, upL_len, pathL_len, clearL_len, fillL_len, markL_len, setL_len]; done) | (simp only [strMost, mostRows, rS_len, rI_len, List.length_append, List.length_map, List.length_set, List.length_replicate, List.length_cons, List.length_nil, List.length_drop, List.length_take, letterL_len, upL_len, pathL_len, clearL_len, fillL_len, markL_len, setL_len] at *; omega) | (simp at *; omega) | fail) ?_) | (show Find _ _; first | refine Find.mk _ (rI_get (by assumption)) ?_) | (show Calc _ _; first | refine Calc.mk _ (rI_len _) ?_) | exact EqB.mk rfl))
    · rw [decide_eq_false e, Bool.false_or] at h2
      repeat' ((conv => whnf); (first | (refine hK _ _ _ ?_; clear hK K) | (show Z _ _ _ _ _ _ _ _; first | refine Z.reg wd (fun K hK => ?_) | refine Z.seq ?_ | refine Z.skip ?_ | refine Z.cond (E := Ee) ?_ | refine Z.block ?_ | refine Z.blockEnd ?_) | (show IfB _ _ _; first | refine IfB.DT (by first | assumption | omega | (simp; done) | fail) ?_ | refine IfB.DF (by first | assumption | omega | (simp; done) | fail) ?_) | (show Need _ _; first | refine Need.mk (by first | omega | (simp only [strMost, mostRows, rS_len, rI_len, List.length_append, List.length_map, List.length_set, List.length_replicate, List.length_cons, List.length_nil, List.length_drop, List.length_take, letterL_len, upL_len, pathL_len, clearL_len, fillL_len, markL_len, setL_len]; done) | (simp only [strMost, mostRows, rS_len, rI_len, List.length_append, List.length_map, List.length_set, List.length_replicate, List.length_cons, List.length_nil, List.length_drop, List.length_take, letterL_len, upL_len, pathL_len, clearL_len, fillL_len, markL_len, setL_len] at *; omega) | (simp at *; omega) | fail) ?_) | (show Find _ _; first | refine Find.mk _ (rI_get (by assumption)) ?_) | (show Calc _ _; first | refine Calc.mk _ (rI_len _) ?_)))
      (refine Z.next2 (next (i + 1) (by exact ⟨by omega, h2⟩) (by omega)) ?_; (conv => whnf); exact ⟨rfl, rfl, rfl⟩)
  · rw [hasI_end (i := i) (by omega)] at h2
    rw [h2]
    repeat' ((conv => whnf); (first | (refine hK _ _ _ ?_; clear hK K) | (show Z _ _ _ _ _ _ _ _; first | refine Z.reg wd (fun K hK => ?_) | refine Z.seq ?_ | refine Z.cond (E := Ee) ?_ | refine Z.ret rfl ?_ | refine Z.exit rfl ?_) | (show IfB _ _ _; first | refine IfB.DF (by first | assumption | omega | (simp; done) | fail) ?_) | (show Calc _ _; first | refine Calc.mk _ (rI_len _) ?_) | exact EqB.mk rfl))
end Go.Proofs.YtfokmnafgabdiaaDoor.Eng
/- Windows: numbers that are too late. -/
namespace Go.Proofs.YtfokmnafgabdiaaDoor.Eng
open Go Go.RowKit Kw
set_option linter.unusedVariables false
set_option linter.unusedSimpArgs false
set_option maxRecDepth 10000
set_option maxHeartbeats 4000000
attribute [local irreducible] Ct HCt
end Go.Proofs.YtfokmnafgabdiaaDoor.Eng
/- Windows: a number put in, numbers taken out (in memory). -/
namespace Go.Proofs.YtfokmnafgabdiaaDoor.Eng
open Go Go.RowKit Kw
set_option linter.unusedVariables false
set_option linter.unusedSimpArgs false
set_option maxRecDepth 4000
set_option maxHeartbeats 2000000
end Go.Proofs.YtfokmnafgabdiaaDoor.Eng
/- The laws' own functions over numbers, and over windows. -/
namespace Go.Proofs.YtfokmnafgabdiaaDoor.Eng
open Go Go.RowKit Kw
set_option linter.unusedVariables false
set_option linter.unusedSimpArgs false
set_option maxRecDepth 10000
set_option maxHeartbeats 4000000
attribute [local irreducible] Ct HCt
def fillI (l : List Int) (i : Nat) : List Int := l.take i ++ List.replicate (l.length - i) 0
theorem fillI_len (l : List Int) (i : Nat) : (fillI l i).length = l.length := by
  unfold fillI; simp; omega
def markIL (k : Nat) (n : Nat) : List Int := (List.range n).map fun i => ((k + i : Nat) : Int)
theorem markIL_len (k n : Nat) : (markIL k n).length = n := by simp [markIL]
abbrev oW (k : List UInt8) (top : Int) (l : List Int) (cap : Option Nat) : BW := .agg [.b (.c (.lit (.string (mk k)))), .b (.c (.lit (.int .i64 top))), .b (.own 1 (rI l) cap)]
end Go.Proofs.YtfokmnafgabdiaaDoor.Eng
/- Windows: what they take, by the program. -/
namespace Go.Proofs.YtfokmnafgabdiaaDoor.Eng
open Go Go.RowKit Kw
set_option linter.unusedVariables false
set_option linter.unusedSimpArgs false
set_option maxRecDepth 10000
set_option maxHeartbeats 4000000
attribute [local irreducible] Ct HCt
end Go.Proofs.YtfokmnafgabdiaaDoor.Eng
/- Windows: what they take: WinTake by the program; by the reference. -/
namespace Go.Proofs.YtfokmnafgabdiaaDoor.Eng
open Go Go.RowKit Kw
set_option linter.unusedVariables false
set_option linter.unusedSimpArgs false
set_option maxRecDepth 10000
set_option maxHeartbeats 4000000
attribute [local irreducible] Ct HCt
theorem restS_end {n m : Int} {d : Bool} {l : List Int} {i : Nat} (h : l.length ≤ i) : restS n m d (l.drop i) = if d then [] else [n] := by
  rw [List.drop_eq_nil_of_le h]; rfl
theorem restS_drop {n m : Int} {d : Bool} {l : List Int} {i : Nat} {x : Int} (h : l[i]? = some x) : restS n m d (l.drop i) = if d = false ∧ n > x then n :: ((if x > m - 8 then [x] else []) ++ restS n m true (l.drop (i + 1))) else (if x > m - 8 then [x] else []) ++ restS n m d (l.drop (i + 1)) := by
  have hi : i < l.length := (List.getElem?_eq_some_iff.mp h).1
  have hs : l[i] = x := (List.getElem?_eq_some_iff.mp h).2
  rw [List.drop_eq_getElem_cons hi, restS, hs]
theorem l6Seen_ct (l : List Int) (n m : Int) (hl : l.length ≤ 1000) (hm : -1000 ≤ m ∧ m ≤ 2000) : Ct Tryd.prog 121 [bIs l, bI n, bI m] (oI (restS n m false l) none) := by
  refine Ct.z wd Tryd.func121 rfl rfl Tryd.ntmps121 rfl rfl rfl rfl ?_
  repeat' ((conv => whnf); (first | (refine hK _ _ _ ?_; clear hK K) | (show Z _ _ _ _ _ _ _ _; first | refine Z.reg wd (fun K hK => ?_) | refine Z.seq ?_ | refine Z.block ?_)))
  refine Z.loopK2 [0, 1, 2, 7, 8, 9] ?_; (conv => whnf); refine LoopZ.mk (α := Nat × Bool × List Int) (fun x => [(7, vone (.ref 0 0 (rI x.2.2).length none)), (8, vB x.2.1), (9, vI x.1)]) (fun x => [(0, .rows 1 (rI x.2.2))]) (fun x => (x.1 ≤ l.length ∧ x.2.2.length ≤ 2 * x.1 + 2) ∧ x.2.2 ++ restS n m x.2.1 (l.drop x.1) = restS n m false l) (fun x => l.length - x.1) (0, false, []) rfl rfl (by exact ⟨⟨by simp, by simp⟩, rfl⟩) ?_; intro nF x hI next; refine Z.force ?_
  obtain ⟨i, d, acc⟩ := x
  dsimp only at hI
  obtain ⟨⟨i1, i2⟩, i3⟩ := hI
  by_cases hlt : i < l.length
  · obtain ⟨x, hx⟩ : ∃ x, l[i]? = some x := ⟨_, List.getElem?_eq_getElem hlt⟩
    rw [restS_drop hx] at i3
    cases d with
    | true =>
      rw [if_neg (by simp)] at i3
      by_cases h2 : x > m - 8
      · rw [if_pos h2, ← List.append_assoc] at i3
        repeat' ((conv => whnf); (first | (refine hK _ _ _ ?_; clear hK K) | (show Z _ _ _ _ _ _ _ _; first | refine Z.reg wd (fun K hK => ?_) | refine Z.seq ?_ | refine Z.skip ?_ | refine Z.cond (E := Ee) ?_ | refine Z.block ?_ | refine Z.blockEnd ?_) | (show IfB _ _ _; first | refine IfB.F rfl ?_ | refine IfB.DT (by first | assumption | omega | (simp; done) | fail) ?_) | (show Need _ _; first | refine Need.mk (by first | omega | (simp only [strMost, mostRows, rS_len, rI_len, List.length_append, List.length_map, List.length_set, List.length_replicate, List.length_cons, List.length_nil, List.length_drop, List.length_take, letterL_len, upL_len, pathL_len, clearL_len, fillL_len, markL_len, setL_len, fillI_len, markIL_len]; done) | (simp only [strMost, mostRows, rS_len, rI_len, List.length_append, List.length_map, List.length_set, List.length_replicate, List.length_cons, List.length_nil, List.length_drop, List.length_take, letterL_len, upL_len, pathL_len, clearL_len, fillL_len, markL_len, setL_len, fillI_len, markIL_len] at *; omega) | (simp at *; omega) | fail) ?_ | refine Need.mk ⟨(by first | rfl | assumption | (simp only [rS_len, rI_len, List.length_append, List.length_map, List.length_set, List.length_replicate, List.length_cons, List.length_nil, Nat.zero_add, letterL_len, upL_len, pathL_len, clearL_len, fillL_len, markL_len, setL_len, fillI_len, markIL_len]; done) | omega | (simp only [rS_len, rI_len, List.length_append, List.length_map, List.length_set, List.length_replicate, List.length_cons, List.length_nil, List.length_drop, List.length_take, letterL_len, upL_len, pathL_len, clearL_len, fillL_len, markL_len, setL_len, fillI_len, markIL_len] at *; omega) | fail), (by first | omega | (simp only [strMost, mostRows, rS_len, rI_len, List.length_append, List.length_map, List.length_set, List.length_replicate, List.length_cons, List.length_nil, List.length_drop, List.length_take, letterL_len, upL_len, pathL_len, clearL_len, fillL_len, markL_len, setL_len, fillI_len, markIL_len]; done) | (simp only [strMost, mostRows, rS_len, rI_len, List.length_append, List.length_map, List.length_set, List.length_replicate, List.length_cons, List.length_nil, List.length_drop, List.length_take, letterL_len, upL_len, pathL_len, clearL_len, fillL_len, markL_len, setL_len, fillI_len, markIL_len] at *; omega) | (simp at *; omega) | fail)⟩ ?_) | (show Find _ _; first | refine Find.mk _ (rI_get (by assumption)) ?_) | (show Calc _ _; first | refine Calc.mk _ (rI_len _) ?_ | refine Calc.mk _ (rI_snoc _ _) ?_ | refine Calc.mk _ (vw_n (by first | rfl | assumption | (simp only [rS_len, rI_len, List.length_append, List.length_map, List.length_set, List.length_replicate, List.length_cons, List.length_nil, Nat.zero_add, letterL_len, upL_len, pathL_len, clearL_len, fillL_len, markL_len, setL_len, fillI_len, markIL_len]; done) | omega | (simp only [rS_len, rI_len, List.length_append, List.length_map, List.length_set, List.length_replicate, List.length_cons, List.length_nil, List.length_drop, List.length_take, letterL_len, upL_len, pathL_len, clearL_len, fillL_len, markL_len, setL_len, fillI_len, markIL_len] at *; omega) | fail)) ?_)))
        (refine Z.next2 (next (i + 1, true, acc ++ [x]) (by exact ⟨⟨by simp; omega, by simp; omega⟩, i3⟩) (by dsimp only; omega)) ?_; (conv => whnf); exact ⟨rfl, rfl, rfl⟩)
      · rw [if_neg h2, List.nil_append] at i3
        repeat' ((conv => whnf); (first | (refine hK _ _ _ ?_; clear hK K) | (show Z _ _ _ _ _ _ _ _; first | refine Z.reg wd (fun K hK => ?_) | refine Z.seq ?_ | refine Z.skip ?_ | refine Z.cond (E := Ee) ?_ | refine Z.block ?_ | refine Z.blockEnd ?_) | (show IfB _ _ _; first | refine IfB.F rfl ?_ | refine IfB.DT (by first | assumption | omega | (simp; done) | fail) ?_ | refine IfB.DF (by first | assumption | omega | (simp; done) | fail) ?_) | (show Need _ _; first | refine Need.mk (by first | omega | (simp only [strMost, mostRows, rS_len, rI_len, List.length_append, List.length_map, List.length_set, List.length_replicate, List.length_cons, List.length_nil, List.length_drop, List.length_take, letterL_len, upL_len, pathL_len, clearL_len, fillL_len, markL_len, setL_len, fillI_len, markIL_len]; done) | (simp only [strMost, mostRows, rS_len, rI_len, List.length_append, List.length_map, List.length_set, List.length_replicate, List.length_cons, List.length_nil, List.length_drop, List.length_take, letterL_len, upL_len, pathL_len, clearL_len, fillL_len, markL_len, setL_len, fillI_len, markIL_len] at *; omega) | (simp at *; omega) | fail) ?_) | (show Find _ _; first | refine Find.mk _ (rI_get (by assumption)) ?_) | (show Calc _ _; first | refine Calc.mk _ (rI_len _) ?_)))
        (refine Z.next2 (next (i + 1, true, acc) (by exact ⟨⟨by simp; omega, by simp; omega⟩, i3⟩) (by dsimp only; omega)) ?_; (conv => whnf); exact ⟨rfl, rfl, rfl⟩)
    | false =>
      by_cases h1 : n > x
      · rw [if_pos ⟨rfl, h1⟩, show ∀ t, acc ++ n :: t = (acc ++ [n]) ++ t from fun t => by simp] at i3
        by_cases h2 : x > m - 8
        · rw [if_pos h2, ← List.append_assoc] at i3
          repeat' ((conv => whnf); (first | (refine hK _ _ _ ?_; clear hK K) | (show Z _ _ _ _ _ _ _ _; first | refine Z.reg wd (fun K hK => ?_) | refine Z.seq ?_ | refine Z.skip ?_ | refine Z.cond (E := Ee) ?_ | refine Z.block ?_ | refine Z.blockEnd ?_) | (show IfB _ _ _; first | refine IfB.T rfl ?_ | refine IfB.DT (by first | assumption | omega | (simp; done) | fail) ?_) | (show Need _ _; first | refine Need.mk (by first | omega | (simp only [strMost, mostRows, rS_len, rI_len, List.length_append, List.length_map, List.length_set, List.length_replicate, List.length_cons, List.length_nil, List.length_drop, List.length_take, letterL_len, upL_len, pathL_len, clearL_len, fillL_len, markL_len, setL_len, fillI_len, markIL_len]; done) | (simp only [strMost, mostRows, rS_len, rI_len, List.length_append, List.length_map, List.length_set, List.length_replicate, List.length_cons, List.length_nil, List.length_drop, List.length_take, letterL_len, upL_len, pathL_len, clearL_len, fillL_len, markL_len, setL_len, fillI_len, markIL_len] at *; omega) | (simp at *; omega) | fail) ?_ | refine Need.mk ⟨(by first | rfl | assumption | (simp only [rS_len, rI_len, List.length_append, List.length_map, List.length_set, List.length_replicate, List.length_cons, List.length_nil, Nat.zero_add, letterL_len, upL_len, pathL_len, clearL_len, fillL_len, markL_len, setL_len, fillI_len, markIL_len]; done) | omega | (simp only [rS_len, rI_len, List.length_append, List.length_map, List.length_set, List.length_replicate, List.length_cons, List.length_nil, List.length_drop, List.length_take, letterL_len, upL_len, pathL_len, clearL_len, fillL_len, markL_len, setL_len, fillI_len, markIL_len] at *; omega) | fail), (by first | omega | (simp only [strMost, mostRows, rS_len, rI_len, List.length_append, List.length_map, List.length_set, List.length_replicate, List.length_cons, List.length_nil, List.length_drop, List.length_take, letterL_len, upL_len, pathL_len, clearL_len, fillL_len, markL_len, setL_len, fillI_len, markIL_len]; done) | (simp only [strMost, mostRows, rS_len, rI_len, List.length_append, List.length_map, List.length_set, List.length_replicate, List.length_cons, List.length_nil, List.length_drop, List.length_take, letterL_len, upL_len, pathL_len, clearL_len, fillL_len, markL_len, setL_len, fillI_len, markIL_len] at *; omega) | (simp at *; omega) | fail)⟩ ?_) | (show Find _ _; first | refine Find.mk _ (rI_get (by assumption)) ?_) | (show Calc _ _; first | refine Calc.mk _ (rI_len _) ?_ | refine Calc.mk _ (rI_snoc _ _) ?_ | refine Calc.mk _ (vw_n (by first | rfl | assumption | (simp only [rS_len, rI_len, List.length_append, List.length_map, List.length_set, List.length_replicate, List.length_cons, List.length_nil, Nat.zero_add, letterL_len, upL_len, pathL_len, clearL_len, fillL_len, markL_len, setL_len, fillI_len, markIL_len]; done) | omega | (simp only [rS_len, rI_len, List.length_append, List.length_map, List.length_set, List.length_replicate, List.length_cons, List.length_nil, List.length_drop, List.length_take, letterL_len, upL_len, pathL_len, clearL_len, fillL_len, markL_len, setL_len, fillI_len, markIL_len] at *; omega) | fail)) ?_)))
          (refine Z.next2 (next (i + 1, true, acc ++ [n] ++ [x]) (by exact ⟨⟨by simp; omega, by simp; omega⟩, i3⟩) (by dsimp only; omega)) ?_; (conv => whnf); exact ⟨rfl, rfl, rfl⟩)
        · rw [if_neg h2, List.nil_append] at i3
          repeat' ((conv => whnf); (first | (refine hK _ _ _ ?_; clear hK K) | (show Z _ _ _ _ _ _ _ _; first | refine Z.reg wd (fun K hK => ?_) | refine Z.seq ?_ | refine Z.skip ?_ | refine Z.cond (E := Ee) ?_ | refine Z.block ?_ | refine Z.blockEnd ?_) | (show IfB _ _ _; first | refine IfB.T rfl ?_ | refine IfB.DT (by first | assumption | omega | (simp; done) | fail) ?_ | refine IfB.DF (by first | assumption | omega | (simp; done) | fail) ?_) | (show Need _ _; first | refine Need.mk (by first | omega | (simp only [strMost, mostRows, rS_len, rI_len, List.length_append, List.length_map, List.length_set, List.length_replicate, List.length_cons, List.length_nil, List.length_drop, List.length_take, letterL_len, upL_len, pathL_len, clearL_len, fillL_len, markL_len, setL_len, fillI_len, markIL_len]; done) | (simp only [strMost, mostRows, rS_len, rI_len, List.length_append, List.length_map, List.length_set, List.length_replicate, List.length_cons, List.length_nil, List.length_drop, List.length_take, letterL_len, upL_len, pathL_len, clearL_len, fillL_len, markL_len, setL_len, fillI_len, markIL_len] at *; omega) | (simp at *; omega) | fail) ?_ | refine Need.mk ⟨(by first | rfl | assumption | (simp only [rS_len, rI_len, List.length_append, List.length_map, List.length_set, List.length_replicate, List.length_cons, List.length_nil, Nat.zero_add, letterL_len, upL_len, pathL_len, clearL_len, fillL_len, markL_len, setL_len, fillI_len, markIL_len]; done) | omega | (simp only [rS_len, rI_len, List.length_append, List.length_map, List.length_set, List.length_replicate, List.length_cons, List.length_nil, List.length_drop, List.length_take, letterL_len, upL_len, pathL_len, clearL_len, fillL_len, markL_len, setL_len, fillI_len, markIL_len] at *; omega) | fail), (by first | omega | (simp only [strMost, mostRows, rS_len, rI_len, List.length_append, List.length_map, List.length_set, List.length_replicate, List.length_cons, List.length_nil, List.length_drop, List.length_take, letterL_len, upL_len, pathL_len, clearL_len, fillL_len, markL_len, setL_len, fillI_len, markIL_len]; done) | (simp only [strMost, mostRows, rS_len, rI_len, List.length_append, List.length_map, List.length_set, List.length_replicate, List.length_cons, List.length_nil, List.length_drop, List.length_take, letterL_len, upL_len, pathL_len, clearL_len, fillL_len, markL_len, setL_len, fillI_len, markIL_len] at *; omega) | (simp at *; omega) | fail)⟩ ?_) | (show Find _ _; first | refine Find.mk _ (rI_get (by assumption)) ?_) | (show Calc _ _; first | refine Calc.mk _ (rI_len _) ?_ | refine Calc.mk _ (rI_snoc _ _) ?_ | refine Calc.mk _ (vw_n (by first | rfl | assumption | (simp only [rS_len, rI_len, List.length_append, List.length_map, List.length_set, List.length_replicate, List.length_cons, List.length_nil, Nat.zero_add, letterL_len, upL_len, pathL_len, clearL_len, fillL_len, markL_len, setL_len, fillI_len, markIL_len]; done) | omega | (simp only [rS_len, rI_len, List.length_append, List.length_map, List.length_set, List.length_replicate, List.length_cons, List.length_nil, List.length_drop, List.length_take, letterL_len, upL_len, pathL_len, clearL_len, fillL_len, markL_len, setL_len, fillI_len, markIL_len] at *; omega) | fail)) ?_)))
          (refine Z.next2 (next (i + 1, true, acc ++ [n]) (by exact ⟨⟨by simp; omega, by simp; omega⟩, i3⟩) (by dsimp only; omega)) ?_; (conv => whnf); exact ⟨rfl, rfl, rfl⟩)
      · rw [if_neg (fun q => h1 q.2)] at i3
        by_cases h2 : x > m - 8
        · rw [if_pos h2, ← List.append_assoc] at i3
          repeat' ((conv => whnf); (first | (refine hK _ _ _ ?_; clear hK K) | (show Z _ _ _ _ _ _ _ _; first | refine Z.reg wd (fun K hK => ?_) | refine Z.seq ?_ | refine Z.skip ?_ | refine Z.cond (E := Ee) ?_ | refine Z.block ?_ | refine Z.blockEnd ?_) | (show IfB _ _ _; first | refine IfB.T rfl ?_ | refine IfB.DT (by first | assumption | omega | (simp; done) | fail) ?_ | refine IfB.DF (by first | assumption | omega | (simp; done) | fail) ?_) | (show Need _ _; first | refine Need.mk (by first | omega | (simp only [strMost, mostRows, rS_len, rI_len, List.length_append, List.length_map, List.length_set, List.length_replicate, List.length_cons, List.length_nil, List.length_drop, List.length_take, letterL_len, upL_len, pathL_len, clearL_len, fillL_len, markL_len, setL_len, fillI_len, markIL_len]; done) | (simp only [strMost, mostRows, rS_len, rI_len, List.length_append, List.length_map, List.length_set, List.length_replicate, List.length_cons, List.length_nil, List.length_drop, List.length_take, letterL_len, upL_len, pathL_len, clearL_len, fillL_len, markL_len, setL_len, fillI_len, markIL_len] at *; omega) | (simp at *; omega) | fail) ?_ | refine Need.mk ⟨(by first | rfl | assumption | (simp only [rS_len, rI_len, List.length_append, List.length_map, List.length_set, List.length_replicate, List.length_cons, List.length_nil, Nat.zero_add, letterL_len, upL_len, pathL_len, clearL_len, fillL_len, markL_len, setL_len, fillI_len, markIL_len]; done) | omega | (simp only [rS_len, rI_len, List.length_append, List.length_map, List.length_set, List.length_replicate, List.length_cons, List.length_nil, List.length_drop, List.length_take, letterL_len, upL_len, pathL_len, clearL_len, fillL_len, markL_len, setL_len, fillI_len, markIL_len] at *; omega) | fail), (by first | omega | (simp only [strMost, mostRows, rS_len, rI_len, List.length_append, List.length_map, List.length_set, List.length_replicate, List.length_cons, List.length_nil, List.length_drop, List.length_take, letterL_len, upL_len, pathL_len, clearL_len, fillL_len, markL_len, setL_len, fillI_len, markIL_len]; done) | (simp only [strMost, mostRows, rS_len, rI_len, List.length_append, List.length_map, List.length_set, List.length_replicate, List.length_cons, List.length_nil, List.length_drop, List.length_take, letterL_len, upL_len, pathL_len, clearL_len, fillL_len, markL_len, setL_len, fillI_len, markIL_len] at *; omega) | (simp at *; omega) | fail)⟩ ?_) | (show Find _ _; first | refine Find.mk _ (rI_get (by assumption)) ?_) | (show Calc _ _; first | refine Calc.mk _ (rI_len _) ?_ | refine Calc.mk _ (rI_snoc _ _) ?_ | refine Calc.mk _ (vw_n (by first | rfl | assumption | (simp only [rS_len, rI_len, List.length_append, List.length_map, List.length_set, List.length_replicate, List.length_cons, List.length_nil, Nat.zero_add, letterL_len, upL_len, pathL_len, clearL_len, fillL_len, markL_len, setL_len, fillI_len, markIL_len]; done) | omega | (simp only [rS_len, rI_len, List.length_append, List.length_map, List.length_set, List.length_replicate, List.length_cons, List.length_nil, List.length_drop, List.length_take, letterL_len, upL_len, pathL_len, clearL_len, fillL_len, markL_len, setL_len, fillI_len, markIL_len] at *; omega) | fail)) ?_)))
          (refine Z.next2 (next (i + 1, false, acc ++ [x]) (by exact ⟨⟨by simp; omega, by simp; omega⟩, i3⟩) (by dsimp only; omega)) ?_; (conv => whnf); exact ⟨rfl, rfl, rfl⟩)
        · rw [if_neg h2, List.nil_append] at i3
          repeat' ((conv => whnf); (first | (refine hK _ _ _ ?_; clear hK K) | (show Z _ _ _ _ _ _ _ _; first | refine Z.reg wd (fun K hK => ?_) | refine Z.seq ?_ | refine Z.skip ?_ | refine Z.cond (E := Ee) ?_ | refine Z.block ?_ | refine Z.blockEnd ?_) | (show IfB _ _ _; first | refine IfB.T rfl ?_ | refine IfB.DT (by first | assumption | omega | (simp; done) | fail) ?_ | refine IfB.DF (by first | assumption | omega | (simp; done) | fail) ?_) | (show Need _ _; first | refine Need.mk (by first | omega | (simp only [strMost, mostRows, rS_len, rI_len, List.length_append, List.length_map, List.length_set, List.length_replicate, List.length_cons, List.length_nil, List.length_drop, List.length_take, letterL_len, upL_len, pathL_len, clearL_len, fillL_len, markL_len, setL_len, fillI_len, markIL_len]; done) | (simp only [strMost, mostRows, rS_len, rI_len, List.length_append, List.length_map, List.length_set, List.length_replicate, List.length_cons, List.length_nil, List.length_drop, List.length_take, letterL_len, upL_len, pathL_len, clearL_len, fillL_len, markL_len, setL_len, fillI_len, markIL_len] at *; omega) | (simp at *; omega) | fail) ?_) | (show Find _ _; first | refine Find.mk _ (rI_get (by assumption)) ?_) | (show Calc _ _; first | refine Calc.mk _ (rI_len _) ?_)))
          (refine Z.next2 (next (i + 1, false, acc) (by exact ⟨⟨by simp; omega, by simp; omega⟩, i3⟩) (by dsimp only; omega)) ?_; (conv => whnf); exact ⟨rfl, rfl, rfl⟩)
  · rw [restS_end (by omega)] at i3
    rw [← i3]
    cases d with
    | true =>
      rw [if_pos rfl, List.append_nil]
      repeat' ((conv => whnf); (first | (refine hK _ _ _ ?_; clear hK K) | (show Z _ _ _ _ _ _ _ _; first | refine Z.reg wd (fun K hK => ?_) | refine Z.seq ?_ | refine Z.skip ?_ | refine Z.cond (E := Ee) ?_ | refine Z.ret rfl ?_ | refine Z.exit rfl ?_) | (show IfB _ _ _; first | refine IfB.F rfl ?_ | refine IfB.DF (by first | assumption | omega | (simp; done) | fail) ?_) | (show Calc _ _; first | refine Calc.mk _ (vw_all _) ?_ | refine Calc.mk _ (rI_len _) ?_) | exact EqB.mk rfl))
    | false =>
      rw [if_neg (by simp)]
      repeat' ((conv => whnf); (first | (refine hK _ _ _ ?_; clear hK K) | (show Z _ _ _ _ _ _ _ _; first | refine Z.reg wd (fun K hK => ?_) | refine Z.seq ?_ | refine Z.cond (E := Ee) ?_ | refine Z.ret rfl ?_ | refine Z.exit rfl ?_) | (show IfB _ _ _; first | refine IfB.T rfl ?_ | refine IfB.DF (by first | assumption | omega | (simp; done) | fail) ?_) | (show Need _ _; first | refine Need.mk ⟨(by first | rfl | assumption | (simp only [rS_len, rI_len, List.length_append, List.length_map, List.length_set, List.length_replicate, List.length_cons, List.length_nil, Nat.zero_add, letterL_len, upL_len, pathL_len, clearL_len, fillL_len, markL_len, setL_len, fillI_len, markIL_len]; done) | omega | (simp only [rS_len, rI_len, List.length_append, List.length_map, List.length_set, List.length_replicate, List.length_cons, List.length_nil, List.length_drop, List.length_take, letterL_len, upL_len, pathL_len, clearL_len, fillL_len, markL_len, setL_len, fillI_len, markIL_len] at *; omega) | fail), (by first | omega | (simp only [strMost, mostRows, rS_len, rI_len, List.length_append, List.length_map, List.length_set, List.length_replicate, List.length_cons, List.length_nil, List.length_drop, List.length_take, letterL_len, upL_len, pathL_len, clearL_len, fillL_len, markL_len, setL_len, fillI_len, markIL_len]; done) | (simp only [strMost, mostRows, rS_len, rI_len, List.length_append, List.length_map, List.length_set, List.length_replicate, List.length_cons, List.length_nil, List.length_drop, List.length_take, letterL_len, upL_len, pathL_len, clearL_len, fillL_len, markL_len, setL_len, fillI_len, markIL_len] at *; omega) | (simp at *; omega) | fail)⟩ ?_) | (show Calc _ _; first | refine Calc.mk _ (vw_all _) ?_ | refine Calc.mk _ (rI_len _) ?_ | refine Calc.mk _ (rI_snoc _ _) ?_ | refine Calc.mk _ (vw_n (by first | rfl | assumption | (simp only [rS_len, rI_len, List.length_append, List.length_map, List.length_set, List.length_replicate, List.length_cons, List.length_nil, Nat.zero_add, letterL_len, upL_len, pathL_len, clearL_len, fillL_len, markL_len, setL_len, fillI_len, markIL_len]; done) | omega | (simp only [rS_len, rI_len, List.length_append, List.length_map, List.length_set, List.length_replicate, List.length_cons, List.length_nil, List.length_drop, List.length_take, letterL_len, upL_len, pathL_len, clearL_len, fillL_len, markL_len, setL_len, fillI_len, markIL_len] at *; omega) | fail)) ?_) | exact EqB.mk rfl))
theorem l6TakeNo_ct (key : List UInt8) (top n : Int) (l : List Int) (ht : 1 ≤ top ∧ top ≤ 999) (hl : l.length ≤ mostRows) (hno : hasI l n = true ∨ n ≤ top - 8) :
    Ct Tryd.prog 84 [bW key top l, bI n] (.tup [bW key top l, bB false]) := by
  by_cases hn8 : n ≤ top - 8
  · refine Ct.z wd Tryd.func84 rfl rfl Tryd.ntmps84 rfl rfl rfl rfl ?_
    repeat' ((conv => whnf); (first | (refine hK _ _ _ ?_; clear hK K) | (show Z _ _ _ _ _ _ _ _; first | refine Z.reg wd (fun K hK => ?_) | refine Z.seq ?_ | refine Z.cond (E := Ee) ?_ | refine Z.ret rfl ?_) | (show IfB _ _ _; first | refine IfB.T rfl ?_ | refine IfB.DT (by first | assumption | omega | (simp; done) | fail) ?_) | (show Need _ _; first | refine Need.mk (by first | omega | (simp only [strMost, mostRows, rS_len, rI_len, List.length_append, List.length_map, List.length_set, List.length_replicate, List.length_cons, List.length_nil, List.length_drop, List.length_take, letterL_len, upL_len, pathL_len, clearL_len, fillL_len, markL_len, setL_len, fillI_len, markIL_len]; done) | (simp only [strMost, mostRows, rS_len, rI_len, List.length_append, List.length_map, List.length_set, List.length_replicate, List.length_cons, List.length_nil, List.length_drop, List.length_take, letterL_len, upL_len, pathL_len, clearL_len, fillL_len, markL_len, setL_len, fillI_len, markIL_len] at *; omega) | (simp at *; omega) | fail) ?_) | exact EqB.mk rfl))
  · have hh : hasI l n = true := hno.resolve_right hn8
    refine Ct.z wd Tryd.func84 rfl rfl Tryd.ntmps84 rfl rfl rfl rfl ?_
    repeat' ((conv => whnf); (first | (refine hK _ _ _ ?_; clear hK K) | (show Z _ _ _ _ _ _ _ _; first | refine Z.reg wd (fun K hK => ?_) | refine Z.seq ?_ | refine Z.cond (E := Ee) ?_ | refine Z.ret rfl ?_) | (show IfB _ _ _; first | refine IfB.F rfl ?_ | refine IfB.T (by assumption) ?_ | refine IfB.DF (by first | assumption | omega | (simp; done) | fail) ?_) | (show Need _ _; first | refine Need.mk (by first | omega | (simp only [strMost, mostRows, rS_len, rI_len, List.length_append, List.length_map, List.length_set, List.length_replicate, List.length_cons, List.length_nil, List.length_drop, List.length_take, letterL_len, upL_len, pathL_len, clearL_len, fillL_len, markL_len, setL_len, fillI_len, markIL_len]; done) | (simp only [strMost, mostRows, rS_len, rI_len, List.length_append, List.length_map, List.length_set, List.length_replicate, List.length_cons, List.length_nil, List.length_drop, List.length_take, letterL_len, upL_len, pathL_len, clearL_len, fillL_len, markL_len, setL_len, fillI_len, markIL_len] at *; omega) | (simp at *; omega) | fail) ?_) | (show CallW _ _ _ _; first | refine CallW.mk _ (l4In_ct _ _ (by first | omega | (simp only [strMost, mostRows, rS_len, rI_len, List.length_append, List.length_map, List.length_set, List.length_replicate, List.length_cons, List.length_nil, List.length_drop, List.length_take, letterL_len, upL_len, pathL_len, clearL_len, fillL_len, markL_len, setL_len, fillI_len, markIL_len]; done) | (simp only [strMost, mostRows, rS_len, rI_len, List.length_append, List.length_map, List.length_set, List.length_replicate, List.length_cons, List.length_nil, List.length_drop, List.length_take, letterL_len, upL_len, pathL_len, clearL_len, fillL_len, markL_len, setL_len, fillI_len, markIL_len] at *; omega) | (simp at *; omega) | fail)) ?_) | exact EqB.mk rfl))
theorem l6Take_ct (key : List UInt8) (top n m : Int) (l : List Int) (ht : 1 ≤ top ∧ top ≤ 999) (hn : 1 ≤ n ∧ n ≤ 999) (hl : l.length ≤ 900) (hm : (if n > top then n else top) = m) (hno : hasI l n = false) (hn8 : top - 8 < n) :
    Ct Tryd.prog 84 [bW key top l, bI n] (.tup [oW key m (restS n m false l) none, bB true]) := by
  have hm1 : -1000 ≤ m ∧ m ≤ 2000 := by rw [← hm]; split <;> omega
  have hl2 : l.length ≤ 1000 := by omega
  refine Ct.z wd Tryd.func84 rfl rfl Tryd.ntmps84 rfl rfl rfl rfl ?_
  repeat' ((conv => whnf); (first | (refine hK _ _ _ ?_; clear hK K) | (show Z _ _ _ _ _ _ _ _; first | refine Z.reg wd (fun K hK => ?_) | refine Z.draw2 wd rfl (fun K hK => ?_) | refine Z.seq ?_ | refine Z.skip ?_ | refine Z.cond (E := Ee) ?_ | refine Z.ret rfl ?_) | (show IfB _ _ _; first | refine IfB.F rfl ?_ | refine IfB.F (by assumption) ?_ | refine IfB.DF (by first | assumption | omega | (simp; done) | fail) ?_) | (show Need _ _; first | refine Need.mk (by kernel_rfl) ?_ | refine Need.mk (by first | omega | (simp only [strMost, mostRows, rS_len, rI_len, List.length_append, List.length_map, List.length_set, List.length_replicate, List.length_cons, List.length_nil, List.length_drop, List.length_take, letterL_len, upL_len, pathL_len, clearL_len, fillL_len, markL_len, setL_len, fillI_len, markIL_len]; done) | (simp only [strMost, mostRows, rS_len, rI_len, List.length_append, List.length_map, List.length_set, List.length_replicate, List.length_cons, List.length_nil, List.length_drop, List.length_take, letterL_len, upL_len, pathL_len, clearL_len, fillL_len, markL_len, setL_len, fillI_len, markIL_len] at *; omega) | (simp at *; omega) | fail) ?_) | (show CallW _ _ _ _; first | refine CallW.mk _ (l4In_ct _ _ (by first | omega | (simp only [strMost, mostRows, rS_len, rI_len, List.length_append, List.length_map, List.length_set, List.length_replicate, List.length_cons, List.length_nil, List.length_drop, List.length_take, letterL_len, upL_len, pathL_len, clearL_len, fillL_len, markL_len, setL_len, fillI_len, markIL_len]; done) | (simp only [strMost, mostRows, rS_len, rI_len, List.length_append, List.length_map, List.length_set, List.length_replicate, List.length_cons, List.length_nil, List.length_drop, List.length_take, letterL_len, upL_len, pathL_len, clearL_len, fillL_len, markL_len, setL_len, fillI_len, markIL_len] at *; omega) | (simp at *; omega) | fail)) ?_) | (show CallD _ _ _ _ _; first | refine CallD.mk _ (l6Seen_ct _ _ _ (by assumption) (by omega)) (by first | ((repeat' (first | exact trivial | exact fun _ => rfl | refine And.intro ?_ ?_ | (intro e; first | (simp at e; done) | (simp at e; omega)) | fail)); done) | fail) ?_) | (show Calc _ _; first | refine Calc.mk _ (vw_all _) ?_ | refine Calc.mk _ hm ?_) | exact EqB.mk rfl))
end Go.Proofs.YtfokmnafgabdiaaDoor.Eng
