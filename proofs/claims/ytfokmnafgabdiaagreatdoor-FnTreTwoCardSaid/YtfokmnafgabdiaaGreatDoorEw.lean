/- Merged: T2, T3. -/
import Derived.Test.YtfokmnafgabdiaaGreatDoorEv
namespace Go.Proofs.YtfokmnafgabdiaaGreatDoor.Eng
open Go Go.RowKit Kw
set_option linter.unusedVariables false
set_option linter.unusedSimpArgs false
set_option maxRecDepth 10000
set_option maxHeartbeats 4000000
attribute [local irreducible] Ct HCt
theorem bytes_ok {w : World} {a : Option Addr} {len cap : Nat} {zs : List Int} (h : ByteRow w a len cap zs) : (∀ x ∈ zs.take len, 0 ≤ x ∧ x < 256) ∧ (zs.take len).length ≤ 9223372036854775807 := by
  rcases h with ⟨_, _, _, rfl⟩ | ⟨x, _, hl, hm, hz, _, hwf⟩
  · simp
  · refine ⟨fun x hx => ?_, ?_⟩
    · have := hwf x (List.mem_of_mem_take hx)
      have e1 : IntKind.u8.min = 0 := by decide
      have e2 : IntKind.u8.max = 255 := by decide
      simp only [Lit.wf, Bool.and_eq_true, decide_eq_true_eq, e1, e2] at this
      omega
    · have : maxLen = 9223372036854775807 := rfl
      rw [List.length_take]; omega
theorem okA1 : okS [65, 49, 59] = true := by decide +kernel
theorem keOk_ct : Ct Tryz.prog 11 [] (.w (bB true)) := by
  have e := okA1
  refine Ct.z wd Tryz.func11 rfl rfl Tryz.ntmps11 rfl rfl rfl rfl ?_
  repeat' ((conv => whnf); (first | (refine hK _ _ _ ?_; clear hK K) | (show Z _ _ _ _ _ _ _ _; first | refine Z.reg wd (fun K hK => ?_) | refine Z.seq ?_ | refine Z.ret rfl ?_) | (show CallW _ _ _ _; first | refine CallW.mk _ (secOk_ct _) ?_) | refine EqB.mk ?_))
  all_goals (first | (rw [e]; done) | skip)
theorem keTexts_ct (a : List (List UInt8)) (hl : a.length ≤ mostRows) : Ct Tryz.prog 9 [bSs a, bSs a] (.w (bB true)) := by
  simp only [mostRows] at hl
  refine Ct.z wd Tryz.func9 rfl rfl Tryz.ntmps9 rfl rfl rfl rfl ?_
  repeat' ((conv => whnf); (first | (refine hK _ _ _ ?_; clear hK K) | (show Z _ _ _ _ _ _ _ _; first | refine Z.reg wd (fun K hK => ?_) | refine Z.seq ?_ | refine Z.skip ?_ | refine Z.cond (E := Ee) ?_ | refine Z.block ?_) | (show IfB _ _ _; first | refine IfB.DF (by first | assumption | omega | (simp; done) | fail) ?_) | (show Calc _ _; first | refine Calc.mk _ (rS_len _) ?_)))
  refine Z.loopK2 [0, 1, 5] ?_; (conv => whnf); refine LoopZ.mk (α := Nat) (fun i => [(5, vI i)]) (fun i => []) (fun i => i ≤ a.length) (fun i => a.length - i) 0 rfl rfl (by omega) ?_; intro nF i hI next; refine Z.force ?_
  by_cases hn : i < a.length
  · obtain ⟨x, hs⟩ : ∃ x, a[i]? = some x := ⟨_, List.getElem?_eq_getElem hn⟩
    repeat' ((conv => whnf); (first | (refine hK _ _ _ ?_; clear hK K) | (show Z _ _ _ _ _ _ _ _; first | refine Z.reg wd (fun K hK => ?_) | refine Z.draw2 wd rfl (fun K hK => ?_) | refine Z.seq ?_ | refine Z.skip ?_ | refine Z.cond (E := Ee) ?_ | refine Z.block ?_ | refine Z.blockEnd ?_) | (show IfB _ _ _; first | refine IfB.DT (by first | assumption | omega | (simp; done) | fail) ?_ | refine IfB.DF (by first | assumption | omega | (simp; done) | fail) ?_) | (show Need _ _; first | refine Need.mk (by kernel_rfl) ?_ | refine Need.mk (by first | omega | (simp only [strMost, mostRows, rS_len, rI_len, List.length_append, List.length_map, List.length_set, List.length_replicate, List.length_cons, List.length_nil, List.length_drop, List.length_take, letterL_len, upL_len, pathL_len, clearL_len, setL_len, bR_len]; done) | (simp only [strMost, mostRows, rS_len, rI_len, List.length_append, List.length_map, List.length_set, List.length_replicate, List.length_cons, List.length_nil, List.length_drop, List.length_take, letterL_len, upL_len, pathL_len, clearL_len, setL_len, bR_len] at *; omega) | (simp at *; omega) | fail) ?_) | (show Find _ _; first | refine Find.mk _ (rS_get (by assumption)) ?_) | (show Calc _ _; first | refine Calc.mk _ (rS_len _) ?_)))
    (refine Z.next2 (next (i + 1) (by omega) (by omega)) ?_; (conv => whnf); exact ⟨rfl, rfl, rfl⟩)
  · repeat' ((conv => whnf); (first | (refine hK _ _ _ ?_; clear hK K) | (show Z _ _ _ _ _ _ _ _; first | refine Z.reg wd (fun K hK => ?_) | refine Z.seq ?_ | refine Z.cond (E := Ee) ?_ | refine Z.ret rfl ?_ | refine Z.exit rfl ?_) | (show IfB _ _ _; first | refine IfB.DF (by first | assumption | omega | (simp; done) | fail) ?_) | (show Calc _ _; first | refine Calc.mk _ (rS_len _) ?_) | exact EqB.mk rfl))
def inI (l : List Int) (m : Int) : Bool := decide (m ∈ l)
theorem inI_step {l : List Int} {m : Int} {i : Nat} {x : Int} (h : l[i]? = some x) : inI (l.drop i) m = (decide (x = m) || inI (l.drop (i + 1)) m) := by
  have hi : i < l.length := (List.getElem?_eq_some_iff.mp h).1
  have hs : l[i] = x := (List.getElem?_eq_some_iff.mp h).2
  unfold inI
  rw [List.drop_eq_getElem_cons hi, hs]
  by_cases e : x = m
  · subst e; simp
  · simp [e, Ne.symm e]
theorem inI_end {l : List Int} {m : Int} {i : Nat} (h : l.length ≤ i) : inI (l.drop i) m = false := by
  unfold inI; rw [List.drop_eq_nil_of_le h]; simp
theorem inI_iff {l : List Int} {m : Int} : inI l m = true ↔ m ∈ l := by unfold inI; simp
theorem inI_no {l : List Int} {m : Int} : inI l m = false ↔ ¬ m ∈ l := by unfold inI; simp
attribute [irreducible] inI
theorem keIn_ct (l : List Int) (m : Int) (hl : l.length ≤ mostRows) : Ct Tryz.prog 14 [bIs l, bI m] (.w (bB (inI l m))) := by
  simp only [mostRows] at hl
  refine Ct.z wd Tryz.func14 rfl rfl Tryz.ntmps14 rfl rfl rfl rfl ?_
  repeat' ((conv => whnf); (first | (refine hK _ _ _ ?_; clear hK K) | (show Z _ _ _ _ _ _ _ _; first | refine Z.reg wd (fun K hK => ?_) | refine Z.seq ?_ | refine Z.block ?_)))
  refine Z.loopK2 [0, 1, 5] ?_; (conv => whnf); refine LoopZ.mk (α := Nat) (fun i => [(5, vI i)]) (fun i => []) (fun i => i ≤ l.length ∧ inI l m = inI (l.drop i) m) (fun i => l.length - i) 0 rfl rfl (by exact ⟨by omega, rfl⟩) ?_; intro nF i hI next; refine Z.force ?_
  obtain ⟨h1, h2⟩ := hI
  by_cases hlt : i < l.length
  · obtain ⟨x, hx⟩ : ∃ x, l[i]? = some x := ⟨_, List.getElem?_eq_getElem hlt⟩
    rw [inI_step hx] at h2
    by_cases e : x = m
    · rw [decide_eq_true e, Bool.true_or] at h2
      rw [h2]
      repeat' ((conv => whnf); (first | (refine hK _ _ _ ?_; clear hK K) | (show Z _ _ _ _ _ _ _ _; first | refine Z.reg wd (fun K hK => ?_) | refine Z.seq ?_ | refine Z.skip ?_ | refine Z.cond (E := Ee) ?_ | refine Z.ret rfl ?_ | refine Z.block ?_) | (show IfB _ _ _; first | refine IfB.DT (by first | assumption | omega | (simp; done) | fail) ?_) | (show Need _ _; first | refine Need.mk (by first | omega | (simp only [strMost, mostRows, rS_len, rI_len, List.length_append, List.length_map, List.length_set, List.length_replicate, List.length_cons, List.length_nil, List.length_drop, List.length_take, letterL_len, upL_len, pathL_len, clearL_len, setL_len, bR_len]; done) | (simp only [strMost, mostRows, rS_len, rI_len, List.length_append, List.length_map, List.length_set, List.length_replicate, List.length_cons, List.length_nil, List.length_drop, List.length_take, letterL_len, upL_len, pathL_len, clearL_len, setL_len, bR_len] at *; omega) | (simp at *; omega) | fail) ?_) | (show Find _ _; first | refine Find.mk _ (rI_get (by assumption)) ?_) | (show Calc _ _; first | refine Calc.mk _ (rI_len _) ?_) | exact EqB.mk rfl))
    · rw [decide_eq_false e, Bool.false_or] at h2
      repeat' ((conv => whnf); (first | (refine hK _ _ _ ?_; clear hK K) | (show Z _ _ _ _ _ _ _ _; first | refine Z.reg wd (fun K hK => ?_) | refine Z.seq ?_ | refine Z.skip ?_ | refine Z.cond (E := Ee) ?_ | refine Z.block ?_ | refine Z.blockEnd ?_) | (show IfB _ _ _; first | refine IfB.DT (by first | assumption | omega | (simp; done) | fail) ?_ | refine IfB.DF (by first | assumption | omega | (simp; done) | fail) ?_) | (show Need _ _; first | refine Need.mk (by first | omega | (simp only [strMost, mostRows, rS_len, rI_len, List.length_append, List.length_map, List.length_set, List.length_replicate, List.length_cons, List.length_nil, List.length_drop, List.length_take, letterL_len, upL_len, pathL_len, clearL_len, setL_len, bR_len]; done) | (simp only [strMost, mostRows, rS_len, rI_len, List.length_append, List.length_map, List.length_set, List.length_replicate, List.length_cons, List.length_nil, List.length_drop, List.length_take, letterL_len, upL_len, pathL_len, clearL_len, setL_len, bR_len] at *; omega) | (simp at *; omega) | fail) ?_) | (show Find _ _; first | refine Find.mk _ (rI_get (by assumption)) ?_) | (show Calc _ _; first | refine Calc.mk _ (rI_len _) ?_)))
      (refine Z.next2 (next (i + 1) (by exact ⟨by omega, h2⟩) (by omega)) ?_; (conv => whnf); exact ⟨rfl, rfl, rfl⟩)
  · rw [inI_end (i := i) (by omega)] at h2
    rw [h2]
    repeat' ((conv => whnf); (first | (refine hK _ _ _ ?_; clear hK K) | (show Z _ _ _ _ _ _ _ _; first | refine Z.reg wd (fun K hK => ?_) | refine Z.seq ?_ | refine Z.cond (E := Ee) ?_ | refine Z.ret rfl ?_ | refine Z.exit rfl ?_) | (show IfB _ _ _; first | refine IfB.DF (by first | assumption | omega | (simp; done) | fail) ?_) | (show Calc _ _; first | refine Calc.mk _ (rI_len _) ?_) | exact EqB.mk rfl))
theorem path_iff {who : Int} {k : Nat} : (k : Int) ∈ pathL who ↔ (k : Int) = 7 + who ∨ (k : Int) = (7 + who - 1) / 2 ∨ (k : Int) = ((7 + who - 1) / 2 - 1) / 2 ∨ (k : Int) = 0 := by
  simp only [pathL, upL, List.mem_cons, List.not_mem_nil, or_false]
theorem setL_out {l : List (List UInt8)} {who : Int} {s : List UInt8} {k : Nat} (hw : 0 ≤ who ∧ who ≤ 7) (h : ¬ (k : Int) ∈ pathL who) : (setL l who s)[k]? = l[k]? := by
  rw [path_iff] at h
  unfold setL
  rw [List.getElem?_set_ne (by omega), List.getElem?_set_ne (by omega), List.getElem?_set_ne (by omega), List.getElem?_set_ne (by omega)]
theorem setL_in {l r : List (List UInt8)} {who : Int} {s : List UInt8} {k : Nat} (hl : l.length = r.length) (hw : 0 ≤ who ∧ who ≤ 7) (h : (k : Int) ∈ pathL who) : (setL l who s)[k]? = (setL r who s)[k]? := by
  rw [path_iff] at h
  unfold setL
  simp only [List.getElem?_set, List.length_set, hl]
  by_cases h0 : (0 : Int).toNat = k
  · rw [if_pos h0, if_pos h0]
  rw [if_neg h0, if_neg h0]
  by_cases h1 : (((7 + who - 1) / 2 - 1) / 2).toNat = k
  · rw [if_pos h1, if_pos h1]
  rw [if_neg h1, if_neg h1]
  by_cases h2 : ((7 + who - 1) / 2).toNat = k
  · rw [if_pos h2, if_pos h2]
  have h3 : (7 + who).toNat = k := by omega
  rw [if_neg h2, if_neg h2, if_pos h3, if_pos h3]
def setR (t : List (List UInt8)) (who : Int) (s : List UInt8) : List (List UInt8) := if okT t = true ∧ (0 ≤ who ∧ who ≤ 7) ∧ shortS s = true then setL t who s else []
theorem setR_no {t : List (List UInt8)} {who : Int} {s : List UInt8} (h : ¬ (okT t = true ∧ (0 ≤ who ∧ who ≤ 7) ∧ shortS s = true)) : okT t = false ∨ ¬ (0 ≤ who ∧ who ≤ 7) ∨ shortS s = false := by
  cases e : okT t with
  | false => exact .inl rfl
  | true =>
    by_cases hw : 0 ≤ who ∧ who ≤ 7
    · cases e2 : shortS s with
      | false => exact .inr (.inr rfl)
      | true => exact absurd ⟨e, hw, e2⟩ h
    · exact .inr (.inl hw)
theorem rSet_ct (t : List (List UInt8)) (who : Int) (s : List UInt8) (hl : t.length ≤ mostRows) : Ct Tryz.prog 8 [bT t, bI who, bS s] (.w (bT (setR t who s))) := by
  unfold setR
  split
  · rename_i h; exact (treSet_ct t who s h.1 h.2.1 h.2.2).toRo rfl rfl
  · rename_i h; exact (treSetNo_ct t who s hl (setR_no h)).toRo rfl rfl
theorem sSet_ct (t : List (List UInt8)) (who : Int) (s : List UInt8) (hl : t.length ≤ mostRows) : Ct Tryz.prog 10 [bT t, bI who, bS s] (.w (bT (setR t who s))) := by
  unfold setR
  split
  · rename_i h; exact (sTreSet_ct t who s h.1 h.2.1 h.2.2).toRo rfl rfl
  · rename_i h; exact (sTreSetNo_ct t who s hl (setR_no h)).toRo rfl rfl
theorem setR_le (t : List (List UInt8)) (who : Int) (s : List UInt8) : (setR t who s).length = 0 ∨ ((setR t who s).length = 15 ∧ setR t who s = setL t who s ∧ okT t = true ∧ (0 ≤ who ∧ who ≤ 7) ∧ shortS s = true) := by
  unfold setR
  split
  · rename_i h; exact .inr ⟨by rw [setL_len, okT_len h.1], rfl, h⟩
  · exact .inl rfl
theorem setR_yes {t : List (List UInt8)} {who : Int} {s : List UInt8} (h1 : okT t = true) (h2 : 0 ≤ who ∧ who ≤ 7) (h3 : shortS s = true) : setR t who s = setL t who s := by unfold setR; rw [if_pos ⟨h1, h2, h3⟩]
attribute [irreducible] setR
def unS (r : List (List C)) : List (List UInt8) := r.map fun x => match x with | [.lit (.string s)] => s.data.toList | _ => []
theorem unS_rS (a : List (List UInt8)) : unS (rS a) = a := by
  induction a with
  | nil => rfl
  | cons x a ih =>
    show x :: unS (rS a) = _
    rw [ih]
theorem set_fresh (t X : List (List UInt8)) (a b : Int) (s u : List UInt8) (hX : setR t a s = X) (e : ([bT t, bI a, bS s] : List BW) = [bT X, bI b, bS u]) : BV.w (bT X) = BV.w (bT (setR X b u)) := by
  have h1 : unS (rS t) = unS (rS X) := congrArg (fun l : List BW => match l with | (.agg [.b (.c (.ro _ r))]) :: _ => unS r | _ => []) e
  have h2 : a = b := congrArg (fun l : List BW => match l with | _ :: (.one (.b (.c (.lit (.int _ n))))) :: _ => n | _ => 0) e
  have h3 : s = u := congrArg (fun l : List BW => match l with | _ :: _ :: (.one (.b (.c (.lit (.string q))))) :: _ => q.data.toList | _ => []) e
  rw [unS_rS, unS_rS] at h1
  subst h1 h2 h3
  rw [hX]
theorem rI_cons (a : Int) (l : List Int) : [[C.lit (.int .i64 a)]] ++ rI l = rI (a :: l) := rfl
end Go.Proofs.YtfokmnafgabdiaaGreatDoor.Eng
namespace Go.Proofs.YtfokmnafgabdiaaGreatDoor.Eng
open Go Go.RowKit Kw
set_option linter.unusedVariables false
set_option linter.unusedSimpArgs false
set_option maxRecDepth 10000
set_option maxHeartbeats 4000000
attribute [local irreducible] Ct HCt
theorem fnTreTwo_ct (z y : List Int) (hz : ∀ x ∈ z, 0 ≤ x ∧ x < 256) (hy : ∀ x ∈ y, 0 ≤ x ∧ x < 256) (hz2 : z.length ≤ 9223372036854775807) (hy2 : y.length ≤ 9223372036854775807) : Ct Tryz.prog 3 [bZ z, bZ y] (.w (bB true)) := by
  by_cases hzl : (z.length : Int) > 1048576
  case pos =>
    refine Ct.z wd Tryz.func3 rfl rfl Tryz.ntmps3 rfl rfl rfl rfl ?_
    repeat' ((conv => whnf); (first | (refine hK _ _ _ ?_; clear hK K) | (show Z _ _ _ _ _ _ _ _; first | refine Z.reg wd (fun K hK => ?_) | refine Z.seq ?_ | refine Z.cond (E := Ee) ?_ | refine Z.ret rfl ?_) | (show IfB _ _ _; first | refine IfB.T rfl ?_ | refine IfB.DT (by first | assumption | omega | (simp; done) | fail) ?_) | (show Calc _ _; first | refine Calc.mk _ (bR_len _) ?_) | exact EqB.mk rfl))
  by_cases hyl : (y.length : Int) > 1048576
  case pos =>
    refine Ct.z wd Tryz.func3 rfl rfl Tryz.ntmps3 rfl rfl rfl rfl ?_
    repeat' ((conv => whnf); (first | (refine hK _ _ _ ?_; clear hK K) | (show Z _ _ _ _ _ _ _ _; first | refine Z.reg wd (fun K hK => ?_) | refine Z.seq ?_ | refine Z.cond (E := Ee) ?_ | refine Z.ret rfl ?_) | (show IfB _ _ _; first | refine IfB.F rfl ?_ | refine IfB.DT (by first | assumption | omega | (simp; done) | fail) ?_ | refine IfB.DF (by first | assumption | omega | (simp; done) | fail) ?_) | (show Calc _ _; first | refine Calc.mk _ (bR_len _) ?_) | exact EqB.mk rfl))
  obtain ⟨t, a, s, hd1, t1, t2, t3⟩ := drawTreSet_ex z hz (by simp only [mostRows]; omega)
  obtain ⟨t', b, u, hd2, u1, u2, u3⟩ := drawTreSet_ex y hy (by simp only [mostRows]; omega)
  have hfr := set_fresh t _ a b s u rfl
  have hX := setR_le t a s
  have hXl : (setR t a s).length ≤ 15 := by omega
  have hY := setR_le (setR t a s) b u
  have hYl : (setR (setR t a s) b u).length ≤ 15 := by omega
  by_cases h0 : (setR (setR t a s) b u).length = 0
  case pos =>
    have hr := rS_len (setR (setR t a s) b u)
    refine Ct.z wd Tryz.func3 rfl rfl Tryz.ntmps3 rfl rfl rfl rfl ?_
    repeat' ((conv => whnf); (first | (refine hK _ _ _ ?_; clear hK K) | (show Z _ _ _ _ _ _ _ _; first | refine Z.reg wd (fun K hK => ?_) | refine Z.draw2 wd rfl (fun K hK => ?_) | refine Z.seq ?_ | refine Z.skip ?_ | refine Z.cond (E := Ee) ?_ | refine Z.ret rfl ?_) | (show IfB _ _ _; first | refine IfB.F rfl ?_ | refine IfB.DT (by first | assumption | omega | (simp; done) | fail) ?_ | refine IfB.DF (by first | assumption | omega | (simp; done) | fail) ?_) | (show Need _ _; first | refine Need.mk (by kernel_rfl) ?_) | (show CallW _ _ _ _; first | refine CallW.mk _ hd2 ?_ | refine CallW.mk _ hd1 ?_ | refine CallW.mk _ (rSet_ct _ _ _ (by first | omega | (simp only [strMost, mostRows, rS_len, rI_len, List.length_append, List.length_map, List.length_set, List.length_replicate, List.length_cons, List.length_nil, List.length_drop, List.length_take, letterL_len, upL_len, pathL_len, clearL_len, setL_len, bR_len]; done) | (simp only [strMost, mostRows, rS_len, rI_len, List.length_append, List.length_map, List.length_set, List.length_replicate, List.length_cons, List.length_nil, List.length_drop, List.length_take, letterL_len, upL_len, pathL_len, clearL_len, setL_len, bR_len] at *; omega) | (simp at *; omega) | fail)) ?_ | refine CallW.mk _ keOk_ct ?_) | (show CallD _ _ _ _ _; first | refine CallD.mk _ (sSet_ct _ _ _ (by first | omega | (simp only [strMost, mostRows, rS_len, rI_len, List.length_append, List.length_map, List.length_set, List.length_replicate, List.length_cons, List.length_nil, List.length_drop, List.length_take, letterL_len, upL_len, pathL_len, clearL_len, setL_len, bR_len]; done) | (simp only [strMost, mostRows, rS_len, rI_len, List.length_append, List.length_map, List.length_set, List.length_replicate, List.length_cons, List.length_nil, List.length_drop, List.length_take, letterL_len, upL_len, pathL_len, clearL_len, setL_len, bR_len] at *; omega) | (simp at *; omega) | fail)) (by first | ((repeat' (first | exact trivial | assumption |  exact fun _ => rfl | refine And.intro ?_ ?_ | (intro e; first | (simp at e; done) | (simp at e; omega)) | fail)); done) | fail) ?_ | refine CallD.mk _ (keTexts_ct _ (by first | omega | (simp only [strMost, mostRows, rS_len, rI_len, List.length_append, List.length_map, List.length_set, List.length_replicate, List.length_cons, List.length_nil, List.length_drop, List.length_take, letterL_len, upL_len, pathL_len, clearL_len, setL_len, bR_len]; done) | (simp only [strMost, mostRows, rS_len, rI_len, List.length_append, List.length_map, List.length_set, List.length_replicate, List.length_cons, List.length_nil, List.length_drop, List.length_take, letterL_len, upL_len, pathL_len, clearL_len, setL_len, bR_len] at *; omega) | (simp at *; omega) | fail)) (by first | ((repeat' (first | exact trivial | assumption |  exact fun _ => rfl | refine And.intro ?_ ?_ | (intro e; first | (simp at e; done) | (simp at e; omega)) | fail)); done) | fail) ?_) | (show Calc _ _; first | refine Calc.mk _ (bR_len _) ?_ | refine Calc.mk _ (rS_len _) ?_) | exact EqB.mk rfl))
  obtain ⟨y1, y2, y3, y4, y5⟩ := hY.resolve_left h0
  have hX15 := okT_len y3
  obtain ⟨x1, x2, x3, x4, x5⟩ := hX.resolve_left (by omega)
  have ht15 := okT_len x3
  have hlf : Ct Tryz.prog 12 [bI b] (.w (bI (7 + b))) := by
    have h := treLeaf_ct b
    rwa [leafOr, if_pos y4] at h
  have hZ := setR_yes x3 y4 y5
  have hZl : (setR t b u).length = 15 := by rw [hZ, setL_len, ht15]
  have hin : ∀ k : Nat, (k : Int) ∈ pathL b → (setR (setR t a s) b u)[k]? = (setR t b u)[k]? := fun k hk => by
    rw [y2, hZ]; exact setL_in (by omega) y4 hk
  have hout : ∀ k : Nat, ¬ (k : Int) ∈ pathL b → (setR (setR t a s) b u)[k]? = (setR t a s)[k]? := fun k hk => by
    rw [y2]; exact setL_out y4 hk
  refine Ct.z wd Tryz.func3 rfl rfl Tryz.ntmps3 rfl rfl rfl rfl ?_
  repeat' ((conv => whnf); (first | (refine hK _ _ _ ?_; clear hK K) | (show Z _ _ _ _ _ _ _ _; first | refine Z.reg wd (fun K hK => ?_) | refine Z.draw2 wd rfl (fun K hK => ?_) | refine Z.seq ?_ | refine Z.skip ?_ | refine Z.cond (E := Ee) ?_ | refine Z.block ?_) | (show IfB _ _ _; first | refine IfB.F rfl ?_ | refine IfB.DF (by first | assumption | omega | (simp; done) | fail) ?_) | (show Need _ _; first | refine Need.mk (by kernel_rfl) ?_ | refine Need.mk ⟨(by first | rfl | assumption | (simp only [rS_len, rI_len, List.length_append, List.length_map, List.length_set, List.length_replicate, List.length_cons, List.length_nil, Nat.zero_add, letterL_len, upL_len, pathL_len, clearL_len, setL_len, bR_len]; done) | omega | (simp only [rS_len, rI_len, List.length_append, List.length_map, List.length_set, List.length_replicate, List.length_cons, List.length_nil, List.length_drop, List.length_take, letterL_len, upL_len, pathL_len, clearL_len, setL_len, bR_len] at *; omega) | fail), (by first | omega | (simp only [strMost, mostRows, rS_len, rI_len, List.length_append, List.length_map, List.length_set, List.length_replicate, List.length_cons, List.length_nil, List.length_drop, List.length_take, letterL_len, upL_len, pathL_len, clearL_len, setL_len, bR_len]; done) | (simp only [strMost, mostRows, rS_len, rI_len, List.length_append, List.length_map, List.length_set, List.length_replicate, List.length_cons, List.length_nil, List.length_drop, List.length_take, letterL_len, upL_len, pathL_len, clearL_len, setL_len, bR_len] at *; omega) | (simp at *; omega) | fail)⟩ ?_) | (show CallW _ _ _ _; first | refine CallW.mk _ hd2 ?_ | refine CallW.mk _ hd1 ?_ | refine CallW.mk _ (rSet_ct _ _ _ (by first | omega | (simp only [strMost, mostRows, rS_len, rI_len, List.length_append, List.length_map, List.length_set, List.length_replicate, List.length_cons, List.length_nil, List.length_drop, List.length_take, letterL_len, upL_len, pathL_len, clearL_len, setL_len, bR_len]; done) | (simp only [strMost, mostRows, rS_len, rI_len, List.length_append, List.length_map, List.length_set, List.length_replicate, List.length_cons, List.length_nil, List.length_drop, List.length_take, letterL_len, upL_len, pathL_len, clearL_len, setL_len, bR_len] at *; omega) | (simp at *; omega) | fail)) ?_ | refine CallW.mk _ hlf ?_ | refine CallW.mk _ (treUp_ct _ (by omega)) ?_) | (show CallD _ _ _ _ _; first | refine CallD.mk _ (sSet_ct _ _ _ (by first | omega | (simp only [strMost, mostRows, rS_len, rI_len, List.length_append, List.length_map, List.length_set, List.length_replicate, List.length_cons, List.length_nil, List.length_drop, List.length_take, letterL_len, upL_len, pathL_len, clearL_len, setL_len, bR_len]; done) | (simp only [strMost, mostRows, rS_len, rI_len, List.length_append, List.length_map, List.length_set, List.length_replicate, List.length_cons, List.length_nil, List.length_drop, List.length_take, letterL_len, upL_len, pathL_len, clearL_len, setL_len, bR_len] at *; omega) | (simp at *; omega) | fail)) (by first | ((repeat' (first | exact trivial | assumption |  exact fun _ => rfl | refine And.intro ?_ ?_ | (intro e; first | (simp at e; done) | (simp at e; omega)) | fail)); done) | fail) ?_ | refine CallD.mk _ (keTexts_ct _ (by first | omega | (simp only [strMost, mostRows, rS_len, rI_len, List.length_append, List.length_map, List.length_set, List.length_replicate, List.length_cons, List.length_nil, List.length_drop, List.length_take, letterL_len, upL_len, pathL_len, clearL_len, setL_len, bR_len]; done) | (simp only [strMost, mostRows, rS_len, rI_len, List.length_append, List.length_map, List.length_set, List.length_replicate, List.length_cons, List.length_nil, List.length_drop, List.length_take, letterL_len, upL_len, pathL_len, clearL_len, setL_len, bR_len] at *; omega) | (simp at *; omega) | fail)) (by first | ((repeat' (first | exact trivial | assumption |  exact fun _ => rfl | refine And.intro ?_ ?_ | (intro e; first | (simp at e; done) | (simp at e; omega)) | fail)); done) | fail) ?_) | (show Calc _ _; first | refine Calc.mk _ (vw_all _) ?_ | refine Calc.mk _ (rI_cons _ _) ?_ | refine Calc.mk _ (bR_len _) ?_ | refine Calc.mk _ (rS_len _) ?_)))
  refine Z.loopK2 [11, 12, 13, 14, 15] ?_; (conv => whnf); refine LoopZ.mk (α := Nat) (fun k => [(15, vI k)]) (fun k => []) (fun k => k ≤ 15) (fun k => 15 - k) 0 rfl rfl (by omega) ?_; intro nF k hI next; refine Z.force ?_
  by_cases hlt : k < 15
  · have hki := keIn_ct (pathL b) k (by rw [pathL_len]; decide)
    obtain ⟨e1, h1⟩ : ∃ x, (setR t a s)[k]? = some x := ⟨_, List.getElem?_eq_getElem (by omega)⟩
    obtain ⟨e2, h2⟩ : ∃ x, (setR t b u)[k]? = some x := ⟨_, List.getElem?_eq_getElem (by omega)⟩
    obtain ⟨e3, h3⟩ : ∃ x, (setR (setR t a s) b u)[k]? = some x := ⟨_, List.getElem?_eq_getElem (by omega)⟩
    cases e : inI (pathL b) k with
    | true =>
      rw [e] at hki
      have := hin k (inI_iff.1 e)
      rw [h3, h2] at this
      obtain rfl := Option.some.inj this
      repeat' ((conv => whnf); (first | (refine hK _ _ _ ?_; clear hK K) | (show Z _ _ _ _ _ _ _ _; first | refine Z.reg wd (fun K hK => ?_) | refine Z.seq ?_ | refine Z.skip ?_ | refine Z.cond (E := Ee) ?_ | refine Z.block ?_ | refine Z.blockEnd ?_) | (show IfB _ _ _; first | refine IfB.T rfl ?_ | refine IfB.DT (by first | assumption | omega | (simp; done) | fail) ?_ | refine IfB.DF (by first | assumption | omega | (simp; done) | fail) ?_) | (show Need _ _; first | refine Need.mk ⟨by first | (simp only [BV.untie, BW.untie, B1.untie, B0.untie, untie_rI, untie_rS, List.map_cons, List.map_nil]; done) | (simp only [BV.untie, BW.untie, B1.untie, B0.untie, untie_rI, untie_rS, List.map_cons, List.map_nil]; rfl) | fail, rfl⟩ ?_ | refine Need.mk (by first | omega | (simp only [strMost, mostRows, rS_len, rI_len, List.length_append, List.length_map, List.length_set, List.length_replicate, List.length_cons, List.length_nil, List.length_drop, List.length_take, letterL_len, upL_len, pathL_len, clearL_len, setL_len, bR_len]; done) | (simp only [strMost, mostRows, rS_len, rI_len, List.length_append, List.length_map, List.length_set, List.length_replicate, List.length_cons, List.length_nil, List.length_drop, List.length_take, letterL_len, upL_len, pathL_len, clearL_len, setL_len, bR_len] at *; omega) | (simp at *; omega) | fail) ?_) | (show CallW _ _ _ _; first | refine CallW.mk _ hki ?_) | (show Find _ _; first | refine Find.mk _ (rS_get (by assumption)) ?_) | (show Calc _ _; first | refine Calc.mk _ (vw_all _) ?_)))
      (refine Z.next2 (next (k + 1) (by omega) (by omega)) ?_; (conv => whnf); exact ⟨rfl, rfl, rfl⟩)
    | false =>
      rw [e] at hki
      have := hout k (inI_no.1 e)
      rw [h3, h1] at this
      obtain rfl := Option.some.inj this
      repeat' ((conv => whnf); (first | (refine hK _ _ _ ?_; clear hK K) | (show Z _ _ _ _ _ _ _ _; first | refine Z.reg wd (fun K hK => ?_) | refine Z.seq ?_ | refine Z.skip ?_ | refine Z.cond (E := Ee) ?_ | refine Z.block ?_ | refine Z.blockEnd ?_) | (show IfB _ _ _; first | refine IfB.F rfl ?_ | refine IfB.DT (by first | assumption | omega | (simp; done) | fail) ?_ | refine IfB.DF (by first | assumption | omega | (simp; done) | fail) ?_) | (show Need _ _; first | refine Need.mk ⟨by first | (simp only [BV.untie, BW.untie, B1.untie, B0.untie, untie_rI, untie_rS, List.map_cons, List.map_nil]; done) | (simp only [BV.untie, BW.untie, B1.untie, B0.untie, untie_rI, untie_rS, List.map_cons, List.map_nil]; rfl) | fail, rfl⟩ ?_ | refine Need.mk (by first | omega | (simp only [strMost, mostRows, rS_len, rI_len, List.length_append, List.length_map, List.length_set, List.length_replicate, List.length_cons, List.length_nil, List.length_drop, List.length_take, letterL_len, upL_len, pathL_len, clearL_len, setL_len, bR_len]; done) | (simp only [strMost, mostRows, rS_len, rI_len, List.length_append, List.length_map, List.length_set, List.length_replicate, List.length_cons, List.length_nil, List.length_drop, List.length_take, letterL_len, upL_len, pathL_len, clearL_len, setL_len, bR_len] at *; omega) | (simp at *; omega) | fail) ?_) | (show CallW _ _ _ _; first | refine CallW.mk _ hki ?_) | (show Find _ _; first | refine Find.mk _ (rS_get (by assumption)) ?_) | (show Calc _ _; first | refine Calc.mk _ (vw_all _) ?_)))
      (refine Z.next2 (next (k + 1) (by omega) (by omega)) ?_; (conv => whnf); exact ⟨rfl, rfl, rfl⟩)
  · repeat' ((conv => whnf); (first | (refine hK _ _ _ ?_; clear hK K) | (show Z _ _ _ _ _ _ _ _; first | refine Z.reg wd (fun K hK => ?_) | refine Z.seq ?_ | refine Z.cond (E := Ee) ?_ | refine Z.ret rfl ?_ | refine Z.exit rfl ?_) | (show IfB _ _ _; first | refine IfB.DF (by first | assumption | omega | (simp; done) | fail) ?_) | exact EqB.mk rfl))
end Go.Proofs.YtfokmnafgabdiaaGreatDoor.Eng
