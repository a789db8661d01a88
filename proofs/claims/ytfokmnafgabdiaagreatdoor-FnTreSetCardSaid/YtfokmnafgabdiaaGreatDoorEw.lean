/- Merged: T2, T3. -/
import Derived.Test.YtfokmnafgabdiaaGreatDoorEv
namespace Go.Proofs.YtfokmnafgabdiaaGreatDoor.Eng
open Go Go.RowKit Kw
set_option linter.unusedVariables false
set_option linter.unusedSimpArgs false
set_option maxRecDepth 10000
set_option maxHeartbeats 4000000
attribute [local irreducible] Ct HCt
theorem bytes_ok {w : World} {a : Option Addr} {len cap : Nat} {zs : List Int} (h : ByteRow w a len cap zs) : (∀ x ∈ zs.take len, 0 ≤ x ∧ x < 256) ∧ (zs.take len).length ≤ 9223372036854775807 := by
  rcases h with ⟨_, _, _, rfl⟩ | ⟨x, _, hl, hm, hz, _, hwf⟩
  · simp
  · refine ⟨fun x hx => ?_, ?_⟩
    · have := hwf x (List.mem_of_mem_take hx)
      have e1 : IntKind.u8.min = 0 := by decide
      have e2 : IntKind.u8.max = 255 := by decide
      simp only [Lit.wf, Bool.and_eq_true, decide_eq_true_eq, e1, e2] at this
      omega
    · have : maxLen = 9223372036854775807 := rfl
      rw [List.length_take]; omega
theorem okA1 : okS [65, 49, 59] = true := by decide +kernel
theorem keOk_ct : Ct Tryz.prog 11 [] (.w (bB true)) := by
  have e := okA1
  refine Ct.z wd Tryz.func11 rfl rfl Tryz.ntmps11 rfl rfl rfl rfl ?_
  repeat' ((conv => whnf); (first | (refine hK _ _ _ ?_; clear hK K) | (show Z _ _ _ _ _ _ _ _; first | refine Z.reg wd (fun K hK => ?_) | refine Z.seq ?_ | refine Z.ret rfl ?_) | (show CallW _ _ _ _; first | refine CallW.mk _ (secOk_ct _) ?_) | refine EqB.mk ?_))
  all_goals (first | (rw [e]; done) | skip)
theorem keTexts_ct (a : List (List UInt8)) (hl : a.length ≤ mostRows) : Ct Tryz.prog 9 [bSs a, bSs a] (.w (bB true)) := by
  simp only [mostRows] at hl
  refine Ct.z wd Tryz.func9 rfl rfl Tryz.ntmps9 rfl rfl rfl rfl ?_
  repeat' ((conv => whnf); (first | (refine hK _ _ _ ?_; clear hK K) | (show Z _ _ _ _ _ _ _ _; first | refine Z.reg wd (fun K hK => ?_) | refine Z.seq ?_ | refine Z.skip ?_ | refine Z.cond (E := Ee) ?_ | refine Z.block ?_) | (show IfB _ _ _; first | refine IfB.DF (by first | assumption | omega | (simp; done) | fail) ?_) | (show Calc _ _; first | refine Calc.mk _ (rS_len _) ?_)))
  refine Z.loopK2 [0, 1, 5] ?_; (conv => whnf); refine LoopZ.mk (α := Nat) (fun i => [(5, vI i)]) (fun i => []) (fun i => i ≤ a.length) (fun i => a.length - i) 0 rfl rfl (by omega) ?_; intro nF i hI next; refine Z.force ?_
  by_cases hn : i < a.length
  · obtain ⟨x, hs⟩ : ∃ x, a[i]? = some x := ⟨_, List.getElem?_eq_getElem hn⟩
    repeat' ((conv => whnf); (first | (refine hK _ _ _ ?_; clear hK K) | (show Z _ _ _ _ _ _ _ _; first | refine Z.reg wd (fun K hK => ?_) | refine Z.draw2 wd rfl (fun K hK => ?_) | refine Z.seq ?_ | refine Z.skip ?_ | refine Z.cond (E := Ee) ?_ | refine Z.block ?_ | refine Z.blockEnd ?_) | (show IfB _ _ _; first | refine IfB.DT (by first | assumption | omega | (simp; done) | fail) ?_ | refine IfB.DF (by first | assumption | omega | (simp; done) | fail) ?_) | (show Need _ _; first | refine Need.mk (by kernel_rfl) ?_ | refine Need.mk (by first | omega | (simp only [strMost, mostRows, rS_len, rI_len, List.length_append, List.length_map, List.length_set, List.length_replicate, List.length_cons, List.length_nil, List.length_drop, List.length_take, letterL_len, upL_len, pathL_len, clearL_len, setL_len, bR_len]; done) | (simp only [strMost, mostRows, rS_len, rI_len, List.length_append, List.length_map, List.length_set, List.length_replicate, List.length_cons, List.length_nil, List.length_drop, List.length_take, letterL_len, upL_len, pathL_len, clearL_len, setL_len, bR_len] at *; omega) | (simp at *; omega) | fail) ?_) | (show Find _ _; first | refine Find.mk _ (rS_get (by assumption)) ?_) | (show Calc _ _; first | refine Calc.mk _ (rS_len _) ?_)))
    (refine Z.next2 (next (i + 1) (by omega) (by omega)) ?_; (conv => whnf); exact ⟨rfl, rfl, rfl⟩)
  · repeat' ((conv => whnf); (first | (refine hK _ _ _ ?_; clear hK K) | (show Z _ _ _ _ _ _ _ _; first | refine Z.reg wd (fun K hK => ?_) | refine Z.seq ?_ | refine Z.cond (E := Ee) ?_ | refine Z.ret rfl ?_ | refine Z.exit rfl ?_) | (show IfB _ _ _; first | refine IfB.DF (by first | assumption | omega | (simp; done) | fail) ?_) | (show Calc _ _; first | refine Calc.mk _ (rS_len _) ?_) | exact EqB.mk rfl))
def inI (l : List Int) (m : Int) : Bool := decide (m ∈ l)
theorem inI_step {l : List Int} {m : Int} {i : Nat} {x : Int} (h : l[i]? = some x) : inI (l.drop i) m = (decide (x = m) || inI (l.drop (i + 1)) m) := by
  have hi : i < l.length := (List.getElem?_eq_some_iff.mp h).1
  have hs : l[i] = x := (List.getElem?_eq_some_iff.mp h).2
  unfold inI
  rw [List.drop_eq_getElem_cons hi, hs]
  by_cases e : x = m
  · subst e; simp
  · simp [e, Ne.symm e]
theorem inI_end {l : List Int} {m : Int} {i : Nat} (h : l.length ≤ i) : inI (l.drop i) m = false := by
  unfold inI; rw [List.drop_eq_nil_of_le h]; simp
theorem inI_iff {l : List Int} {m : Int} : inI l m = true ↔ m ∈ l := by unfold inI; simp
theorem inI_no {l : List Int} {m : Int} : inI l m = false ↔ ¬ m ∈ l := by unfold inI; simp
attribute [irreducible] inI
theorem keIn_ct (l : List Int) (m : Int) (hl : l.length ≤ mostRows) : Ct Tryz.prog 14 [bIs l, bI m] (.w (bB (inI l m))) := by
  simp only [mostRows] at hl
  refine Ct.z wd Tryz.func14 rfl rfl Tryz.ntmps14 rfl rfl rfl rfl ?_
  repeat' ((conv => whnf); (first | (refine hK _ _ _ ?_; clear hK K) | (show Z _ _ _ _ _ _ _ _; first | refine Z.reg wd (fun K hK => ?_) | refine Z.seq ?_ | refine Z.block ?_)))
  refine Z.loopK2 [0, 1, 5] ?_; (conv => whnf); refine LoopZ.mk (α := Nat) (fun i => [(5, vI i)]) (fun i => []) (fun i => i ≤ l.length ∧ inI l m = inI (l.drop i) m) (fun i => l.length - i) 0 rfl rfl (by exact ⟨by omega, rfl⟩) ?_; intro nF i hI next; refine Z.force ?_
  obtain ⟨h1, h2⟩ := hI
  by_cases hlt : i < l.length
  · obtain ⟨x, hx⟩ : ∃ x, l[i]? = some x := ⟨_, List.getElem?_eq_getElem hlt⟩
    rw [inI_step hx] at h2
    by_cases e : x = m
    · rw [decide_eq_true e, Bool.true_or] at h2
      rw [h2]
      repeat' ((conv => whnf); (first | (refine hK _ _ _ ?_; clear hK K) | (show Z _ _ _ _ _ _ _ _; first | refine Z.reg wd (fun K hK => ?_) | refine Z.seq ?_ | refine Z.skip ?_ | refine Z.cond (E := Ee) ?_ | refine Z.ret rfl ?_ | refine Z.block ?_) | (show IfB _ _ _; first | refine IfB.DT (by first | assumption | omega | (simp; done) | fail) ?_) | (show Need _ _; first | refine Need.mk (by first | omega | (simp only [strMost, mostRows, rS_len, rI_len, List.length_append, List.length_map, List.length_set, List.length_replicate, List.length_cons, List.length_nil, List.length_drop, List.length_take, letterL_len, upL_len, pathL_len, clearL_len, setL_len, bR_len]; done) | (simp only [strMost, mostRows, rS_len, rI_len, List.length_append, List.length_map, List.length_set, List.length_replicate, List.length_cons, List.length_nil, List.length_drop, List.length_take, letterL_len, upL_len, pathL_len, clearL_len, setL_len, bR_len] at *; omega) | (simp at *; omega) | fail) ?_) | (show Find _ _; first | refine Find.mk _ (rI_get (by assumption)) ?_) | (show Calc _ _; first | refine Calc.mk _ (rI_len _) ?_) | exact EqB.mk rfl))
    · rw [decide_eq_false e, Bool.false_or] at h2
      repeat' ((conv => whnf); (first | (refine hK _ _ _ ?_; clear hK K) | (show Z _ _ _ _ _ _ _ _; first | refine Z.reg wd (fun K hK => ?_) | refine Z.seq ?_ | refine Z.skip ?_ | refine Z.cond (E := Ee) ?_ | refine Z.block ?_ | refine Z.blockEnd ?_) | (show IfB _ _ _; first | refine IfB.DT (by first | assumption | omega | (simp; done) | fail) ?_ | refine IfB.DF (by first | assumption | omega | (simp; done) | fail) ?_) | (show Need _ _; first | refine Need.mk (by first | omega | (simp only [strMost, mostRows, rS_len, rI_len, List.length_append, List.length_map, List.length_set, List.length_replicate, List.length_cons, List.length_nil, List.length_drop, List.length_take, letterL_len, upL_len, pathL_len, clearL_len, setL_len, bR_len]; done) | (simp only [strMost, mostRows, rS_len, rI_len, List.length_append, List.length_map, List.length_set, List.length_replicate, List.length_cons, List.length_nil, List.length_drop, List.length_take, letterL_len, upL_len, pathL_len, clearL_len, setL_len, bR_len] at *; omega) | (simp at *; omega) | fail) ?_) | (show Find _ _; first | refine Find.mk _ (rI_get (by assumption)) ?_) | (show Calc _ _; first | refine Calc.mk _ (rI_len _) ?_)))
      (refine Z.next2 (next (i + 1) (by exact ⟨by omega, h2⟩) (by omega)) ?_; (conv => whnf); exact ⟨rfl, rfl, rfl⟩)
  · rw [inI_end (i := i) (by omega)] at h2
    rw [h2]
    repeat' ((conv => whnf); (first | (refine hK _ _ _ ?_; clear hK K) | (show Z _ _ _ _ _ _ _ _; first | refine Z.reg wd (fun K hK => ?_) | refine Z.seq ?_ | refine Z.cond (E := Ee) ?_ | refine Z.ret rfl ?_ | refine Z.exit rfl ?_) | (show IfB _ _ _; first | refine IfB.DF (by first | assumption | omega | (simp; done) | fail) ?_) | (show Calc _ _; first | refine Calc.mk _ (rI_len _) ?_) | exact EqB.mk rfl))
theorem path_iff {who : Int} {k : Nat} : (k : Int) ∈ pathL who ↔ (k : Int) = 7 + who ∨ (k : Int) = (7 + who - 1) / 2 ∨ (k : Int) = ((7 + who - 1) / 2 - 1) / 2 ∨ (k : Int) = 0 := by
  simp only [pathL, upL, List.mem_cons, List.not_mem_nil, or_false]
theorem setL_out {l : List (List UInt8)} {who : Int} {s : List UInt8} {k : Nat} (hw : 0 ≤ who ∧ who ≤ 7) (h : ¬ (k : Int) ∈ pathL who) : (setL l who s)[k]? = l[k]? := by
  rw [path_iff] at h
  unfold setL
  rw [List.getElem?_set_ne (by omega), List.getElem?_set_ne (by omega), List.getElem?_set_ne (by omega), List.getElem?_set_ne (by omega)]
theorem clearL_out {l : List (List UInt8)} {who : Int} {k : Nat} (hw : 0 ≤ who ∧ who ≤ 7) (h : ¬ (k : Int) ∈ pathL who) : (clearL l who)[k]? = l[k]? := by
  rw [path_iff] at h
  unfold clearL
  rw [List.getElem?_set_ne (by omega), List.getElem?_set_ne (by omega), List.getElem?_set_ne (by omega), List.getElem?_set_ne (by omega)]
theorem clearL_in {l : List (List UInt8)} {who : Int} {k : Nat} (hl : l.length = 15) (hw : 0 ≤ who ∧ who ≤ 7) (h : (k : Int) ∈ pathL who) : (clearL l who)[k]? = some [] := by
  rw [path_iff] at h
  unfold clearL
  simp only [List.getElem?_set, List.length_set, hl]
  by_cases h0 : (0 : Int).toNat = k
  · rw [if_pos h0, if_pos (by omega)]
  rw [if_neg h0]
  by_cases h1 : (((7 + who - 1) / 2 - 1) / 2).toNat = k
  · rw [if_pos h1, if_pos (by omega)]
  rw [if_neg h1]
  by_cases h2 : ((7 + who - 1) / 2).toNat = k
  · rw [if_pos h2, if_pos (by omega)]
  rw [if_neg h2, if_pos (by omega), if_pos (by omega)]
def setR (t : List (List UInt8)) (who : Int) (s : List UInt8) : List (List UInt8) := if okT t = true ∧ (0 ≤ who ∧ who ≤ 7) ∧ shortS s = true then setL t who s else []
def clrR (t : List (List UInt8)) (who : Int) : List (List UInt8) := if okT t = true ∧ (0 ≤ who ∧ who ≤ 7) then clearL t who else []
theorem setR_no {t : List (List UInt8)} {who : Int} {s : List UInt8} (h : ¬ (okT t = true ∧ (0 ≤ who ∧ who ≤ 7) ∧ shortS s = true)) : okT t = false ∨ ¬ (0 ≤ who ∧ who ≤ 7) ∨ shortS s = false := by
  cases e : okT t with
  | false => exact .inl rfl
  | true =>
    by_cases hw : 0 ≤ who ∧ who ≤ 7
    · cases e2 : shortS s with
      | false => exact .inr (.inr rfl)
      | true => exact absurd ⟨e, hw, e2⟩ h
    · exact .inr (.inl hw)
theorem clrR_no {t : List (List UInt8)} {who : Int} (h : ¬ (okT t = true ∧ (0 ≤ who ∧ who ≤ 7))) : okT t = false ∨ ¬ (0 ≤ who ∧ who ≤ 7) := by
  cases e : okT t with
  | false => exact .inl rfl
  | true => exact .inr fun hw => h ⟨e, hw⟩
theorem rSet_ct (t : List (List UInt8)) (who : Int) (s : List UInt8) (hl : t.length ≤ mostRows) : Ct Tryz.prog 8 [bT t, bI who, bS s] (.w (bT (setR t who s))) := by
  unfold setR
  split
  · rename_i h; exact (treSet_ct t who s h.1 h.2.1 h.2.2).toRo rfl rfl
  · rename_i h; exact (treSetNo_ct t who s hl (setR_no h)).toRo rfl rfl
theorem sSet_ct (t : List (List UInt8)) (who : Int) (s : List UInt8) (hl : t.length ≤ mostRows) : Ct Tryz.prog 10 [bT t, bI who, bS s] (.w (bT (setR t who s))) := by
  unfold setR
  split
  · rename_i h; exact (sTreSet_ct t who s h.1 h.2.1 h.2.2).toRo rfl rfl
  · rename_i h; exact (sTreSetNo_ct t who s hl (setR_no h)).toRo rfl rfl
theorem rClr_ct (t : List (List UInt8)) (who : Int) (hl : t.length ≤ mostRows) : Ct Tryz.prog 24 [bT t, bI who] (.w (bT (clrR t who))) := by
  unfold clrR
  split
  · rename_i h; exact (treClear_ct t who h.1 h.2).toRo rfl rfl
  · rename_i h; exact (treClearNo_ct t who hl (clrR_no h)).toRo rfl rfl
theorem sClr_ct (t : List (List UInt8)) (who : Int) (hl : t.length ≤ mostRows) : Ct Tryz.prog 25 [bT t, bI who] (.w (bT (clrR t who))) := by
  unfold clrR
  split
  · rename_i h; exact (sTreClear_ct t who h.1 h.2).toRo rfl rfl
  · rename_i h; exact (sTreClearNo_ct t who hl (clrR_no h)).toRo rfl rfl
theorem setR_le (t : List (List UInt8)) (who : Int) (s : List UInt8) : (setR t who s).length = 0 ∨ ((setR t who s).length = 15 ∧ setR t who s = setL t who s ∧ okT t = true ∧ (0 ≤ who ∧ who ≤ 7) ∧ shortS s = true) := by
  unfold setR
  split
  · rename_i h; exact .inr ⟨by rw [setL_len, okT_len h.1], rfl, h⟩
  · exact .inl rfl
theorem clrR_le (t : List (List UInt8)) (who : Int) : (clrR t who).length = 0 ∨ ((clrR t who).length = 15 ∧ clrR t who = clearL t who ∧ okT t = true ∧ (0 ≤ who ∧ who ≤ 7)) := by
  unfold clrR
  split
  · rename_i h; exact .inr ⟨by rw [clearL_len, okT_len h.1], rfl, h⟩
  · exact .inl rfl
theorem clrR_yes {t : List (List UInt8)} {who : Int} (h1 : okT t = true) (h2 : 0 ≤ who ∧ who ≤ 7) : clrR t who = clearL t who := by unfold clrR; rw [if_pos ⟨h1, h2⟩]
attribute [irreducible] setR clrR
def unS (r : List (List C)) : List (List UInt8) := r.map fun x => match x with | [.lit (.string s)] => s.data.toList | _ => []
theorem unS_rS (a : List (List UInt8)) : unS (rS a) = a := by
  induction a with
  | nil => rfl
  | cons x a ih =>
    show x :: unS (rS a) = _
    rw [ih]
theorem rI_cons (a : Int) (l : List Int) : [[C.lit (.int .i64 a)]] ++ rI l = rI (a :: l) := rfl
end Go.Proofs.YtfokmnafgabdiaaGreatDoor.Eng
namespace Go.Proofs.YtfokmnafgabdiaaGreatDoor.Eng
open Go Go.RowKit Kw
set_option linter.unusedVariables false
set_option linter.unusedSimpArgs false
set_option maxRecDepth 10000
set_option maxHeartbeats 4000000
attribute [local irreducible] Ct HCt
end Go.Proofs.YtfokmnafgabdiaaGreatDoor.Eng
