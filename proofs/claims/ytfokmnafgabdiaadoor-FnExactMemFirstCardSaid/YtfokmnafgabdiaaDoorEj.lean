/- Merged: V11, V12, V13, V14, V15, V16, V17, V18. -/
import Derived.Test.YtfokmnafgabdiaaDoorEi
import Derived.Test.YtfokmnafgabdiaaDoorEd
/- Trees that are ok, whatever they hold. -/
namespace Go.Proofs.YtfokmnafgabdiaaDoor.Eng
open Go Go.RowKit Kw
set_option linter.unusedVariables false
set_option linter.unusedSimpArgs false
set_option maxRecDepth 10000
attribute [local irreducible] Ct HCt
set_option maxHeartbeats 4000000
abbrev vI (n : Int) : V := .w (.one (.c (.lit (.int .i64 n))))
abbrev vS (s : List UInt8) : V := .w (.one (.c (.lit (.string (mk s)))))
abbrev bT (l : List (List UInt8)) : BW := .agg [.b (.c (.ro 1 (rS l)))]
end Go.Proofs.YtfokmnafgabdiaaDoor.Eng
/- Trees: places, copies, keys set, keys cleared. -/
namespace Go.Proofs.YtfokmnafgabdiaaDoor.Eng
open Go Go.RowKit Kw
set_option linter.unusedVariables false
set_option linter.unusedSimpArgs false
set_option maxRecDepth 10000
attribute [local irreducible] Ct HCt
set_option maxHeartbeats 4000000
theorem rS_takeall {l : List (List UInt8)} {n : Nat} (h : n = l.length) : (rS l).take n = rS l := by
  rw [List.take_of_length_le (by rw [rS_len]; omega)]
abbrev oI (l : List Int) (cap : Option Nat) : BV := .w (.one (.b (.own 1 (rI l) cap)))
abbrev oS (l : List (List UInt8)) (cap : Option Nat) : BV := .w (.one (.b (.own 1 (rS l) cap)))
abbrev oT (l : List (List UInt8)) (cap : Option Nat) : BV := .w (.agg [.b (.own 1 (rS l) cap)])
theorem eightL {n : Int} (h : 7 ≤ n ∧ n ≤ 14) : n = 7 ∨ n = 8 ∨ n = 9 ∨ n = 10 ∨ n = 11 ∨ n = 12 ∨ n = 13 ∨ n = 14 := by omega
def upL (n : Int) : List Int := [(n - 1) / 2, ((n - 1) / 2 - 1) / 2, 0]
def pathL (who : Int) : List Int := (7 + who) :: upL (7 + who)
theorem upL_len (n : Int) : (upL n).length = 3 := rfl
theorem pathL_len (n : Int) : (pathL n).length = 4 := rfl
theorem treUp_ct (n : Int) (h : 7 ≤ n ∧ n ≤ 14) : Ct Tryd.prog 20 [bI n] (oI (upL n) (some 3)) := by
  rcases eightL h with rfl | rfl | rfl | rfl | rfl | rfl | rfl | rfl
  all_goals
    refine Ct.z wd Tryd.func20 rfl rfl Tryd.ntmps20 rfl rfl rfl rfl ?_
    repeat' ((conv => whnf); (first | (refine hK _ _ _ ?_; clear hK K) | (show Z _ _ _ _ _ _ _ _; first | refine Z.reg wd (fun K hK => ?_) | refine Z.seq ?_ | refine Z.skip ?_ | refine Z.cond (E := Ee) ?_ | refine Z.ret rfl ?_ | refine Z.block ?_ | refine Z.blockEnd ?_ | refine Z.exit rfl ?_ | refine Z.again ?_ | refine Z.loop 5 (Z.again ?_)) | (show IfB _ _ _; first | refine IfB.T rfl ?_ | refine IfB.F rfl ?_) | (show RawW _; first | refine RawW.mk (O.hcallG wd rfl rfl rfl rfl rfl rfl rfl rfl rfl (iClip_hc _ _) rfl rfl rfl ?_)) | refine Z.opsF wd (fun K hK => ?_) | (show Need _ _; first | refine Need.mk (by first | omega | (simp only [strMost, mostRows, rS_len, rI_len, List.length_append, List.length_map, List.length_set, List.length_replicate, List.length_cons, List.length_nil, List.length_drop, List.length_take, letterL_len, upL_len, pathL_len]; done) | (simp only [strMost, mostRows, rS_len, rI_len, List.length_append, List.length_map, List.length_set, List.length_replicate, List.length_cons, List.length_nil, List.length_drop, List.length_take, letterL_len, upL_len, pathL_len] at *; omega) | (simp at *; omega) | fail) ?_ | refine Need.mk ⟨(by first | rfl | assumption | (simp only [rS_len, rI_len, List.length_append, List.length_map, List.length_set, List.length_replicate, List.length_cons, List.length_nil, Nat.zero_add, letterL_len, upL_len, pathL_len]; done) | omega | (simp only [rS_len, rI_len, List.length_append, List.length_map, List.length_set, List.length_replicate, List.length_cons, List.length_nil, List.length_drop, List.length_take, letterL_len, upL_len, pathL_len] at *; omega) | fail), (by first | omega | (simp only [strMost, mostRows, rS_len, rI_len, List.length_append, List.length_map, List.length_set, List.length_replicate, List.length_cons, List.length_nil, List.length_drop, List.length_take, letterL_len, upL_len, pathL_len]; done) | (simp only [strMost, mostRows, rS_len, rI_len, List.length_append, List.length_map, List.length_set, List.length_replicate, List.length_cons, List.length_nil, List.length_drop, List.length_take, letterL_len, upL_len, pathL_len] at *; omega) | (simp at *; omega) | fail)⟩ ?_) | (show CallW _ _ _ _; first | refine CallW.mk _ (isNode_ct _) ?_) | (show Calc _ _; first | refine Calc.mk _ (vw_all _) ?_ | refine Calc.mk _ (vw_n (by first | rfl | assumption | (simp only [rS_len, rI_len, List.length_append, List.length_map, List.length_set, List.length_replicate, List.length_cons, List.length_nil, Nat.zero_add, letterL_len, upL_len, pathL_len]; done) | omega | (simp only [rS_len, rI_len, List.length_append, List.length_map, List.length_set, List.length_replicate, List.length_cons, List.length_nil, List.length_drop, List.length_take, letterL_len, upL_len, pathL_len] at *; omega) | fail)) ?_ | refine Calc.mk _ rfl ?_) | exact EqB.mk rfl))
theorem path_ct (n : Int) (h : 0 ≤ n ∧ n ≤ 7) : Ct Tryd.prog 93 [bI n] (oI (pathL n) none) := by
  refine Ct.z wd Tryd.func93 rfl rfl Tryd.ntmps93 rfl rfl rfl rfl ?_
  repeat' ((conv => whnf); (first | (refine hK _ _ _ ?_; clear hK K) | (show Z _ _ _ _ _ _ _ _; first | refine Z.reg wd (fun K hK => ?_) | refine Z.seq ?_ | refine Z.ret rfl ?_) | (show Need _ _; first | refine Need.mk ⟨(by first | rfl | assumption | (simp only [rS_len, rI_len, List.length_append, List.length_map, List.length_set, List.length_replicate, List.length_cons, List.length_nil, Nat.zero_add, letterL_len, upL_len, pathL_len]; done) | omega | (simp only [rS_len, rI_len, List.length_append, List.length_map, List.length_set, List.length_replicate, List.length_cons, List.length_nil, List.length_drop, List.length_take, letterL_len, upL_len, pathL_len] at *; omega) | fail), (by first | omega | (simp only [strMost, mostRows, rS_len, rI_len, List.length_append, List.length_map, List.length_set, List.length_replicate, List.length_cons, List.length_nil, List.length_drop, List.length_take, letterL_len, upL_len, pathL_len]; done) | (simp only [strMost, mostRows, rS_len, rI_len, List.length_append, List.length_map, List.length_set, List.length_replicate, List.length_cons, List.length_nil, List.length_drop, List.length_take, letterL_len, upL_len, pathL_len] at *; omega) | (simp at *; omega) | fail)⟩ ?_) | (show CallW _ _ _ _; first | refine CallW.mk _ (leaf_ct _ (by omega)) ?_ | refine CallW.mk _ (treUp_ct _ (by omega)) ?_) | (show Calc _ _; first | refine Calc.mk _ (vw_all _) ?_ | refine Calc.mk _ rfl ?_) | exact EqB.mk rfl))
theorem cloneS_ct (l : List (List UInt8)) (hl : l.length ≤ mostRows) : Ct Tryd.prog 123 [bSs l] (oS l (some l.length)) := by
  rw [show oS l (some l.length) = oS l (some (rS l).length) from by rw [rS_len]]
  refine Ct.z wd Tryd.func123 rfl rfl Tryd.ntmps123 rfl rfl rfl rfl ?_
  repeat' ((conv => whnf); (first | (refine hK _ _ _ ?_; clear hK K) | (show Z _ _ _ _ _ _ _ _; first | refine Z.reg wd (fun K hK => ?_) | refine Z.seq ?_ | refine Z.ret rfl ?_) | (show RawW _; first | refine RawW.mk (O.hcallG wd rfl rfl rfl rfl rfl rfl rfl rfl rfl (sClip_hc _ _) rfl rfl rfl ?_)) | refine Z.opsF wd (fun K hK => ?_) | (show CallW _ _ _ _; first | refine CallW.mk _ (sClone_ct _ (by first | omega | (simp only [strMost, mostRows, rS_len, rI_len, List.length_append, List.length_map, List.length_set, List.length_replicate, List.length_cons, List.length_nil, List.length_drop, List.length_take, letterL_len, upL_len, pathL_len]; done) | (simp only [strMost, mostRows, rS_len, rI_len, List.length_append, List.length_map, List.length_set, List.length_replicate, List.length_cons, List.length_nil, List.length_drop, List.length_take, letterL_len, upL_len, pathL_len] at *; omega) | (simp at *; omega) | fail)) ?_) | (show Calc _ _; first | refine Calc.mk _ (vw_all _) ?_) | exact EqB.mk rfl))
theorem copyOf_ct (l : List (List UInt8)) (hl : l.length ≤ mostRows) : Ct Tryd.prog 98 [bT l] (oT l (some l.length)) := by
  refine Ct.z wd Tryd.func98 rfl rfl Tryd.ntmps98 rfl rfl rfl rfl ?_
  repeat' ((conv => whnf); (first | (refine hK _ _ _ ?_; clear hK K) | (show Z _ _ _ _ _ _ _ _; first | refine Z.reg wd (fun K hK => ?_) | refine Z.seq ?_ | refine Z.ret rfl ?_) | (show CallW _ _ _ _; first | refine CallW.mk _ (cloneS_ct _ (by first | omega | (simp only [strMost, mostRows, rS_len, rI_len, List.length_append, List.length_map, List.length_set, List.length_replicate, List.length_cons, List.length_nil, List.length_drop, List.length_take, letterL_len, upL_len, pathL_len]; done) | (simp only [strMost, mostRows, rS_len, rI_len, List.length_append, List.length_map, List.length_set, List.length_replicate, List.length_cons, List.length_nil, List.length_drop, List.length_take, letterL_len, upL_len, pathL_len] at *; omega) | (simp at *; omega) | fail)) ?_) | (show Calc _ _; first | refine Calc.mk _ (vw_all _) ?_) | exact EqB.mk rfl))
theorem treNew_ct : Ct Tryd.prog 11 [] (oT (List.replicate 15 []) none) := by
  refine Ct.z wd Tryd.func11 rfl rfl Tryd.ntmps11 rfl rfl rfl rfl ?_
  repeat' ((conv => whnf); (first | (refine hK _ _ _ ?_; clear hK K) | (show Z _ _ _ _ _ _ _ _; first | refine Z.reg wd (fun K hK => ?_) | refine Z.seq ?_ | refine Z.ret rfl ?_) | (show Need _ _; first | refine Need.mk (by first | omega | (simp only [strMost, mostRows, rS_len, rI_len, List.length_append, List.length_map, List.length_set, List.length_replicate, List.length_cons, List.length_nil, List.length_drop, List.length_take, letterL_len, upL_len, pathL_len]; done) | (simp only [strMost, mostRows, rS_len, rI_len, List.length_append, List.length_map, List.length_set, List.length_replicate, List.length_cons, List.length_nil, List.length_drop, List.length_take, letterL_len, upL_len, pathL_len] at *; omega) | (simp at *; omega) | fail) ?_) | (show Calc _ _; first | refine Calc.mk _ (rS_takeall (by first | rfl | assumption | (simp only [rS_len, rI_len, List.length_append, List.length_map, List.length_set, List.length_replicate, List.length_cons, List.length_nil, Nat.zero_add, letterL_len, upL_len, pathL_len]; done) | omega | (simp only [rS_len, rI_len, List.length_append, List.length_map, List.length_set, List.length_replicate, List.length_cons, List.length_nil, List.length_drop, List.length_take, letterL_len, upL_len, pathL_len] at *; omega) | fail)) ?_ | refine Calc.mk _ (rS_rep _) ?_ | refine Calc.mk _ rfl ?_) | exact EqB.mk rfl))
def clearL (l : List (List UInt8)) (who : Int) : List (List UInt8) :=
  (((l.set (7 + who).toNat []).set ((7 + who - 1) / 2).toNat []).set (((7 + who - 1) / 2 - 1) / 2).toNat []).set (0 : Int).toNat []
theorem clearL_len (l : List (List UInt8)) (who : Int) : (clearL l who).length = l.length := by simp [clearL]
end Go.Proofs.YtfokmnafgabdiaaDoor.Eng
/- The reference's trees: ok, cleared. -/

namespace Go.Proofs.YtfokmnafgabdiaaDoor.Eng
open Go Go.RowKit Kw
set_option linter.unusedVariables false
set_option linter.unusedSimpArgs false
set_option maxRecDepth 10000
attribute [local irreducible] Ct HCt
set_option maxHeartbeats 4000000
theorem sTreUp_ct (n : Int) (h : 7 ≤ n ∧ n ≤ 14) : Ct Tryd.prog 111 [bI n] (oI (upL n) none) := by
  rcases eightL h with rfl | rfl | rfl | rfl | rfl | rfl | rfl | rfl
  all_goals
    refine Ct.z wd Tryd.func111 rfl rfl Tryd.ntmps111 rfl rfl rfl rfl ?_
    repeat' ((conv => whnf); (first | (refine hK _ _ _ ?_; clear hK K) | (show Z _ _ _ _ _ _ _ _; first | refine Z.reg wd (fun K hK => ?_) | refine Z.seq ?_ | refine Z.skip ?_ | refine Z.cond (E := Ee) ?_ | refine Z.ret rfl ?_ | refine Z.block ?_ | refine Z.blockEnd ?_ | refine Z.exit rfl ?_ | refine Z.again ?_ | refine Z.loop 5 (Z.again ?_)) | (show IfB _ _ _; first | refine IfB.T rfl ?_ | refine IfB.F rfl ?_) | (show Need _ _; first | refine Need.mk (by first | omega | (simp only [strMost, mostRows, rS_len, rI_len, List.length_append, List.length_map, List.length_set, List.length_replicate, List.length_cons, List.length_nil, List.length_drop, List.length_take, letterL_len, upL_len, pathL_len, clearL_len]; done) | (simp only [strMost, mostRows, rS_len, rI_len, List.length_append, List.length_map, List.length_set, List.length_replicate, List.length_cons, List.length_nil, List.length_drop, List.length_take, letterL_len, upL_len, pathL_len, clearL_len] at *; omega) | (simp at *; omega) | fail) ?_ | refine Need.mk ⟨(by first | rfl | assumption | (simp only [rS_len, rI_len, List.length_append, List.length_map, List.length_set, List.length_replicate, List.length_cons, List.length_nil, Nat.zero_add, letterL_len, upL_len, pathL_len, clearL_len]; done) | omega | (simp only [rS_len, rI_len, List.length_append, List.length_map, List.length_set, List.length_replicate, List.length_cons, List.length_nil, List.length_drop, List.length_take, letterL_len, upL_len, pathL_len, clearL_len] at *; omega) | fail), (by first | omega | (simp only [strMost, mostRows, rS_len, rI_len, List.length_append, List.length_map, List.length_set, List.length_replicate, List.length_cons, List.length_nil, List.length_drop, List.length_take, letterL_len, upL_len, pathL_len, clearL_len]; done) | (simp only [strMost, mostRows, rS_len, rI_len, List.length_append, List.length_map, List.length_set, List.length_replicate, List.length_cons, List.length_nil, List.length_drop, List.length_take, letterL_len, upL_len, pathL_len, clearL_len] at *; omega) | (simp at *; omega) | fail)⟩ ?_) | (show CallW _ _ _ _; first | refine CallW.mk _ (l1In_ct _ _ _) ?_) | (show Calc _ _; first | refine Calc.mk _ (vw_all _) ?_ | refine Calc.mk _ (vw_n (by first | rfl | assumption | (simp only [rS_len, rI_len, List.length_append, List.length_map, List.length_set, List.length_replicate, List.length_cons, List.length_nil, Nat.zero_add, letterL_len, upL_len, pathL_len, clearL_len]; done) | omega | (simp only [rS_len, rI_len, List.length_append, List.length_map, List.length_set, List.length_replicate, List.length_cons, List.length_nil, List.length_drop, List.length_take, letterL_len, upL_len, pathL_len, clearL_len] at *; omega) | fail)) ?_ | refine Calc.mk _ rfl ?_) | exact EqB.mk rfl))
end Go.Proofs.YtfokmnafgabdiaaDoor.Eng
/- The reference's trees: cleared. -/
namespace Go.Proofs.YtfokmnafgabdiaaDoor.Eng
open Go Go.RowKit Kw
set_option linter.unusedVariables false
set_option linter.unusedSimpArgs false
set_option maxRecDepth 10000
attribute [local irreducible] Ct HCt
set_option maxHeartbeats 4000000
theorem sLeaf_ct (who : Int) (h : 0 ≤ who ∧ who ≤ 7) : Ct Tryd.prog 91 [bI who] (.w (bI (7 + who))) := by
  have := sTreLeaf_ct who; rwa [leafOr, if_pos h] at this
end Go.Proofs.YtfokmnafgabdiaaDoor.Eng
/- The helpers of the exact laws: lists of texts. -/
namespace Go.Proofs.YtfokmnafgabdiaaDoor.Eng
open Go Go.RowKit Kw
set_option linter.unusedVariables false
set_option linter.unusedSimpArgs false
set_option maxRecDepth 10000
attribute [local irreducible] Ct HCt
set_option maxHeartbeats 4000000
/-- Figures ahead of a text. -/
def digL (k : Nat) (out : List UInt8) : List UInt8 := if h : 0 < k then digL (k / 10) ([UInt8.ofNat (48 + (k : Int) % 10).toNat] ++ out) else out
termination_by k
decreasing_by exact Nat.div_lt_self h (by omega)
def markS (k : Nat) : List UInt8 := [109] ++ digL k []
theorem markText_ct (k : Nat) (h : 0 < k) (hk : k ≤ 2 ^ 24) : Ct Tryd.prog 112 [bI k] (.w (bS (markS k))) := by
  refine Ct.z wd Tryd.func112 rfl rfl Tryd.ntmps112 rfl rfl rfl rfl ?_
  repeat' ((conv => whnf); (first | (refine hK _ _ _ ?_; clear hK K) | (show Z _ _ _ _ _ _ _ _; first | refine Z.reg wd (fun K hK => ?_) | refine Z.seq ?_ | refine Z.skip ?_ | refine Z.cond (E := Ee) ?_ | refine Z.block ?_) | (show IfB _ _ _; first | refine IfB.DF (by first | assumption | omega | (simp; done) | fail) ?_)))
  refine Z.loopK2 [0, 3] ?_; (conv => whnf); refine LoopZ.mk (α := Nat × List UInt8) (fun x => [(0, vI x.1), (3, vS x.2)]) (fun x => []) (fun x => x.1 + x.2.length ≤ k ∧ digL x.1 x.2 = digL k []) (fun x => x.1) (k, []) rfl rfl (by exact ⟨by simp, rfl⟩) ?_; intro nF x hI next; refine Z.force ?_
  obtain ⟨n, out⟩ := x
  dsimp only at hI
  obtain ⟨h1, h2⟩ := hI
  rw [digL] at h2
  by_cases hn : 0 < n
  · rw [dif_pos hn] at h2
    repeat' ((conv => whnf); (first | (refine hK _ _ _ ?_; clear hK K) | (show Z _ _ _ _ _ _ _ _; first | refine Z.reg wd (fun K hK => ?_) | refine Z.seq ?_ | refine Z.skip ?_ | refine Z.cond (E := Ee) ?_ | refine Z.block ?_ | refine Z.blockEnd ?_) | (show IfB _ _ _; first | refine IfB.DT (by first | assumption | omega | (simp; done) | fail) ?_) | (show Need _ _; first | refine Need.mk (by first | omega | (simp only [strMost, mostRows, rS_len, rI_len, List.length_append, List.length_map, List.length_set, List.length_replicate, List.length_cons, List.length_nil, List.length_drop, List.length_take, letterL_len, upL_len, pathL_len, clearL_len]; done) | (simp only [strMost, mostRows, rS_len, rI_len, List.length_append, List.length_map, List.length_set, List.length_replicate, List.length_cons, List.length_nil, List.length_drop, List.length_take, letterL_len, upL_len, pathL_len, clearL_len] at *; omega) | (simp at *; omega) | fail) ?_) | (show Find _ _; first | refine Find.mk _ rfl ?_) | (show Calc _ _; first | refine Calc.mk _ (vw_n (by first | rfl | assumption | (simp only [rS_len, rI_len, List.length_append, List.length_map, List.length_set, List.length_replicate, List.length_cons, List.length_nil, Nat.zero_add, letterL_len, upL_len, pathL_len, clearL_len]; done) | omega | (simp only [rS_len, rI_len, List.length_append, List.length_map, List.length_set, List.length_replicate, List.length_cons, List.length_nil, List.length_drop, List.length_take, letterL_len, upL_len, pathL_len, clearL_len] at *; omega) | fail)) ?_)))
    (refine Z.next2 (next (n / 10, [UInt8.ofNat (48 + (n : Int) % 10).toNat] ++ out) (by exact ⟨by simp; omega, h2⟩) (by exact Nat.div_lt_self hn (by omega))) ?_; (conv => whnf); exact ⟨rfl, rfl, rfl⟩)
  · rw [dif_neg hn] at h2
    repeat' ((conv => whnf); (first | (refine hK _ _ _ ?_; clear hK K) | (show Z _ _ _ _ _ _ _ _; first | refine Z.reg wd (fun K hK => ?_) | refine Z.seq ?_ | refine Z.cond (E := Ee) ?_ | refine Z.ret rfl ?_ | refine Z.exit rfl ?_) | (show IfB _ _ _; first | refine IfB.DF (by first | assumption | omega | (simp; done) | fail) ?_) | (show Need _ _; first | refine Need.mk (by first | omega | (simp only [strMost, mostRows, rS_len, rI_len, List.length_append, List.length_map, List.length_set, List.length_replicate, List.length_cons, List.length_nil, List.length_drop, List.length_take, letterL_len, upL_len, pathL_len, clearL_len]; done) | (simp only [strMost, mostRows, rS_len, rI_len, List.length_append, List.length_map, List.length_set, List.length_replicate, List.length_cons, List.length_nil, List.length_drop, List.length_take, letterL_len, upL_len, pathL_len, clearL_len] at *; omega) | (simp at *; omega) | fail) ?_) | refine EqB.mk ?_))
    rw [markS, ← h2]
/-- A list of which so much is told, and nothing behind. -/
def fillL (l : List (List UInt8)) (i : Nat) : List (List UInt8) := l.take i ++ List.replicate (l.length - i) []
theorem fillL_len (l : List (List UInt8)) (i : Nat) : (fillL l i).length = l.length := by
  unfold fillL; simp; omega
end Go.Proofs.YtfokmnafgabdiaaDoor.Eng
/- The helpers of the exact laws: sizes, equality, marks. -/
namespace Go.Proofs.YtfokmnafgabdiaaDoor.Eng
open Go Go.RowKit Kw
set_option linter.unusedVariables false
set_option linter.unusedSimpArgs false
set_option maxRecDepth 10000
attribute [local irreducible] Ct HCt
set_option maxHeartbeats 4000000
def eqL (a b : List (List UInt8)) : Bool := decide (a = b)
def eqD (a b : List (List UInt8)) (i : Nat) : Bool := decide (a.drop i = b.drop i)
theorem eqD_step {a b : List (List UInt8)} {i : Nat} {s t : List UInt8} (ha : a[i]? = some s) (hb : b[i]? = some t) : eqD a b i = (decide (s = t) && eqD a b (i + 1)) := by
  have h1 : i < a.length := (List.getElem?_eq_some_iff.mp ha).1
  have h2 : a[i] = s := (List.getElem?_eq_some_iff.mp ha).2
  have h3 : i < b.length := (List.getElem?_eq_some_iff.mp hb).1
  have h4 : b[i] = t := (List.getElem?_eq_some_iff.mp hb).2
  unfold eqD
  rw [List.drop_eq_getElem_cons h1, List.drop_eq_getElem_cons h3, h2, h4]
  simp
theorem eqD_end {a b : List (List UInt8)} {i : Nat} (h : a.length ≤ i) (hb : b.length ≤ i) : eqD a b i = true := by
  unfold eqD; rw [List.drop_eq_nil_of_le h, List.drop_eq_nil_of_le hb]; simp
theorem eqL_len {a b : List (List UInt8)} (h : a.length ≠ b.length) : eqL a b = false := decide_eq_false fun e => h (by rw [e])
theorem eqL_self (a : List (List UInt8)) : eqL a a = true := decide_eq_true rfl
attribute [irreducible] eqL eqD
theorem eqL_0 (a b : List (List UInt8)) : eqL a b = eqD a b 0 := by unfold eqL eqD; rfl
theorem eqStrings_ct (a b : List (List UInt8)) (hl : a.length ≤ mostRows) (hb : b.length ≤ mostRows) : Ct Tryd.prog 74 [bSs a, bSs b] (.w (bB (eqL a b))) := by
  by_cases hab : a.length = b.length
  case neg =>
    rw [eqL_len hab]
    refine Ct.z wd Tryd.func74 rfl rfl Tryd.ntmps74 rfl rfl rfl rfl ?_
    repeat' ((conv => whnf); (first | (refine hK _ _ _ ?_; clear hK K) | (show Z _ _ _ _ _ _ _ _; first | refine Z.reg wd (fun K hK => ?_) | refine Z.seq ?_ | refine Z.cond (E := Ee) ?_ | refine Z.ret rfl ?_) | (show IfB _ _ _; first | refine IfB.DT (by first | assumption | omega | (simp; done) | fail) ?_) | (show Calc _ _; first | refine Calc.mk _ (rS_len _) ?_) | exact EqB.mk rfl))
  simp only [mostRows] at hl hb
  refine Ct.z wd Tryd.func74 rfl rfl Tryd.ntmps74 rfl rfl rfl rfl ?_
  repeat' ((conv => whnf); (first | (refine hK _ _ _ ?_; clear hK K) | (show Z _ _ _ _ _ _ _ _; first | refine Z.reg wd (fun K hK => ?_) | refine Z.seq ?_ | refine Z.skip ?_ | refine Z.cond (E := Ee) ?_ | refine Z.block ?_) | (show IfB _ _ _; first | refine IfB.DF (by first | assumption | omega | (simp; done) | fail) ?_) | (show Calc _ _; first | refine Calc.mk _ (rS_len _) ?_)))
  refine Z.loopK2 [0, 1, 5] ?_; (conv => whnf); refine LoopZ.mk (α := Nat) (fun i => [(5, vI i)]) (fun i => []) (fun i => i ≤ a.length ∧ eqL a b = eqD a b i) (fun i => a.length - i) 0 rfl rfl (by exact ⟨by omega, eqL_0 a b⟩) ?_; intro nF i hI next; refine Z.force ?_
  obtain ⟨h1, h2⟩ := hI
  by_cases hn : i < a.length
  · obtain ⟨s, hs⟩ : ∃ s, a[i]? = some s := ⟨_, List.getElem?_eq_getElem hn⟩
    obtain ⟨t, ht⟩ : ∃ t, b[i]? = some t := ⟨_, List.getElem?_eq_getElem (by omega)⟩
    rw [eqD_step hs ht] at h2
    by_cases e : s = t
    · subst e
      rw [decide_eq_true rfl, Bool.true_and] at h2
      repeat' ((conv => whnf); (first | (refine hK _ _ _ ?_; clear hK K) | (show Z _ _ _ _ _ _ _ _; first | refine Z.reg wd (fun K hK => ?_) | refine Z.draw2 wd rfl (fun K hK => ?_) | refine Z.seq ?_ | refine Z.skip ?_ | refine Z.cond (E := Ee) ?_ | refine Z.block ?_ | refine Z.blockEnd ?_) | (show IfB _ _ _; first | refine IfB.DT (by first | assumption | omega | (simp; done) | fail) ?_ | refine IfB.DF (by first | assumption | omega | (simp; done) | fail) ?_) | (show Need _ _; first | refine Need.mk (by kernel_rfl) ?_ | refine Need.mk (by first | omega | (simp only [strMost, mostRows, rS_len, rI_len, List.length_append, List.length_map, List.length_set, List.length_replicate, List.length_cons, List.length_nil, List.length_drop, List.length_take, letterL_len, upL_len, pathL_len, clearL_len, fillL_len]; done) | (simp only [strMost, mostRows, rS_len, rI_len, List.length_append, List.length_map, List.length_set, List.length_replicate, List.length_cons, List.length_nil, List.length_drop, List.length_take, letterL_len, upL_len, pathL_len, clearL_len, fillL_len] at *; omega) | (simp at *; omega) | fail) ?_) | (show Find _ _; first | refine Find.mk _ (rS_get (by assumption)) ?_) | (show Calc _ _; first | refine Calc.mk _ (rS_len _) ?_)))
      (refine Z.next2 (next (i + 1) (by exact ⟨by omega, h2⟩) (by omega)) ?_; (conv => whnf); exact ⟨rfl, rfl, rfl⟩)
    · rw [decide_eq_false e, Bool.false_and] at h2
      rw [h2]
      repeat' ((conv => whnf); (first | (refine hK _ _ _ ?_; clear hK K) | (show Z _ _ _ _ _ _ _ _; first | refine Z.reg wd (fun K hK => ?_) | refine Z.draw2 wd rfl (fun K hK => ?_) | refine Z.seq ?_ | refine Z.skip ?_ | refine Z.cond (E := Ee) ?_ | refine Z.ret rfl ?_ | refine Z.block ?_) | (show IfB _ _ _; first | refine IfB.DT (by first | assumption | omega | (simp; done) | fail) ?_) | (show Need _ _; first | refine Need.mk (by kernel_rfl) ?_ | refine Need.mk (by first | omega | (simp only [strMost, mostRows, rS_len, rI_len, List.length_append, List.length_map, List.length_set, List.length_replicate, List.length_cons, List.length_nil, List.length_drop, List.length_take, letterL_len, upL_len, pathL_len, clearL_len, fillL_len]; done) | (simp only [strMost, mostRows, rS_len, rI_len, List.length_append, List.length_map, List.length_set, List.length_replicate, List.length_cons, List.length_nil, List.length_drop, List.length_take, letterL_len, upL_len, pathL_len, clearL_len, fillL_len] at *; omega) | (simp at *; omega) | fail) ?_) | (show Find _ _; first | refine Find.mk _ (rS_get (by assumption)) ?_) | (show Calc _ _; first | refine Calc.mk _ (rS_len _) ?_) | exact EqB.mk rfl))
  · rw [eqD_end (by omega) (by omega)] at h2
    rw [h2]
    repeat' ((conv => whnf); (first | (refine hK _ _ _ ?_; clear hK K) | (show Z _ _ _ _ _ _ _ _; first | refine Z.reg wd (fun K hK => ?_) | refine Z.seq ?_ | refine Z.cond (E := Ee) ?_ | refine Z.ret rfl ?_ | refine Z.exit rfl ?_) | (show IfB _ _ _; first | refine IfB.DF (by first | assumption | omega | (simp; done) | fail) ?_) | (show Calc _ _; first | refine Calc.mk _ (rS_len _) ?_) | exact EqB.mk rfl))
end Go.Proofs.YtfokmnafgabdiaaDoor.Eng
/- The helpers of the exact laws: marks, and trees. -/
namespace Go.Proofs.YtfokmnafgabdiaaDoor.Eng
open Go Go.RowKit Kw
set_option linter.unusedVariables false
set_option linter.unusedSimpArgs false
set_option maxRecDepth 10000
attribute [local irreducible] Ct HCt
set_option maxHeartbeats 4000000
/-- So many marks. -/
def markL (k : Nat) (n : Nat) : List (List UInt8) := (List.range n).map fun i => markS (k + i)
theorem markL_len (k n : Nat) : (markL k n).length = n := by simp [markL]
theorem markL_get {k n i : Nat} (h : i < n) : (markL k n)[i]? = some (markS (k + i)) := by
  unfold markL; rw [List.getElem?_map, List.getElem?_range h]; rfl
theorem heldStrings_ct (k n : Nat) (hk : 0 < k) (hb : k + n ≤ 2 ^ 24) (hn : n ≤ mostRows) : Ct Tryd.prog 76 [bSs (markL k n), bI k] (.w (bI ((k + n : Nat) : Int))) := by
  simp only [mostRows] at hn
  have hl := markL_len k n
  refine Ct.z wd Tryd.func76 rfl rfl Tryd.ntmps76 rfl rfl rfl rfl ?_
  repeat' ((conv => whnf); (first | (refine hK _ _ _ ?_; clear hK K) | (show Z _ _ _ _ _ _ _ _; first | refine Z.reg wd (fun K hK => ?_) | refine Z.seq ?_ | refine Z.block ?_)))
  refine Z.loopK2 [0, 1, 5] ?_; (conv => whnf); refine LoopZ.mk (α := Nat) (fun i => [(5, vI i), (1, vI ((k + i : Nat) : Int))]) (fun i => []) (fun i => i ≤ n) (fun i => n - i) 0 rfl rfl (by omega) ?_; intro nF i hI next; refine Z.force ?_
  by_cases h : i < n
  · have hg := markL_get (k := k) h
    repeat' ((conv => whnf); (first | (refine hK _ _ _ ?_; clear hK K) | (show Z _ _ _ _ _ _ _ _; first | refine Z.reg wd (fun K hK => ?_) | refine Z.draw2 wd rfl (fun K hK => ?_) | refine Z.seq ?_ | refine Z.skip ?_ | refine Z.cond (E := Ee) ?_ | refine Z.block ?_ | refine Z.blockEnd ?_) | (show IfB _ _ _; first | refine IfB.DT (by first | assumption | omega | (simp; done) | fail) ?_ | refine IfB.DF (by first | assumption | omega | (simp; done) | fail) ?_) | (show Need _ _; first | refine Need.mk (by kernel_rfl) ?_ | refine Need.mk (by first | omega | (simp only [strMost, mostRows, rS_len, rI_len, List.length_append, List.length_map, List.length_set, List.length_replicate, List.length_cons, List.length_nil, List.length_drop, List.length_take, letterL_len, upL_len, pathL_len, clearL_len, fillL_len, markL_len]; done) | (simp only [strMost, mostRows, rS_len, rI_len, List.length_append, List.length_map, List.length_set, List.length_replicate, List.length_cons, List.length_nil, List.length_drop, List.length_take, letterL_len, upL_len, pathL_len, clearL_len, fillL_len, markL_len] at *; omega) | (simp at *; omega) | fail) ?_) | (show CallD _ _ _ _ _; first | refine CallD.mk _ (markText_ct _ (by first | omega | (simp only [strMost, mostRows, rS_len, rI_len, List.length_append, List.length_map, List.length_set, List.length_replicate, List.length_cons, List.length_nil, List.length_drop, List.length_take, letterL_len, upL_len, pathL_len, clearL_len, fillL_len, markL_len]; done) | (simp only [strMost, mostRows, rS_len, rI_len, List.length_append, List.length_map, List.length_set, List.length_replicate, List.length_cons, List.length_nil, List.length_drop, List.length_take, letterL_len, upL_len, pathL_len, clearL_len, fillL_len, markL_len] at *; omega) | (simp at *; omega) | fail) (by first | omega | (simp only [strMost, mostRows, rS_len, rI_len, List.length_append, List.length_map, List.length_set, List.length_replicate, List.length_cons, List.length_nil, List.length_drop, List.length_take, letterL_len, upL_len, pathL_len, clearL_len, fillL_len, markL_len]; done) | (simp only [strMost, mostRows, rS_len, rI_len, List.length_append, List.length_map, List.length_set, List.length_replicate, List.length_cons, List.length_nil, List.length_drop, List.length_take, letterL_len, upL_len, pathL_len, clearL_len, fillL_len, markL_len] at *; omega) | (simp at *; omega) | fail)) (by first | ((repeat' (first | exact trivial | exact fun _ => rfl | refine And.intro ?_ ?_ | (intro e; first | (simp at e; done) | (simp at e; omega)) | fail)); done) | fail) ?_) | (show Find _ _; first | refine Find.mk _ (rS_get (by assumption)) ?_) | (show Calc _ _; first | refine Calc.mk _ (rS_len _) ?_)))
    (refine Z.next2 (next (i + 1) (by omega) (by omega)) ?_; (conv => whnf); exact ⟨rfl, rfl, rfl⟩)
  · obtain rfl : i = n := by omega
    repeat' ((conv => whnf); (first | (refine hK _ _ _ ?_; clear hK K) | (show Z _ _ _ _ _ _ _ _; first | refine Z.reg wd (fun K hK => ?_) | refine Z.seq ?_ | refine Z.cond (E := Ee) ?_ | refine Z.ret rfl ?_ | refine Z.exit rfl ?_) | (show IfB _ _ _; first | refine IfB.DF (by first | assumption | omega | (simp; done) | fail) ?_) | (show Calc _ _; first | refine Calc.mk _ (rS_len _) ?_) | exact EqB.mk rfl))
def markM (k : Nat) (l : List (List UInt8)) (i : Nat) : List (List UInt8) := markL k i ++ l.drop i
theorem markM_len {k : Nat} {l : List (List UInt8)} {i : Nat} (h : i ≤ l.length) : (markM k l i).length = l.length := by
  unfold markM; rw [List.length_append, markL_len, List.length_drop]; omega
theorem markM_set {k : Nat} {l : List (List UInt8)} {i : Nat} (h : i < l.length) : (rS (markM k l i)).set i [.lit (.string (mk (markS (k + i))))] = rS (markM k l (i + 1)) := by
  rw [rS_set]
  congr 1
  unfold markM
  rw [List.set_append_right _ _ (by rw [markL_len]; exact Nat.le_refl _), markL_len, Nat.sub_self, List.drop_eq_getElem_cons h, List.set_cons_zero]
  unfold markL
  rw [List.range_succ, List.map_append]; simp
theorem markM_all (k : Nat) (l : List (List UInt8)) {i : Nat} (h : i = l.length) : markM k l i = markL k l.length := by
  subst h; unfold markM; simp
theorem markStrings_hc (l : List (List UInt8)) (k n : Nat) (cap : Option Nat) (hn : n = l.length) (hk : 0 < k) (hb : k + n ≤ 2 ^ 24) (hl : l.length ≤ mostRows) :
    HCt Tryd.prog 75 1 most [.rows 1 (rS l)] [.one (.ref 0 0 n cap), .one (.c (.lit (.int .i64 (k : Nat))))] (vI ((k + n : Nat) : Int)) [.rows 1 (rS (markL k l.length))] 1 := by
  simp only [mostRows] at hl
  refine HCt.z wd Tryd.func75 rfl rfl Tryd.ntmps75 rfl rfl ?_
  repeat' ((conv => whnf); (first | (refine hK _ _ _ ?_; clear hK K) | (show Z _ _ _ _ _ _ _ _; first | refine Z.reg wd (fun K hK => ?_) | refine Z.seq ?_ | refine Z.block ?_)))
  refine Z.loopK2 [0, 1, 5] ?_; (conv => whnf); refine LoopZ.mk (α := Nat) (fun i => [(5, vI i), (1, vI ((k + i : Nat) : Int))]) (fun i => [(0, .rows 1 (rS (markM k l i)))]) (fun i => i ≤ n) (fun i => n - i) 0 rfl rfl (by omega) ?_; intro nF i hI next; refine Z.force ?_
  by_cases h : i < n
  · have hi : i < l.length := by omega
    have hm := markM_len (k := k) (Nat.le_of_lt hi)
    repeat' ((conv => whnf); (first | (refine hK _ _ _ ?_; clear hK K) | (show Z _ _ _ _ _ _ _ _; first | refine Z.reg wd (fun K hK => ?_) | refine Z.seq ?_ | refine Z.skip ?_ | refine Z.cond (E := Ee) ?_ | refine Z.block ?_ | refine Z.blockEnd ?_) | (show IfB _ _ _; first | refine IfB.DT (by first | assumption | omega | (simp; done) | fail) ?_) | (show Need _ _; first | refine Need.mk (by first | omega | (simp only [strMost, mostRows, rS_len, rI_len, List.length_append, List.length_map, List.length_set, List.length_replicate, List.length_cons, List.length_nil, List.length_drop, List.length_take, letterL_len, upL_len, pathL_len, clearL_len, fillL_len, markL_len]; done) | (simp only [strMost, mostRows, rS_len, rI_len, List.length_append, List.length_map, List.length_set, List.length_replicate, List.length_cons, List.length_nil, List.length_drop, List.length_take, letterL_len, upL_len, pathL_len, clearL_len, fillL_len, markL_len] at *; omega) | (simp at *; omega) | fail) ?_) | (show CallW _ _ _ _; first | refine CallW.mk _ (markText_ct _ (by first | omega | (simp only [strMost, mostRows, rS_len, rI_len, List.length_append, List.length_map, List.length_set, List.length_replicate, List.length_cons, List.length_nil, List.length_drop, List.length_take, letterL_len, upL_len, pathL_len, clearL_len, fillL_len, markL_len]; done) | (simp only [strMost, mostRows, rS_len, rI_len, List.length_append, List.length_map, List.length_set, List.length_replicate, List.length_cons, List.length_nil, List.length_drop, List.length_take, letterL_len, upL_len, pathL_len, clearL_len, fillL_len, markL_len] at *; omega) | (simp at *; omega) | fail) (by first | omega | (simp only [strMost, mostRows, rS_len, rI_len, List.length_append, List.length_map, List.length_set, List.length_replicate, List.length_cons, List.length_nil, List.length_drop, List.length_take, letterL_len, upL_len, pathL_len, clearL_len, fillL_len, markL_len]; done) | (simp only [strMost, mostRows, rS_len, rI_len, List.length_append, List.length_map, List.length_set, List.length_replicate, List.length_cons, List.length_nil, List.length_drop, List.length_take, letterL_len, upL_len, pathL_len, clearL_len, fillL_len, markL_len] at *; omega) | (simp at *; omega) | fail)) ?_) | (show Find _ _; first | refine Find.mk _ (rS_getD (by first | omega | (simp only [strMost, mostRows, rS_len, rI_len, List.length_append, List.length_map, List.length_set, List.length_replicate, List.length_cons, List.length_nil, List.length_drop, List.length_take, letterL_len, upL_len, pathL_len, clearL_len, fillL_len, markL_len]; done) | (simp only [strMost, mostRows, rS_len, rI_len, List.length_append, List.length_map, List.length_set, List.length_replicate, List.length_cons, List.length_nil, List.length_drop, List.length_take, letterL_len, upL_len, pathL_len, clearL_len, fillL_len, markL_len] at *; omega) | (simp at *; omega) | fail)) ?_) | (show Calc _ _; first | refine Calc.mk _ (markM_set (by assumption)) ?_ | refine Calc.mk _ (rS_takeall (by first | rfl | assumption | (simp only [rS_len, rI_len, List.length_append, List.length_map, List.length_set, List.length_replicate, List.length_cons, List.length_nil, Nat.zero_add, letterL_len, upL_len, pathL_len, clearL_len, fillL_len, markL_len]; done) | omega | (simp only [rS_len, rI_len, List.length_append, List.length_map, List.length_set, List.length_replicate, List.length_cons, List.length_nil, List.length_drop, List.length_take, letterL_len, upL_len, pathL_len, clearL_len, fillL_len, markL_len] at *; omega) | fail)) ?_ | refine Calc.mk _ (rS_len _) ?_ | refine Calc.mk _ (Nat.zero_add _) ?_)))
    (refine Z.next2 (next (i + 1) (by omega) (by omega)) ?_; (conv => whnf); exact ⟨rfl, rfl, rfl⟩)
  · rw [markM_all k l (by omega)]
    obtain rfl : i = n := by omega
    have hml := markL_len k l.length
    repeat' ((conv => whnf); (first | (refine hK _ _ _ ?_; clear hK K) | (show Z _ _ _ _ _ _ _ _; first | refine Z.reg wd (fun K hK => ?_) | refine Z.seq ?_ | refine Z.cond (E := Ee) ?_ | refine Z.hret2 [4] rfl ?_ | refine Z.exit rfl ?_) | (show IfB _ _ _; first | refine IfB.DF (by first | assumption | omega | (simp; done) | fail) ?_) | (show Calc _ _; first | refine Calc.mk _ (rS_takeall (by first | rfl | assumption | (simp only [rS_len, rI_len, List.length_append, List.length_map, List.length_set, List.length_replicate, List.length_cons, List.length_nil, Nat.zero_add, letterL_len, upL_len, pathL_len, clearL_len, fillL_len, markL_len]; done) | omega | (simp only [rS_len, rI_len, List.length_append, List.length_map, List.length_set, List.length_replicate, List.length_cons, List.length_nil, List.length_drop, List.length_take, letterL_len, upL_len, pathL_len, clearL_len, fillL_len, markL_len] at *; omega) | fail)) ?_ | refine Calc.mk _ (rS_len _) ?_) | (show EqH _ _ _ _; first | exact EqH.mk2 rfl rfl)))
theorem markTree_hc (l : List (List UInt8)) (k n : Nat) (cap : Option Nat) (hn : n = l.length) (hk : 0 < k) (hb : k + n ≤ 2 ^ 24) (hl : l.length ≤ mostRows) :
    HCt Tryd.prog 30 1 most [.rows 1 (rS l)] [.agg [.ref 0 0 n cap], .one (.c (.lit (.int .i64 (k : Nat))))] (vI ((k + n : Nat) : Int)) [.rows 1 (rS (markL k l.length))] 1 := by
  refine HCt.z wd Tryd.func30 rfl rfl Tryd.ntmps30 rfl rfl ?_
  repeat' ((conv => whnf); (first | (refine hK _ _ _ ?_; clear hK K) | (show Z _ _ _ _ _ _ _ _; first | refine Z.reg wd (fun K hK => ?_) | refine Z.seq ?_ | refine Z.hret2 [4] rfl ?_) | (show RawW _; first | refine RawW.mk (O.hcallG wd rfl rfl rfl rfl rfl rfl rfl rfl rfl (markStrings_hc _ _ _ _ (by first | rfl | assumption | (simp only [rS_len, rI_len, List.length_append, List.length_map, List.length_set, List.length_replicate, List.length_cons, List.length_nil, Nat.zero_add, letterL_len, upL_len, pathL_len, clearL_len, fillL_len, markL_len]; done) | omega | (simp only [rS_len, rI_len, List.length_append, List.length_map, List.length_set, List.length_replicate, List.length_cons, List.length_nil, List.length_drop, List.length_take, letterL_len, upL_len, pathL_len, clearL_len, fillL_len, markL_len] at *; omega) | fail) (by first | omega | (simp only [strMost, mostRows, rS_len, rI_len, List.length_append, List.length_map, List.length_set, List.length_replicate, List.length_cons, List.length_nil, List.length_drop, List.length_take, letterL_len, upL_len, pathL_len, clearL_len, fillL_len, markL_len]; done) | (simp only [strMost, mostRows, rS_len, rI_len, List.length_append, List.length_map, List.length_set, List.length_replicate, List.length_cons, List.length_nil, List.length_drop, List.length_take, letterL_len, upL_len, pathL_len, clearL_len, fillL_len, markL_len] at *; omega) | (simp at *; omega) | fail) (by first | omega | (simp only [strMost, mostRows, rS_len, rI_len, List.length_append, List.length_map, List.length_set, List.length_replicate, List.length_cons, List.length_nil, List.length_drop, List.length_take, letterL_len, upL_len, pathL_len, clearL_len, fillL_len, markL_len]; done) | (simp only [strMost, mostRows, rS_len, rI_len, List.length_append, List.length_map, List.length_set, List.length_replicate, List.length_cons, List.length_nil, List.length_drop, List.length_take, letterL_len, upL_len, pathL_len, clearL_len, fillL_len, markL_len] at *; omega) | (simp at *; omega) | fail) (by first | omega | (simp only [strMost, mostRows, rS_len, rI_len, List.length_append, List.length_map, List.length_set, List.length_replicate, List.length_cons, List.length_nil, List.length_drop, List.length_take, letterL_len, upL_len, pathL_len, clearL_len, fillL_len, markL_len]; done) | (simp only [strMost, mostRows, rS_len, rI_len, List.length_append, List.length_map, List.length_set, List.length_replicate, List.length_cons, List.length_nil, List.length_drop, List.length_take, letterL_len, upL_len, pathL_len, clearL_len, fillL_len, markL_len] at *; omega) | (simp at *; omega) | fail)) rfl rfl rfl ?_)) | refine Z.opsF wd (fun K hK => ?_) | (show EqH _ _ _ _; first | exact EqH.mk2 rfl rfl)))
theorem heldTree_ct (k n : Nat) (hk : 0 < k) (hb : k + n ≤ 2 ^ 24) (hn : n ≤ mostRows) : Ct Tryd.prog 31 [bT (markL k n), bI k] (.w (bI ((k + n : Nat) : Int))) := by
  refine Ct.z wd Tryd.func31 rfl rfl Tryd.ntmps31 rfl rfl rfl rfl ?_
  repeat' ((conv => whnf); (first | (refine hK _ _ _ ?_; clear hK K) | (show Z _ _ _ _ _ _ _ _; first | refine Z.reg wd (fun K hK => ?_) | refine Z.seq ?_ | refine Z.skip ?_ | refine Z.cond (E := Ee) ?_ | refine Z.ret rfl ?_) | (show IfB _ _ _; first | refine IfB.F rfl ?_) | (show CallW _ _ _ _; first | refine CallW.mk _ (heldStrings_ct _ _ (by first | omega | (simp only [strMost, mostRows, rS_len, rI_len, List.length_append, List.length_map, List.length_set, List.length_replicate, List.length_cons, List.length_nil, List.length_drop, List.length_take, letterL_len, upL_len, pathL_len, clearL_len, fillL_len, markL_len]; done) | (simp only [strMost, mostRows, rS_len, rI_len, List.length_append, List.length_map, List.length_set, List.length_replicate, List.length_cons, List.length_nil, List.length_drop, List.length_take, letterL_len, upL_len, pathL_len, clearL_len, fillL_len, markL_len] at *; omega) | (simp at *; omega) | fail) (by first | omega | (simp only [strMost, mostRows, rS_len, rI_len, List.length_append, List.length_map, List.length_set, List.length_replicate, List.length_cons, List.length_nil, List.length_drop, List.length_take, letterL_len, upL_len, pathL_len, clearL_len, fillL_len, markL_len]; done) | (simp only [strMost, mostRows, rS_len, rI_len, List.length_append, List.length_map, List.length_set, List.length_replicate, List.length_cons, List.length_nil, List.length_drop, List.length_take, letterL_len, upL_len, pathL_len, clearL_len, fillL_len, markL_len] at *; omega) | (simp at *; omega) | fail) (by first | omega | (simp only [strMost, mostRows, rS_len, rI_len, List.length_append, List.length_map, List.length_set, List.length_replicate, List.length_cons, List.length_nil, List.length_drop, List.length_take, letterL_len, upL_len, pathL_len, clearL_len, fillL_len, markL_len]; done) | (simp only [strMost, mostRows, rS_len, rI_len, List.length_append, List.length_map, List.length_set, List.length_replicate, List.length_cons, List.length_nil, List.length_drop, List.length_take, letterL_len, upL_len, pathL_len, clearL_len, fillL_len, markL_len] at *; omega) | (simp at *; omega) | fail)) ?_) | exact EqB.mk rfl))
theorem eqTree_ct (a b : List (List UInt8)) (hl : a.length ≤ mostRows) (hb : b.length ≤ mostRows) : Ct Tryd.prog 29 [bT a, bT b] (.w (bB (eqL a b))) := by
  refine Ct.z wd Tryd.func29 rfl rfl Tryd.ntmps29 rfl rfl rfl rfl ?_
  repeat' ((conv => whnf); (first | (refine hK _ _ _ ?_; clear hK K) | (show Z _ _ _ _ _ _ _ _; first | refine Z.reg wd (fun K hK => ?_) | refine Z.seq ?_ | refine Z.skip ?_ | refine Z.cond (E := Ee) ?_ | refine Z.ret rfl ?_) | (show IfB _ _ _; first | refine IfB.N ?_ | refine IfB.mk (fun h => ?_) (fun h => ?_)) | (show CallW _ _ _ _; first | refine CallW.mk _ (eqStrings_ct _ _ (by first | omega | (simp only [strMost, mostRows, rS_len, rI_len, List.length_append, List.length_map, List.length_set, List.length_replicate, List.length_cons, List.length_nil, List.length_drop, List.length_take, letterL_len, upL_len, pathL_len, clearL_len, fillL_len, markL_len]; done) | (simp only [strMost, mostRows, rS_len, rI_len, List.length_append, List.length_map, List.length_set, List.length_replicate, List.length_cons, List.length_nil, List.length_drop, List.length_take, letterL_len, upL_len, pathL_len, clearL_len, fillL_len, markL_len] at *; omega) | (simp at *; omega) | fail) (by first | omega | (simp only [strMost, mostRows, rS_len, rI_len, List.length_append, List.length_map, List.length_set, List.length_replicate, List.length_cons, List.length_nil, List.length_drop, List.length_take, letterL_len, upL_len, pathL_len, clearL_len, fillL_len, markL_len]; done) | (simp only [strMost, mostRows, rS_len, rI_len, List.length_append, List.length_map, List.length_set, List.length_replicate, List.length_cons, List.length_nil, List.length_drop, List.length_take, letterL_len, upL_len, pathL_len, clearL_len, fillL_len, markL_len] at *; omega) | (simp at *; omega) | fail)) ?_) | refine EqB.mk ?_))
  all_goals (first | (rw [‹eqL a b = _›]; done) | skip)
end Go.Proofs.YtfokmnafgabdiaaDoor.Eng
/- The law FnExactTreClear, whatever the arguments. -/
namespace Go.Proofs.YtfokmnafgabdiaaDoor.Eng
open Go Go.RowKit Kw
set_option linter.unusedVariables false
set_option linter.unusedSimpArgs false
set_option maxRecDepth 10000
attribute [local irreducible] Ct HCt
set_option maxHeartbeats 4000000
end Go.Proofs.YtfokmnafgabdiaaDoor.Eng
