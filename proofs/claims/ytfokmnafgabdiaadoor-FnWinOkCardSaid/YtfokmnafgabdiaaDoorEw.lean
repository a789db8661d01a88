/- Merged: V36, V37, V38. -/
import Derived.Test.YtfokmnafgabdiaaDoorEv
/- The law FnWinOk, whatever the bytes. -/
namespace Go.Proofs.YtfokmnafgabdiaaDoor.Eng
open Go Go.RowKit Kw
set_option linter.unusedVariables false
set_option linter.unusedSimpArgs false
set_option maxRecDepth 10000
set_option maxHeartbeats 4000000
attribute [local irreducible] Ct HCt
theorem bytes_take {z : List Int} (h : ∀ x ∈ z, 0 ≤ x ∧ x < 256) : bytesOk (z.take 2000) :=
  ⟨by simp; omega, fun x hx => h x (List.mem_of_mem_take hx)⟩
abbrev bZ (z : List Int) : BW := .one (.b (.c (.ro 1 (byteRows z))))
theorem drawWinOk_ex (z : List Int) (hz : ∀ x ∈ z, 0 ≤ x ∧ x < 256) (hl : z.length ≤ mostRows) : ∃ key top l, Ct Tryd.prog 32 [bZ z] (.w (bW key top l)) ∧ key.length ≤ 1000 ∧ (0 ≤ top ∧ top ≤ 1000) ∧ l.length ≤ 100 := by
  obtain ⟨key, top, l, q, hwin, h1, h2, h3, h4, h5⟩ := win_ex (z.take 2000) (bytes_take hz) 2 (by omega) 0 (by omega)
  refine ⟨key, top, l, Ct.toRo (r := .w (oW key top l none)) ?_ rfl rfl, h1, h2, h3⟩
  refine Ct.z wd Tryd.func32 rfl rfl Tryd.ntmps32 rfl rfl rfl rfl ?_
  repeat' ((conv => whnf); (first | (refine hK _ _ _ ?_; clear hK K) | (show Z _ _ _ _ _ _ _ _; first | refine Z.reg wd (fun K hK => ?_) | refine Z.seq ?_ | refine Z.ret rfl ?_) | (show RawW _; first | refine RawW.mk (O.hcallG wd rfl rfl rfl rfl rfl rfl rfl rfl rfl (open_hc _ (by first | omega | (simp only [strMost, mostRows, rS_len, rI_len, List.length_append, List.length_map, List.length_set, List.length_replicate, List.length_cons, List.length_nil, List.length_drop, List.length_take, letterL_len, upL_len, pathL_len, clearL_len, fillL_len, markL_len, setL_len, fillI_len, markIL_len, rO_len, ownP_len, firstM_len, markOL_len, bR_len]; done) | (simp only [strMost, mostRows, rS_len, rI_len, List.length_append, List.length_map, List.length_set, List.length_replicate, List.length_cons, List.length_nil, List.length_drop, List.length_take, letterL_len, upL_len, pathL_len, clearL_len, fillL_len, markL_len, setL_len, fillI_len, markIL_len, rO_len, ownP_len, firstM_len, markOL_len, bR_len] at *; omega) | (simp at *; omega) | fail)) rfl rfl rfl ?_) | refine RawW.mk (O.hcallG wd rfl rfl rfl rfl rfl rfl rfl rfl rfl hwin rfl rfl rfl ?_)) | ((try clear hK K); refine Z.opsF wd (fun K hK => ?_)) | (show Calc _ _; first | refine Calc.mk _ (vw_all _) ?_) | exact EqB.mk rfl))
theorem okA1 : okS [65, 49, 59] = true := by decide +kernel
theorem keOk_ct : Ct Tryd.prog 34 [] (.w (bB true)) := by
  have e := okA1
  refine Ct.z wd Tryd.func34 rfl rfl Tryd.ntmps34 rfl rfl rfl rfl ?_
  repeat' ((conv => whnf); (first | (refine hK _ _ _ ?_; clear hK K) | (show Z _ _ _ _ _ _ _ _; first | refine Z.reg wd (fun K hK => ?_) | refine Z.seq ?_ | refine Z.ret rfl ?_) | (show CallW _ _ _ _; first | refine CallW.mk _ (secOk_ct _) ?_) | refine EqB.mk ?_))
  all_goals (first | (rw [e]; done) | skip)
theorem okW_rng {k : List UInt8} {top : Int} {l : List Int} (h : okW k top l = true) : ∀ (i : Nat) (x : Int), l[i]? = some x → top - 8 < x ∧ x ≤ top := by
  obtain ⟨_, ht, h0, hf⟩ := okW_iff.1 h
  have hF := falls_of hf
  intro i x hx
  have hi : i < l.length := (List.getElem?_eq_some_iff.1 hx).1
  have hxe : l[i] = x := (List.getElem?_eq_some_iff.1 hx).2
  refine ⟨(fallD_iff.1 hf i (by omega) _ hx).2.1, ?_⟩
  have e0 : 0 < l.length := by omega
  rw [List.getElem?_eq_getElem e0] at h0
  have h0 := Option.some.inj h0
  cases i with
  | zero => omega
  | succ i =>
    have := (List.pairwise_iff_getElem.1 hF) 0 (i + 1) e0 hi (by omega)
    omega
theorem okW_dup {k : List UInt8} {top : Int} {l : List Int} (h : okW k top l = true) : okW k top (top :: l) = false := by
  cases e : okW k top (top :: l) with
  | false => rfl
  | true =>
    obtain ⟨_, _, h0, _⟩ := okW_iff.1 h
    have hf := falls_of (okW_iff.1 e).2.2.2
    have := (List.pairwise_cons.1 hf).1 top (List.mem_of_getElem? h0)
    omega
theorem rI_cons (a : Int) (l : List Int) : [[C.lit (.int .i64 a)]] ++ rI l = rI (a :: l) := rfl
theorem bytes_ok {w : World} {a : Option Addr} {len cap : Nat} {zs : List Int} (h : ByteRow w a len cap zs) : (∀ x ∈ zs.take len, 0 ≤ x ∧ x < 256) ∧ (zs.take len).length ≤ 9223372036854775807 := by
  rcases h with ⟨_, _, _, rfl⟩ | ⟨x, _, hl, hm, hz, _, hwf⟩
  · simp
  · refine ⟨fun x hx => ?_, ?_⟩
    · have := hwf x (List.mem_of_mem_take hx)
      have e1 : IntKind.u8.min = 0 := by decide
      have e2 : IntKind.u8.max = 255 := by decide
      simp only [Lit.wf, Bool.and_eq_true, decide_eq_true_eq, e1, e2] at this
      omega
    · have : maxLen = 9223372036854775807 := rfl
      rw [List.length_take]; omega
theorem fnWinOk_ct (z : List Int) (hz : ∀ x ∈ z, 0 ≤ x ∧ x < 256) (hz2 : z.length ≤ 9223372036854775807) : Ct Tryd.prog 6 [bZ z] (.w (bB true)) := by
  by_cases hzl : (z.length : Int) > 1048576
  case pos =>
    refine Ct.z wd Tryd.func6 rfl rfl Tryd.ntmps6 rfl rfl rfl rfl ?_
    repeat' ((conv => whnf); (first | (refine hK _ _ _ ?_; clear hK K) | (show Z _ _ _ _ _ _ _ _; first | refine Z.reg wd (fun K hK => ?_) | refine Z.seq ?_ | refine Z.cond (E := Ee) ?_ | refine Z.ret rfl ?_) | (show IfB _ _ _; first | refine IfB.DT (by first | assumption | omega | (simp; done) | fail) ?_) | (show Calc _ _; first | refine Calc.mk _ (bR_len _) ?_) | exact EqB.mk rfl))
  obtain ⟨key, top, l, hdraw, h1, h2, h3⟩ := drawWinOk_ex z hz (by simp only [mostRows]; omega)
  have hw1 := winOk_ct key top l (by simp only [mostRows]; omega)
  have hw2 := sWinOk_ct key top l (by simp only [mostRows]; omega)
  have hw3 := winOk_ct key top (top :: l) (by simp only [mostRows, List.length_cons]; omega)
  have hrl := rI_len l
  cases e : okW key top l with
  | false =>
    rw [e] at hw1 hw2
    refine Ct.z wd Tryd.func6 rfl rfl Tryd.ntmps6 rfl rfl rfl rfl ?_
    repeat' ((conv => whnf); (first | (refine hK _ _ _ ?_; clear hK K) | (show Z _ _ _ _ _ _ _ _; first | refine Z.reg wd (fun K hK => ?_) | refine Z.seq ?_ | refine Z.skip ?_ | refine Z.cond (E := Ee) ?_ | refine Z.ret rfl ?_) | (show IfB _ _ _; first | refine IfB.T rfl ?_ | refine IfB.F rfl ?_ | refine IfB.DF (by first | assumption | omega | (simp; done) | fail) ?_) | (show CallW _ _ _ _; first | refine CallW.mk _ hdraw ?_ | refine CallW.mk _ hw1 ?_ | refine CallW.mk _ hw2 ?_ | refine CallW.mk _ keOk_ct ?_) | (show Calc _ _; first | refine Calc.mk _ (bR_len _) ?_) | exact EqB.mk rfl))
  | true =>
    rw [okW_dup e] at hw3
    have hrng := okW_rng e
    have hlen := okW_len e
    rw [e] at hw1 hw2
    clear e
    refine Ct.z wd Tryd.func6 rfl rfl Tryd.ntmps6 rfl rfl rfl rfl ?_
    repeat' ((conv => whnf); (first | (refine hK _ _ _ ?_; clear hK K) | (show Z _ _ _ _ _ _ _ _; first | refine Z.reg wd (fun K hK => ?_) | refine Z.seq ?_ | refine Z.skip ?_ | refine Z.cond (E := Ee) ?_ | refine Z.block ?_) | (show IfB _ _ _; first | refine IfB.F rfl ?_ | refine IfB.DF (by first | assumption | omega | (simp; done) | fail) ?_) | (show CallW _ _ _ _; first | refine CallW.mk _ hdraw ?_ | refine CallW.mk _ hw1 ?_ | refine CallW.mk _ hw2 ?_) | (show Calc _ _; first | refine Calc.mk _ (bR_len _) ?_)))
    refine Z.loopK2 [3, 5] ?_; (conv => whnf); refine LoopZ.mk (α := Nat) (fun i => [(5, vI i)]) (fun i => []) (fun i => i ≤ l.length) (fun i => l.length - i) 0 rfl rfl (by omega) ?_; intro nF i hI next; refine Z.force ?_
    by_cases hlt : i < l.length
    · obtain ⟨x, hx⟩ : ∃ x, l[i]? = some x := ⟨_, List.getElem?_eq_getElem hlt⟩
      have hr := hrng i x hx
      repeat' ((conv => whnf); (first | (refine hK _ _ _ ?_; clear hK K) | (show Z _ _ _ _ _ _ _ _; first | refine Z.reg wd (fun K hK => ?_) | refine Z.draw2 wd rfl (fun K hK => ?_) | refine Z.seq ?_ | refine Z.skip ?_ | refine Z.cond (E := Ee) ?_ | refine Z.block ?_ | refine Z.blockEnd ?_) | (show IfB _ _ _; first | refine IfB.F rfl ?_ | refine IfB.DT (by first | assumption | omega | (simp; done) | fail) ?_ | refine IfB.DF (by first | assumption | omega | (simp; done) | fail) ?_) | (show Need _ _; first | refine Need.mk (by kernel_rfl) ?_ | refine Need.mk (by first | omega | (simp only [strMost, mostRows, rS_len, rI_len, List.length_append, List.length_map, List.length_set, List.length_replicate, List.length_cons, List.length_nil, List.length_drop, List.length_take, letterL_len, upL_len, pathL_len, clearL_len, fillL_len, markL_len, setL_len, fillI_len, markIL_len, rO_len, ownP_len, firstM_len, markOL_len, bR_len]; done) | (simp only [strMost, mostRows, rS_len, rI_len, List.length_append, List.length_map, List.length_set, List.length_replicate, List.length_cons, List.length_nil, List.length_drop, List.length_take, letterL_len, upL_len, pathL_len, clearL_len, fillL_len, markL_len, setL_len, fillI_len, markIL_len, rO_len, ownP_len, firstM_len, markOL_len, bR_len] at *; omega) | (simp at *; omega) | fail) ?_) | (show Find _ _; first | refine Find.mk _ (rI_get (by assumption)) ?_) | (show Calc _ _; first | refine Calc.mk _ (rI_len _) ?_)))
      (refine Z.next2 (next (i + 1) (by omega) (by omega)) ?_; (conv => whnf); exact ⟨rfl, rfl, rfl⟩)
    · repeat' ((conv => whnf); (first | (refine hK _ _ _ ?_; clear hK K) | (show Z _ _ _ _ _ _ _ _; first | refine Z.reg wd (fun K hK => ?_) | refine Z.draw2 wd rfl (fun K hK => ?_) | refine Z.seq ?_ | refine Z.cond (E := Ee) ?_ | refine Z.ret rfl ?_ | refine Z.exit rfl ?_) | (show IfB _ _ _; first | refine IfB.T rfl ?_ | refine IfB.DF (by first | assumption | omega | (simp; done) | fail) ?_) | (show Need _ _; first | refine Need.mk ⟨by first | (simp only [BV.untie, BW.untie, B1.untie, B0.untie, untie_rI, untie_rS, List.map_cons, List.map_nil, untie_rO]; done) | (simp only [BV.untie, BW.untie, B1.untie, B0.untie, untie_rI, untie_rS, List.map_cons, List.map_nil, untie_rO]; rfl) | fail, rfl⟩ ?_ | refine Need.mk (by kernel_rfl) ?_ | refine Need.mk ⟨by kernel_rfl, by kernel_rfl, by kernel_rfl⟩ ?_ | refine Need.mk ⟨(by first | rfl | assumption | (simp only [rS_len, rI_len, List.length_append, List.length_map, List.length_set, List.length_replicate, List.length_cons, List.length_nil, Nat.zero_add, letterL_len, upL_len, pathL_len, clearL_len, fillL_len, markL_len, setL_len, fillI_len, markIL_len, rO_len, ownP_len, firstM_len, markOL_len, bR_len]; done) | omega | (simp only [rS_len, rI_len, List.length_append, List.length_map, List.length_set, List.length_replicate, List.length_cons, List.length_nil, List.length_drop, List.length_take, letterL_len, upL_len, pathL_len, clearL_len, fillL_len, markL_len, setL_len, fillI_len, markIL_len, rO_len, ownP_len, firstM_len, markOL_len, bR_len] at *; omega) | fail), (by first | omega | (simp only [strMost, mostRows, rS_len, rI_len, List.length_append, List.length_map, List.length_set, List.length_replicate, List.length_cons, List.length_nil, List.length_drop, List.length_take, letterL_len, upL_len, pathL_len, clearL_len, fillL_len, markL_len, setL_len, fillI_len, markIL_len, rO_len, ownP_len, firstM_len, markOL_len, bR_len]; done) | (simp only [strMost, mostRows, rS_len, rI_len, List.length_append, List.length_map, List.length_set, List.length_replicate, List.length_cons, List.length_nil, List.length_drop, List.length_take, letterL_len, upL_len, pathL_len, clearL_len, fillL_len, markL_len, setL_len, fillI_len, markIL_len, rO_len, ownP_len, firstM_len, markOL_len, bR_len] at *; omega) | (simp at *; omega) | fail)⟩ ?_) | (show CallD _ _ _ _ _; first | refine CallD.mk _ hw3 (by first | ((repeat' (first | exact trivial | exact fun _ => rfl | refine And.intro ?_ ?_ | (intro e; first | (simp at e; done) | (simp at e; omega)) | fail)); done) | fail) ?_) | (show Calc _ _; first | refine Calc.mk _ (vw_all _) ?_ | refine Calc.mk _ (rI_cons _ _) ?_ | refine Calc.mk _ (rI_len _) ?_) | refine EqB.mk ?_))
      rw [decide_eq_true (by omega)]
end Go.Proofs.YtfokmnafgabdiaaDoor.Eng
/- The law FnWinTake: what it needs. -/
namespace Go.Proofs.YtfokmnafgabdiaaDoor.Eng
open Go Go.RowKit Kw
set_option linter.unusedVariables false
set_option linter.unusedSimpArgs false
set_option maxRecDepth 10000
set_option maxHeartbeats 4000000
attribute [local irreducible] Ct HCt
end Go.Proofs.YtfokmnafgabdiaaDoor.Eng
/- The law FnWinTake, whatever the bytes. -/
namespace Go.Proofs.YtfokmnafgabdiaaDoor.Eng
open Go Go.RowKit Kw
set_option linter.unusedVariables false
set_option linter.unusedSimpArgs false
set_option maxRecDepth 10000
set_option maxHeartbeats 4000000
attribute [local irreducible] Ct HCt
end Go.Proofs.YtfokmnafgabdiaaDoor.Eng
