/- Merged: R5. -/
import Derived.Test.YtfokmnafgabdiaaDoorEq
import Derived.Test.YtfokmnafgabdiaaDoorEi
import Derived.Test.YtfokmnafgabdiaaDoorCards
import Derived.Test.YtfokmnafgabdiaaDoorTie
import Derived.WalkKit
import Derived.ProofKit
import Derived.OpenShut
import Derived.Below
import Derived.Lay
import Derived.Deep.DeepHandedRow
import Derived.Deep.DeepWitnessRowRef
/- The law FnExactWinTake: its row and its card. -/
namespace Go.Proofs.YtfokmnafgabdiaaDoor.fnExactWinTake
open Go Go.ChangeShapes Go.WideShapes Go.ChangeAt Go.RowKit Go.Proofs.YtfokmnafgabdiaaDoor.Eng
set_option linter.unusedVariables false
set_option maxRecDepth 100000

theorem own : ownKnob Tryd.prog.godebug = none := by kernel_rfl
theorem laidOut : laidOutB Tryd.prog = true := by kernel_rfl
theorem gl {W : World} (h : laidMetH Tryd.prog Rows.fnExactWinTakeRow.laid W) : Gl W (AllB W) :=
  gl_of (n := "strconv.ErrSyntax") (g := 4) h (by kernel_rfl) (show ("strconv.ErrSyntax", Rows.laid_strconv_ErrSyntax) ∈ Rows.fnExactWinTakeRow.laid from by simp [Rows.fnExactWinTakeRow]) (by kernel_rfl) (ti := 119) (by kernel_rfl) Tryd.underlying119 rfl

theorem rows_ints : ∀ (rows : List (List C)), (∀ r ∈ rows, ∃ m : Int, r = [.lit (.int .i64 m)] ∧ (Lit.int .i64 m).wf = true) → ∃ l : List Int, rows = rI l ∧ l.length = rows.length
  | [], _ => ⟨[], rfl, rfl⟩
  | r :: rows, h => by
    obtain ⟨m, rfl, _⟩ := h r (by simp)
    obtain ⟨l, h1, h2⟩ := rows_ints rows fun r hr => h r (by simp [hr])
    exact ⟨m :: l, by rw [h1]; rfl, by simp [h2]⟩
/-- A window. -/
theorem win_arg {base : Nat} {W : World} {H : Type} {enc : TypeId × Value → H} {v : Value} {d : DataW H} {p : List MemPlace} (hv : Value.okWide Tryd.prog W .any base 54 v) (h : DataW.Trod enc Tryd.prog W 0 (fun _ => true) true 54 v d p) :
    ∃ (k : List UInt8) (t : Int) (l : List Int), RW W (AllB W) (fun _ => none) [] (.agg [.c (.lit (.string (mk k))), .c (.lit (.int .i64 t)), .c (.ro 1 (rI l))]) v ∧ k.length ≤ maxLen ∧ l.length ≤ maxLen := by
  obtain ⟨cs, rfl, _⟩ := okWide_struct Tryd.underlying54 hv
  obtain ⟨n, hn⟩ := h
  obtain ⟨xs, h1, h2, h3⟩ := shape_of 4 n _ _ _ (by kernel_rfl) hn
  simp only [Shape, Tryd.underlying54, Shapes, Tryd.underlying30, Tryd.underlying3, Tryd.underlying9] at h3
  obtain ⟨_, _, rfl, ⟨s, rfl, h4⟩, _, _, rfl, ⟨m, rfl, _⟩, _, _, rfl, ⟨rows, rfl, h5, h6⟩, rfl⟩ := h3
  obtain ⟨l, rfl, h7⟩ := rows_ints rows h6
  rw [show Tryd.prog.cellsOf 3 = 1 from by kernel_rfl] at h2
  exact ⟨s.data.toList, m, l, ⟨cs, rfl, all2_c h2⟩, h4, by rw [h7]; exact h5⟩

/-- A number. -/
theorem int_arg {base : Nat} {W : World} {v : Value} (hv : Value.okWide Tryd.prog W .any base 3 v) : ∃ n : Int, v = .int .i64 n := okWide_int Tryd.underlying3 hv

theorem contract (H : Type) (enc : TypeId × Value → H) (W : World) (base : Nat) (args : Array Value) (ds gs : List (DataW H)) (before : List MemPlace)
    (hval : ∀ (j : Nat) t v, Tryd.f8.params[j]? = some t → args[j]? = some v → Value.okWide Tryd.prog W .any base t v)
    (hW : DataW.Whole enc Tryd.prog Tryd.f8.params.toList Rows.fnExactWinTakeSpec.vars false W args.toList ds gs before) (hlaid : laidMetH Tryd.prog Rows.fnExactWinTakeRow.laid W) :
    Calls Tryd.prog 8 args W fun e W' => ∃ v, e = .returned v ∧ Rows.fnExactWinTakeSpec.post enc Tryd.prog Tryd.f8 false true false false W args v W' := by
  have hW' := hW
  obtain ⟨p, q, hA0, hV, rfl, hfz, hnd⟩ := hW
  have r : DataW.TrodAll enc Tryd.prog W 0 (fun _ => true) true Tryd.f8.params.toList args.toList ds p := hA0
  rw [Tryd.params8] at r hval
  obtain ⟨v0, vs0, d0, ds0, p0, q0, hargs0, rfl, rfl, h0, r0⟩ := trodAll_cons r
  obtain ⟨v1, vs1, d1, ds1, p1, q1, hargs1, rfl, rfl, h1, r1⟩ := trodAll_cons r0
  obtain ⟨rfl, rfl, rfl⟩ := trodAll_nil r1
  obtain rfl : args = #[v0, v1] := by cases args; simp_all
  obtain ⟨rfl, rfl⟩ := trodVars_none hV
  have k0 := h0
  have lt0 : ∀ x ∈ p0, x.block < W.heap.size := by obtain ⟨m, hm⟩ := k0; exact DataW.trod_lt m _ _ _ hm
  have k1 := h1
  have lt1 : ∀ x ∈ p1, x.block < W.heap.size := by obtain ⟨m, hm⟩ := k1; exact DataW.trod_lt m _ _ _ hm
  obtain ⟨y0, t0, l0, g0, a0, b0⟩ := win_arg (hval 0 54 v0 rfl rfl) h0
  obtain ⟨n1, rfl⟩ := int_arg (hval 1 3 v1 rfl rfl)
  clear hA0
  refine (law_of (exactWinTake_ct y0 t0 l0 n1 a0 b0) (ws := [.agg [.c (.lit (.string (mk y0))), .c (.lit (.int .i64 t0)), .c (.ro 1 (rI l0))], .one (.c (.lit (.int .i64 n1)))]) rfl rfl (gl hlaid) (.cons g0 (.cons (RC.lit_iff.2 ⟨rfl, rfl⟩) .nil))).mono fun e W' ⟨he, bel⟩ => ?_
  subst he
  exact ⟨_, rfl, _, _, _, [], _, [], hW', trodAll_mk1 (shut_bool Tryd.underlying4 _), (trodAll_cons_mk (Below.trod laidOut (by kernel_rfl) (of_decide_eq_true (by kernel_rfl)) k0 bel lt0) (trodAll_cons_mk (Below.trod laidOut (by kernel_rfl) (of_decide_eq_true (by kernel_rfl)) k1 bel lt1) trodAll_mk0)), rfl, bel.frame _, fun h => by cases h⟩

/-- A world for the witness: what the listed variables read as lies in it. -/
noncomputable def start (os : Os) : World := World.laidAll Tryd.prog os Rows.fnExactWinTakeRow.laid
theorem start_met (os : Os) : laidMet Tryd.prog Rows.fnExactWinTakeRow.laid ((start os).forCall (fun _ _ => 0) ⟨#[], #[.agg #[.string ByteArray.empty, .int .i64 0, .slice none 0 0], .int .i64 0], []⟩).memory :=
  laidMet_laidAll _ (by kernel_rfl) (by kernel_rfl)
theorem reads (os : Os) {H : Type} (enc : TypeId × Value → H) : ∃ places, DataW.whole enc Tryd.prog ((start os).forCall (fun _ _ => 0) ⟨#[], #[.agg #[.string ByteArray.empty, .int .i64 0, .slice none 0 0], .int .i64 0], []⟩).memory Tryd.f8.params.toList Rows.fnExactWinTakeSpec.vars false #[Value.agg #[.string ByteArray.empty, .int .i64 0, .slice none 0 0], .int .i64 0].toList 8 = some ([.agg [.lit (.string []), .lit (.int .i64 0), .nil], .lit (.int .i64 0)], [], places) :=
  ⟨[], by kernel_rfl⟩

theorem lifted (os : Os) (started : os.Started) (H : Type) (enc : TypeId × Value → H) (F : Stop.Interp) :
    ReturnsInHanded {} Tryd.checked os 8 .any ((OpenSpec.ofChange Rows.fnExactWinTakeSpec).preRow enc Tryd.prog Tryd.f8 Rows.fnExactWinTakeRow.domain false Rows.fnExactWinTakeRow.laid) (((OpenSpec.ofChange Rows.fnExactWinTakeSpec).at F).post enc Tryd.prog Tryd.f8 false true false false) := by
  obtain ⟨places, hx⟩ := reads os enc
  refine returnsInHanded_of_row (C := Tryd.checked) (s := OpenSpec.ofChange Rows.fnExactWinTakeSpec) own started (by kernel_rfl) Tryd.func8
    (witness_row_atRef (enc := enc) (C := Tryd.checked) false (start os) #[.agg #[.string ByteArray.empty, .int .i64 0, .slice none 0 0], .int .i64 0] (World.laidAll_os _ _ _) (by kernel_rfl) (by kernel_rfl) (by kernel_rfl)
      (OpenSpec.preRow_of_cond 8 hx (by kernel_rfl) (fun k hk => by cases hk) (by kernel_rfl) (start_met os))) ?_
  intro W base args ds gs before hval hW _ _ _ hlaid _ _
  exact contract H enc W base args ds gs before hval hW hlaid

theorem said : Rows.FnExactWinTakeSaid :=
  OpenClaim.holds_of_cond 8 Tryd.f8 rfl rfl rfl rfl rfl rfl rfl ⟨rfl, rfl, rfl, rfl, rfl⟩ rfl rfl rfl rfl rfl (by kernel_rfl) Tryd.func8 (by kernel_rfl)
    (of_decide_eq_true (by kernel_rfl)) (by unfold Func.isWrapper; first | (rw [if_pos (by decide +kernel)]; kernel_rfl) | (rw [if_neg (by decide +kernel)]; exact ⟨rfl, rfl⟩))
    (fun os started H enc _ F => by rw [OpenClaim.pre_eq_preRow]; exact lifted os started H enc F)

theorem plain (f : FuncId) (fn : Func) (hf : Tryd.pinned.checked.prog.funcNamed Rows.fnExactWinTakeRow.func = some f) (hfn : Tryd.pinned.checked.prog.funcs[f]? = some fn) :
    true = Tryd.pinned.checked.prog.looks [] ∧ ∀ (j : Nat) t, fn.params[j]? = some t → Tryd.pinned.checked.prog.wantsStandIn t = false := by
  obtain rfl : f = 8 := Option.some.inj ((show Tryd.prog.funcNamed Rows.fnExactWinTakeRow.func = some 8 by kernel_rfl).symm.trans hf) |>.symm
  obtain rfl : fn = Tryd.f8 := (Option.some.inj (Tryd.func8.symm.trans hfn)).symm
  refine ⟨by kernel_rfl, fun j t ht => ?_⟩
  rw [Tryd.params8] at ht
  have ht : t = 54 ∨ t = 3 := by simpa using Array.mem_of_getElem? ht
  rcases ht with rfl | rfl
  · exact (show Tryd.prog.wantsStandIn 54 = false by kernel_rfl)
  · exact (show Tryd.prog.wantsStandIn 3 = false by kernel_rfl)

/-- The card. -/
theorem card : Rows.FnExactWinTakeCardSaid :=
  Claim7.holds_tied_plain_at .later [] _ _ _ _ said (fun _ h => by cases h) (by kernel_rfl) (fun _ h => by cases h) fnExactWinTake_row_tie rfl ⟨rfl, rfl⟩ (by kernel_rfl) rfl plain (by kernel_rfl)
#print axioms card
end Go.Proofs.YtfokmnafgabdiaaDoor.fnExactWinTake
