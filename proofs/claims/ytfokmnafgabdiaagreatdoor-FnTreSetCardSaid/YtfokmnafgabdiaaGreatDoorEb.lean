/- Merged: Eng17, Eng18, Eng19, Eng20, Eng21, Eng22, Eng23, Eng24, Eng25, Eng26, Eng27, Eng28, Eng29, Eng30, Eng31. -/
import Derived.Test.YtfokmnafgabdiaaGreatDoorEa
import Derived.Orders
import Derived.LoopN
import Derived.Below
namespace Go.Proofs.YtfokmnafgabdiaaGreatDoor.Eng
open Go Go.RowKit
set_option linter.unusedVariables false
set_option linter.unusedSimpArgs false

section
variable {P : Program} {E : Env} {B : Base} {K : Nat → Prop} {σ : Sig} {A : Nat → Prop} {S : St} {a : Act} {w : World}

theorem SliceIs.as {sz n : Nat} {rows : List (List C)} {u : Value} (h : SliceIs w A sz rows u) (hc : sz = n ∨ rows.isEmpty = true) : SliceIs w A n rows u := by
  rcases hc with rfl | hc
  · exact h
  · have : rows = [] := by simpa using hc
    subst this
    obtain ⟨ad, k, e, hk, _⟩ := h
    exact ⟨ad, k, e, hk, by simp, fun i r j c hi => by simp at hi⟩
theorem zero_run {t : TypeId} {i : TI} (h : TyOk P t i) : ∃ z : Value, (∀ w, (zeroValue t).run P w = .ok z w) ∧ z.cells.size = i.size ∧ All2 ZV i.zero z.cells.toList ∧ ∃ d : TypeInfo, P.info? t = some d ∧ d.bytes = i.bytes := by
  obtain ⟨d, hd, hsz, hby, zv, hz, hza, _⟩ := h.info
  refine ⟨zv, fun w => by simp [zeroValue, run_info hd, hz], ?_, hza, d, hd, hby⟩
  have := hza.length
  rw [h.len] at this
  simp at this; omega
theorem zeroCells_size (z : Array Value) (n : Nat) : (Builtin.zeroCells z n).size = n * z.size := by simp [Builtin.zeroCells]

def Loud (P : Program) (B : Base) (K : Nat → Prop) (S : St) (a : Act) (w : World) (o : Oper) (start : Nat) (v : V) (h' : List Root) (next : Nat) : Prop :=
  ∃ u w' σ' A', ((execOp a.eval o).run P w = .ok (.value u) w' ∨ (u = undef ∧ (execOp a.eval o).run P w = .ok .skip w')) ∧
    RS B (fun n => K n ∨ (start ≤ n ∧ n < next)) σ' A' { tmps := setTmp S.tmps o.dst v, heap := h' } (a.put o.dst u) w'

theorem cut_append (need old : Nat) (e : TypeId) (t : Nat) : need ≤ (Question.appendCap need old e).cut t := by simp [Question.cut]


def AppRun (P : Program) (w : World) (base : Option Addr) (sLen sCap n : Nat) (size : Nat) (old vs zero : Array Value) (e : TypeId) (m : Sem Value) : Prop :=
  (sLen + n ≤ sCap → ∀ w', ((match base with | some ad => storeCells (ad.add (sLen * size)) vs.toList | none => pure ()) : Sem Unit).run P w = .ok () w' → m.run P w = .ok (.slice base (sLen + n) sCap) w') ∧
  (sCap < sLen + n → ∃ (w1 : World) (newCap : Nat), w1.heap = w.heap ∧ w1.os = w.os ∧ w1.tape = w.tape ∧ w1.output = w.output ∧ sLen + n ≤ newCap ∧
    m.run P w = .ok (.slice (some ⟨w1.heap.size, 0, none⟩) (sLen + n) newCap) (w1.alloc (.cells (old ++ vs ++ Builtin.zeroCells zero (newCap - (sLen + n))) e)))
theorem append_run {t u e e' ty : TypeId} {x : Value} {base ad' : Option Addr} {sLen sCap n k' size : Nat} {old vs : Array Value} {zv : Value} {d : TypeInfo} (kt : P.underlying t = some (.slice e)) (ku : P.underlying u = some (.slice e'))
    (hsz : ∀ w, (sizeOf e).run P w = .ok size w) (hz : ∀ w, (zeroValue e).run P w = .ok zv w) (hd : P.info? e = some d) (hd0 : d.bytes ≤ 1024) (hn : sLen + n ≤ mostRows) (ex : x = .slice ad' n k')
    (hold : ∀ w1 : World, w1.heap = w.heap → (Builtin.firstCells size sLen (.slice base sLen sCap)).run P w1 = .ok old w1) (hvs : ∀ w1 : World, w1.heap = w.heap → (Builtin.firstCells size n x).run P w1 = .ok vs w1) :
    AppRun P w base sLen sCap n size old vs zv.cells e (Builtin.append_ #[t, u] ty #[.slice base sLen sCap, x]) := by
  subst ex
  refine ⟨fun hle w' hw' => ?_, fun hlt => ?_⟩
  · simp only [Builtin.append_, List.getElem?_toArray, List.getElem?_cons_zero, List.getElem?_cons_succ, Sem.run_bind, run_und kt, run_und ku, hsz, Result.andThen_ok, Sem.run_pure, Builtin.lenOf]
    simp only [Sem.run_bind, Sem.run_pure, Result.andThen_ok, hle, if_true, if_false, Bool.not_false, Bool.false_eq_true, hvs w rfl]
    cases base with
    | none => simp only [Sem.run_pure, Result.ok.injEq, true_and] at hw'; subst hw'; rfl
    | some ad => simp only at hw'; simp only [Sem.run_bind, hw', Result.andThen_ok, Sem.run_pure]
  · have h1 := nextcap_le hlt
    have h2 : Builtin.nextslicecap (sLen + n) sCap * d.bytes ≤ (2 * 2 ^ 22 + 192) * 1024 := Nat.mul_le_mul (by unfold mostRows at hn; omega) (by omega)
    have h3 : ¬ Builtin.nextslicecap (sLen + n) sCap * d.bytes > 2 ^ 48 := by omega
    have h4 : ¬ ((sLen + n : Nat) : Int) > IntKind.i64.max := by
      have : IntKind.i64.max = 2 ^ 63 - 1 := by decide
      unfold mostRows at hn; omega
    refine ⟨{ w with drawn := w.drawn + 1 }, (Question.appendCap (sLen + n) sCap e).cut (w.tape w.drawn (.appendCap (sLen + n) sCap e)), rfl, rfl, rfl, rfl, cut_append _ _ _ _, ?_⟩
    have hfo : (Question.appendCap (sLen + n) sCap e).forced = false := rfl
    simp only [Builtin.append_, List.getElem?_toArray, List.getElem?_cons_zero, List.getElem?_cons_succ, Sem.run_bind, run_und kt, run_und ku, hsz, Result.andThen_ok, Sem.run_pure, Builtin.lenOf]
    simp only [Sem.run_bind, Sem.run_pure, Result.andThen_ok, Nat.not_le.2 hlt, if_true, if_false, run_info hd, h4, false_and, h3, run_choose, hfo, Bool.false_eq_true, run_askRoom, Bool.not_false]
    simp only [hold { w with drawn := w.drawn + 1 } rfl, hvs { w with drawn := w.drawn + 1 } rfl, hz, Sem.run_bind, Result.andThen_ok, newRow, run_newObj, Sem.run_pure]
    rfl

theorem appendZeros_run {t u e ty : TypeId} {x : Value} {kd kd' : IntKind} {base : Option Addr} {sLen sCap size : Nat} {k : Int} {old : Array Value} {zv : Value} {d : TypeInfo} (kt : P.underlying t = some (.slice e)) (ku : P.underlying u = some (.int kd))
    (hsz : ∀ w, (sizeOf e).run P w = .ok size w) (hz : ∀ w, (zeroValue e).run P w = .ok zv w) (hzs : zv.cells.size = size) (hd : P.info? e = some d) (hd0 : d.bytes ≤ 1024) (hn : sLen + k.toNat ≤ mostRows) (hk : 0 ≤ k) (ex : x = .int kd' k)
    (hold : ∀ w1 : World, w1.heap = w.heap → (Builtin.firstCells size sLen (.slice base sLen sCap)).run P w1 = .ok old w1) :
    AppRun P w base sLen sCap k.toNat size old (Builtin.zeroCells zv.cells k.toNat) zv.cells e (Builtin.append_ #[t, u] ty #[.slice base sLen sCap, x]) := by
  subst ex
  have hk2 : k ≤ 2 ^ 22 := by unfold mostRows at hn; omega
  have hw := wrap_small hk (by omega : k ≤ 2 ^ 40)
  have hl0 : ¬ k < 0 := by omega
  have hl1 : ¬ k * (d.bytes : Int) > 2 ^ 48 := by
    have : k * (d.bytes : Int) ≤ 2 ^ 22 * 1024 := Int.mul_le_mul hk2 (by omega) (by omega) (by omega)
    omega
  have happ : ∀ w1 : World, (if k.toNat * size = 0 then (pure #[] : Sem (Array Value)) else do pure (Builtin.zeroCells (← zeroValue e).cells k.toNat)).run P w1 = .ok (Builtin.zeroCells zv.cells k.toNat) w1 := fun w1 => by
    split
    · rename_i h0
      have : Builtin.zeroCells zv.cells k.toNat = #[] := Array.eq_empty_of_size_eq_zero (by rw [zeroCells_size, hzs]; exact h0)
      rw [this]; rfl
    · simp only [Sem.run_bind, hz, Result.andThen_ok, Sem.run_pure]
  refine ⟨fun hle w' hw' => ?_, fun hlt => ?_⟩
  · simp only [Builtin.append_, List.getElem?_toArray, List.getElem?_cons_zero, List.getElem?_cons_succ, Sem.run_bind, run_und kt, run_und ku, hsz, Result.andThen_ok, Sem.run_pure, asInt, asIntOf, hw, hl0, if_false, run_info hd, hl1, if_true]
    simp only [Sem.run_bind, Sem.run_pure, Result.andThen_ok, hle, if_true, if_false, Bool.not_true, Bool.false_eq_true, happ]
    cases base with
    | none => simp only [Sem.run_pure, Result.ok.injEq, true_and] at hw'; subst hw'; rfl
    | some ad => simp only at hw'; simp only [Sem.run_bind, hw', Result.andThen_ok, Sem.run_pure]
  · have h1 := nextcap_le hlt
    have h2 : Builtin.nextslicecap (sLen + k.toNat) sCap * d.bytes ≤ (2 * 2 ^ 22 + 192) * 1024 := Nat.mul_le_mul (by unfold mostRows at hn; omega) (by omega)
    have h3 : ¬ Builtin.nextslicecap (sLen + k.toNat) sCap * d.bytes > 2 ^ 48 := by omega
    have h4 : ¬ ((sLen + k.toNat : Nat) : Int) > IntKind.i64.max := by
      have : IntKind.i64.max = 2 ^ 63 - 1 := by decide
      unfold mostRows at hn; omega
    refine ⟨{ w with drawn := w.drawn + 1 }, (Question.appendCap (sLen + k.toNat) sCap e).cut (w.tape w.drawn (.appendCap (sLen + k.toNat) sCap e)), rfl, rfl, rfl, rfl, cut_append _ _ _ _, ?_⟩
    have hfo : (Question.appendCap (sLen + k.toNat) sCap e).forced = false := rfl
    simp only [Builtin.append_, List.getElem?_toArray, List.getElem?_cons_zero, List.getElem?_cons_succ, Sem.run_bind, run_und kt, run_und ku, hsz, Result.andThen_ok, Sem.run_pure, asInt, asIntOf, hw, hl0, if_false, run_info hd, hl1, if_true]
    simp only [Sem.run_bind, Sem.run_pure, Result.andThen_ok, Nat.not_le.2 hlt, if_true, if_false, run_info hd, h4, false_and, h3, run_choose, hfo, Bool.false_eq_true, run_askRoom, Bool.not_true]
    simp only [hold { w with drawn := w.drawn + 1 } rfl, happ, hz, Sem.run_bind, Result.andThen_ok, newRow, run_newObj, Sem.run_pure]
    rfl

theorem append_fin (R : RS B K σ A S a w) (hn0 : ∀ n, B.K0 n → K n) {o : Oper} {i : TI} {y : V1} {new : List (List C)} {start : Nat} {v : V} {h' : List Root} (hs : ¬ K start) (h : appendRows S.heap start i y new = some (v, h')) {su : Value} (hy : RV1 w A σ S.heap y su) (hKy : ∀ n ∈ y.ids, K n)
    {vs : Array Value} (hflat : Flat w A i.size new vs) (hvs : vs.size = new.length * i.size) {e : TypeId} {zero : Array Value} (hz : zero.size = i.size)
    (hrun : ∀ (base : Option Addr) (sLen sCap : Nat) (old : Array Value), su = .slice base sLen sCap → sLen + new.length ≤ mostRows → i.bytes ≤ 1024 → (∀ w1 : World, w1.heap = w.heap → (Builtin.firstCells i.size sLen (.slice base sLen sCap)).run P w1 = .ok old w1) →
      ∃ m : Sem Value, execOp a.eval o = (do pure (.value (← m))) ∧ AppRun P w base sLen sCap new.length i.size old vs zero e m) :
    Loud P B K S a w o start v h' (start + 1) := by
  obtain ⟨base, sLen, sCap, old, f1, f2, f3, f4, f5, f6, f7⟩ := appendRows_ok (P := P) R hn0 hs h hy hKy hflat hvs (flat_one hflat hvs) (dst := o.dst) (e := e)
  rw [f1] at f5
  obtain ⟨m, hm, g1, g2⟩ := hrun base sLen sCap old f1 f2 f3 f5
  by_cases hle : sLen + new.length ≤ sCap
  · obtain ⟨w', k1, σ', k2⟩ := f6 hle
    exact ⟨_, w', σ', A, .inl (by rw [hm]; simp only [Sem.run_bind, g1 hle w' k1, Result.andThen_ok, Sem.run_pure]), k2⟩
  · obtain ⟨w1, nc, q1, q2, q3, q4, q5, q6⟩ := g2 (by omega)
    obtain ⟨σ', k2⟩ := f7 (by omega) w1 nc (Builtin.zeroCells zero (nc - (sLen + new.length))) q1 q2 q3 q4 q5 (by rw [zeroCells_size, hz])
    exact ⟨_, _, σ', A, .inl (by rw [hm]; simp only [Sem.run_bind, q6, Result.andThen_ok, Sem.run_pure]), k2⟩

theorem append_ok (EO : EnvOk P E) (R : RS B K σ A S a w) (hn0 : ∀ n, B.K0 n → K n) {o : Oper} {c : Call} {s x : Operand} {t u e e' : TypeId} {y z : V1} {v : V} {h' : List Root} {start zs zb : Nat} {zz : List V1} {zs' zb' : Nat} {zz' : List V1} (hs : ¬ K start)
    (ho : o.op = .call c) (hc : c.callee = .builtin .append) (hargs : c.args.toList = [s, x]) (htypes : c.argTypes.toList = [t, u])
    (ht : E.ty t = some { kind := .slice e, size := zs, bytes := zb, zero := zz }) (hu : E.ty u = some { kind := .slice e', size := zs', bytes := zb', zero := zz' })
    (hy : opd E S.tmps t s = some (.w (.one y))) (hz : opd E S.tmps u x = some (.w (.one z))) (h : appendTo E S.heap start e y z = some (v, h')) :
    Loud P B K S a w o start v h' (start + 1) := by
  unfold appendTo at h
  split at h
  · rename_i i szx new hi hr
    split at h
    · rename_i hcond
      have Te := EO.ty _ _ hi
      obtain ⟨ry, ky⟩ := opd_ok R hy
      obtain ⟨rz, kz⟩ := opd_ok R hz
      have hsl := (rowsOf_ok R hr rz).as hcond
      obtain ⟨vs, v1, v2, v3⟩ := slice_cells (P := P) hsl
      obtain ⟨ad', k', ez, _⟩ := hsl
      obtain ⟨zv, z1, z2, z3, d, hd, hdb⟩ := zero_run Te
      refine append_fin R hn0 hs h ry ky v3 v1 (e := e) z2 fun base sLen sCap old f1 f2 f3 f5 => ⟨_, ?_, append_run (ty := o.type) (EO.ty _ _ ht).kind (EO.ty _ _ hu).kind (fun w => Te.size w) z1 hd (by omega) f2 ez f5 v2⟩
      rw [exec_builtin ho hc, args2 hargs, types2 htypes, ← f1]; rfl
    · cases h
  · cases h
theorem appendZ_ok (EO : EnvOk P E) (R : RS B K σ A S a w) (hn0 : ∀ n, B.K0 n → K n) {o : Oper} {c : Call} {s x : Operand} {t u e : TypeId} {y : V1} {kd kd' : IntKind} {k : Int} {v : V} {h' : List Root} {start zs zb : Nat} {zz : List V1} {zs' zb' : Nat} {zz' : List V1} (hs : ¬ K start)
    (ho : o.op = .call c) (hc : c.callee = .builtin .append) (hargs : c.args.toList = [s, x]) (htypes : c.argTypes.toList = [t, u])
    (ht : E.ty t = some { kind := .slice e, size := zs, bytes := zb, zero := zz }) (hu : E.ty u = some { kind := .int kd, size := zs', bytes := zb', zero := zz' })
    (hy : opd E S.tmps t s = some (.w (.one y))) (hz : opd E S.tmps u x = some (.w (.one (.c (.lit (.int kd' k)))))) (h : appendZeros E S.heap start e y k = some (v, h')) :
    Loud P B K S a w o start v h' (start + 1) := by
  unfold appendZeros at h
  split at h
  · rename_i i hi
    split at h
    · rename_i z0 hz0
      split at h
      · rename_i hk
        have Te := EO.ty _ _ hi
        obtain ⟨ry, ky⟩ := opd_ok R hy
        have ez := (RC.lit_iff.1 (opd_ok R hz).1).1
        obtain ⟨zv, z1, z2, z3, d, hd, hdb⟩ := zero_run Te
        have hl0 : z0.length = i.size := by rw [mapO_length hz0, Te.len]
        have hf := zeros_flat (w := w) (A := A) hz0 z3 k.toNat (k.toNat * zv.cells.size) (by rw [hl0, z2]; exact Nat.le_refl _)
        rw [hl0] at hf
        refine append_fin R hn0 hs h ry ky (vs := Builtin.zeroCells zv.cells k.toNat) hf (by rw [zeroCells_size, z2]; simp) (e := e) z2 fun base sLen sCap old f1 f2 f3 f5 => ⟨Builtin.append_ #[t, u] o.type #[.slice base sLen sCap, a.eval x], ?_, ?_⟩
        · rw [exec_builtin ho hc, args2 hargs, types2 htypes, ← f1]; rfl
        · rw [List.length_replicate] at f2 ⊢
          exact appendZeros_run (ty := o.type) (EO.ty _ _ ht).kind (EO.ty _ _ hu).kind (fun w => Te.size w) z1 z2 hd (by omega) f2 hk.1 ez f5
      · cases h
    · cases h
  · cases h
end
end Go.Proofs.YtfokmnafgabdiaaGreatDoor.Eng
namespace Go.Proofs.YtfokmnafgabdiaaGreatDoor.Eng
open Go Go.RowKit
set_option linter.unusedVariables false
set_option linter.unusedSimpArgs false

theorem put_same : ∀ (h : List Root) (n : Nat), rget h n ≠ .dead → put h n (rget h n) = h
  | [], n, hn => by exfalso; apply hn; simp [rget]
  | x :: h, 0, hn => by simp [put, rget]
  | x :: h, n + 1, hn => by
    have e : rget (x :: h) (n + 1) = rget h n := by simp [rget]
    rw [e] at hn ⊢
    simp [put, put_same h n hn]

section
variable {P : Program} {E : Env} {B : Base} {K : Nat → Prop} {σ : Sig} {A : Nat → Prop} {S : St} {a : Act} {w : World}

theorem overAt_ok (R : RS B K σ A S a w) {sz : Nat} {d : V1} {new : List (List C)} {h' : List Root} (h : overAt S.heap sz d new = some h') {su : Value} (hd : RV1 w A σ S.heap d su) (hKd : ∀ n ∈ d.ids, K n)
    {vs : Array Value} (hflat : Flat w A sz new vs) (hvs : vs.size = new.length * sz) {dst : Option Tmp} {v : V} {u : Value} (hv : ∀ w A σ h, RV w A σ h v u) (hvi : v.ids = []) :
    ∃ base dLen dCap w', su = .slice base dLen dCap ∧ ((match base with | some ad => storeCells ad vs.toList | none => pure ()) : Sem Unit).run P w = .ok () w' ∧
      RS B K σ A { tmps := setTmp S.tmps dst v, heap := h' } (a.put dst u) w' := by
  have hone := flat_one hflat hvs
  have hnil : new = [] → vs.toList = [] := fun e => by
    have : vs.size = 0 := by rw [hvs, e]; simp
    simpa using this
  have hval : RS B K σ A { tmps := setTmp S.tmps dst v, heap := S.heap } (a.put dst u) w := R.value (hv _ _ _ _) (by rw [hvi]; simp)
  unfold overAt at h
  split at h
  · rename_i s0
    split at h
    · rename_i hem
      simp at h; subst h
      exact ⟨none, 0, 0, w, hd, rfl, hval⟩
    · cases h
  · rename_i n off len cap
    split at h
    · rename_i sz' rs hq
      split at h
      · rename_i hc
        obtain ⟨hsz, hnl⟩ := hc
        subst hsz
        simp only [Option.map_eq_some_iff] at h
        obtain ⟨rs', hsp, rfl⟩ := h
        obtain ⟨f0, ad, k, e1, e2, e3, e4⟩ := (show RRef w σ S.heap n off len cap su from hd).2 _ rs (.inl hq)
        by_cases hn : new = []
        · have : rs' = rs := by subst hn; unfold splice at hsp; split at hsp; simpa using hsp.symm; cases hsp
          subst this
          have h2 : put S.heap n (.rows sz' rs') = S.heap := by rw [← hq]; exact put_same _ _ (by rw [hq]; simp)
          refine ⟨ad, len, k, w, e1, by rw [hnil hn]; cases ad <;> rfl, ?_⟩
          rw [h2]; exact hval
        · have hpos : 0 < new.length := List.length_pos_iff.2 hn
          rcases e4 with e4 | ⟨b, o, g1, g2, g3⟩
          · omega
          · have hroot := R.heap.root n
            rw [hq] at hroot
            rcases hroot.2 with ⟨q1, _⟩ | ⟨b', o', arr, T, q1, q2, q3, q4⟩
            · rw [g1] at q1; cases q1
            · rw [g1] at q1; cases q1
              have hown : (rget S.heap n).own = true := by rw [hq]; rfl
              obtain ⟨_, hle, hcl⟩ := splice_get hsp 0
              have hmul : (off + new.length) * sz' ≤ rs.length * sz' := Nat.mul_le_mul_right _ hle
              rw [Nat.add_mul] at hmul
              obtain ⟨w', s1, ⟨arr', s2, s3⟩, s4⟩ := storeCells_ok (P := P) T b vs.toList (o + off * sz') 0 arr w q2 (by simp [hvs]; omega) hone
              have hA : ∀ b', A b' → w'.heap[b']? = w.heap[b']? := fun b' hb' => s4.block b' (R.heap.lt b' hb') fun e => R.heap.off n b o hown g1 (e ▸ hb')
              have hself : rget (put S.heap n (.rows sz' rs')) n = .rows sz' rs' := rget_put_self _ _ _
              refine ⟨ad, len, k, w', e1, by rw [g2]; exact s1, ?_⟩
              refine R.write (b := b) (n := n) (o := o) hown g1 s4 (fun _ h => h) (fun _ h => .inl h) (fun m hm => .inl (rget_put_ne _ _ hm)) ?_ (fun _ => hKd n (by simp [V1.ids])) ?_ ?_ (hv _ _ _ _) (by rw [hvi]; simp)
              · rw [hself, hq]; exact ⟨rs, rfl, hcl.symm⟩
              · rw [hself]
                have hrow : ∀ (i : Nat) (r : List C), rs'[i]? = some r → r.length = sz' := fun i r hi => by
                  rw [(splice_get hsp i).1] at hi
                  split at hi
                  · exact hroot.1 r (List.mem_of_getElem? hi)
                  · split at hi
                    · exact hflat.1 r (List.mem_of_getElem? hi)
                    · exact hroot.1 r (List.mem_of_getElem? hi)
                refine ⟨fun r hr => ?_, .inr ⟨b, o, arr', T, g1, s2, ?_, fun i r j c hi hj => ?_⟩⟩
                · obtain ⟨i, hi⟩ := List.getElem?_of_mem hr
                  exact hrow i r hi
                · have h9 := congrArg List.length s3
                  simp only [List.length_append, List.length_take, List.length_drop, Array.length_toList, hvs] at h9
                  rw [hcl]; omega
                · have hjl : j < sz' := by rw [← hrow i r hi]; rcases Nat.lt_or_ge j r.length with h | h; exact h; simp [List.getElem?_eq_none h] at hj
                  rw [← Array.getElem?_toList, s3, Nat.add_zero, over_get _ _ _ _ (by simp [hvs]; omega)]
                  have hold : rs[i]? = some r → ∃ v, arr.toList[o + i * sz' + j]? = some v ∧ RC w' A c v := fun hi => by
                    obtain ⟨v, hv, rc⟩ := q4 i r j c hi hj
                    exact ⟨v, by simpa using hv, rc.mono hA fun _ h => h⟩
                  rw [(splice_get hsp i).1] at hi
                  split at hi
                  · rename_i hlt
                    have p3 : (i + 1) * sz' ≤ off * sz' := Nat.mul_le_mul_right _ hlt
                    rw [Nat.add_mul] at p3
                    rw [if_pos (by omega)]; exact hold hi
                  · rename_i hge
                    have p3 : off * sz' ≤ i * sz' := Nat.mul_le_mul_right _ (by omega)
                    split at hi
                    · rename_i hlt
                      obtain ⟨v, hv, rc⟩ := hflat.2 (i - off) r j c hi hj
                      have hlt : (i - off) * sz' + j < vs.size := by rcases Nat.lt_or_ge ((i - off) * sz' + j) vs.size with h | h; exact h; simp [Array.getElem?_eq_none h] at hv
                      have p4 : (i - off) * sz' = i * sz' - off * sz' := Nat.sub_mul _ _ _
                      rw [if_neg (by omega), if_pos (by simp; omega)]
                      refine ⟨v, ?_, rc.mono hA fun _ h => h⟩
                      rw [Array.getElem?_toList, show o + i * sz' + j - (o + off * sz') = (i - off) * sz' + j from by omega]; exact hv
                    · have p5 : (off + new.length) * sz' ≤ i * sz' := Nat.mul_le_mul_right _ (by omega)
                      rw [Nat.add_mul] at p5
                      rw [if_neg (by omega), if_neg (by simp [hvs]; omega)]; exact hold hi
              · rw [hself]; intro m hm; simp [Root.ids] at hm
      · cases h
    · cases h
  · cases h

theorem SliceIs.take {sz : Nat} {rows : List (List C)} {ad : Option Addr} {k n : Nat} (h : SliceIs w A sz rows (.slice ad n k)) (m : Nat) (hm : m ≤ rows.length) : SliceIs w A sz (rows.take m) (.slice ad m k) := by
  obtain ⟨ad', k', e, h1, h2, h3⟩ := h
  cases e
  refine ⟨ad, k, by rw [List.length_take, Nat.min_eq_left hm], by rw [List.length_take]; omega, fun r hr => h2 r (List.mem_of_mem_take hr), fun i r j c hi hj => ?_⟩
  rw [List.getElem?_take] at hi
  split at hi
  · exact h3 i r j c hi hj
  · cases hi

theorem copy_ok (EO : EnvOk P E) (R : RS B K σ A S a w) {o : Oper} {c : Call} {d x : Operand} {t u e : TypeId} {y z : V1} {v : V} {h' : List Root} {start zs zb : Nat} {zz : List V1}
    (ho : o.op = .call c) (hc : c.callee = .builtin .copy) (hargs : c.args.toList = [d, x]) (htypes : c.argTypes.toList = [t, u])
    (ht : E.ty t = some { kind := .slice e, size := zs, bytes := zb, zero := zz })
    (hy : opd E S.tmps t d = some (.w (.one y))) (hz : opd E S.tmps u x = some (.w (.one z))) (h : copyTo E S.heap e y z = some (v, h')) :
    Loud P B K S a w o start v h' start := by
  unfold copyTo at h
  split at h
  · rename_i i szx new sz0 old hi hr hr0
    simp only at h
    split at h
    · rename_i hcond
      simp only [Option.map_eq_some_iff, Prod.mk.injEq] at h
      obtain ⟨h2, hov, rfl, rfl⟩ := h
      have Te := EO.ty _ _ hi
      obtain ⟨ry, ky⟩ := opd_ok R hy
      obtain ⟨rz, kz⟩ := opd_ok R hz
      have hsl := (rowsOf_ok R hr rz).as hcond
      have hsd := rowsOf_ok R hr0 ry
      obtain ⟨ad, k, ez, _⟩ := hsl
      have hsl := (rowsOf_ok R hr rz).as hcond
      rw [show a.eval x = .slice ad new.length k from ez] at hsl
      have hst := hsl.take (min new.length old.length) (Nat.min_le_left _ _)
      obtain ⟨vs, v1, v2, v3⟩ := slice_cells (P := P) hst
      obtain ⟨base, dLen, dCap, w', f1, f2, f3⟩ := overAt_ok (P := P) R hov ry ky v3 v1 (dst := o.dst) (v := vlit (.int .i64 (min new.length old.length : Nat))) (u := .int .i64 (min new.length old.length : Nat)) (fun w A σ h => RC.lit_iff.2 ⟨rfl, rfl⟩) (by simp [vlit, V.ids, W.ids, V1.ids])
      have hdl : dLen = old.length := by obtain ⟨_, _, q, _⟩ := hsd; rw [f1] at q; cases q; rfl
      have hlt : (new.take (min new.length old.length)).length = min new.length old.length := by rw [List.length_take]; omega
      rw [hlt] at v2
      refine ⟨_, w', σ, A, .inl ?_, f3.mono fun n hn => .inl hn⟩
      rw [exec_builtin ho hc, args2 hargs, types2 htypes, f1, ez]
      have hv2 : (Builtin.firstCells i.size (min new.length old.length) (.slice ad new.length k)).run P w = .ok vs w := by have := v2 w rfl; cases ad <;> exact this
      have hmin : Nat.min new.length dLen = min new.length old.length := by rw [hdl]
      simp only [builtin, Builtin.copy_, List.getElem?_toArray, List.getElem?_cons_zero, List.getElem?_cons_succ, Sem.run_bind, run_und ((EO.ty _ _ ht).kind : P.underlying t = some (.slice e)), Te.size, Result.andThen_ok, Sem.run_pure, Builtin.lenOf, hmin, hv2]
      cases base with
      | none => simp only [Sem.run_pure, Result.ok.injEq, true_and] at f2; subst f2; rfl
      | some ad => simp only at f2; simp only [Sem.run_bind, f2, Result.andThen_ok, Sem.run_pure]; rfl
    · cases h
  · cases h
theorem clear_ok (EO : EnvOk P E) (R : RS B K σ A S a w) {o : Oper} {c : Call} {d : Operand} {t e : TypeId} {y : V1} {v : V} {h' : List Root} {start zs zb : Nat} {zz : List V1}
    (ho : o.op = .call c) (hc : c.callee = .builtin .clear) (hargs : c.args.toList = [d]) (htypes : c.argTypes.toList = [t])
    (ht : E.ty t = some { kind := .slice e, size := zs, bytes := zb, zero := zz })
    (hy : opd E S.tmps t d = some (.w (.one y))) (h : clearAll E S.heap e y = some (v, h')) :
    Loud P B K S a w o start v h' start := by
  unfold clearAll at h
  split at h
  · rename_i i sz0 old hi hr0
    split at h
    · rename_i z0 hz0
      simp only [Option.map_eq_some_iff, Prod.mk.injEq] at h
      obtain ⟨h2, hov, rfl, rfl⟩ := h
      have Te := EO.ty _ _ hi
      obtain ⟨ry, ky⟩ := opd_ok R hy
      obtain ⟨zv, z1, z2, z3, dd, hd, hdb⟩ := zero_run Te
      have hl0 : z0.length = i.size := by rw [mapO_length hz0, Te.len]
      have hf := zeros_flat (w := w) (A := A) hz0 z3 old.length (old.length * zv.cells.size) (by rw [hl0, z2]; exact Nat.le_refl _)
      rw [hl0] at hf
      obtain ⟨base, dLen, dCap, w', f1, f2, f3⟩ := overAt_ok (P := P) R hov ry ky (vs := Builtin.zeroCells zv.cells old.length) hf (by rw [zeroCells_size, z2]; simp) (dst := o.dst) (v := .tup []) (u := .tuple #[]) (fun w A σ h => ⟨#[], rfl, .nil⟩) (by simp [V.ids])
      have hdl : dLen = old.length := by obtain ⟨_, _, q, _⟩ := rowsOf_ok R hr0 ry; rw [f1] at q; cases q; rfl
      refine ⟨_, w', σ, A, .inl ?_, f3.mono fun n hn => .inl hn⟩
      rw [exec_builtin ho hc, args1 hargs, types1 htypes, f1]
      have kt : P.underlying t = some (.slice e) := (EO.ty _ _ ht).kind
      simp only [builtin, Builtin.clear_, List.getElem?_toArray, List.getElem?_cons_zero, List.getElem?_cons_succ, Sem.run_bind, run_und kt, Result.andThen_ok]
      cases base with
      | none => simp only [Sem.run_pure, Result.ok.injEq, true_and] at f2; subst f2; rfl
      | some ad =>
        simp only at f2
        cases dLen with
        | zero =>
          have : Builtin.zeroCells zv.cells old.length = #[] := Array.eq_empty_of_size_eq_zero (by rw [zeroCells_size, ← hdl]; simp)
          rw [this] at f2
          simp only [storeCells, Sem.run_pure, Result.ok.injEq, true_and] at f2; subst f2; rfl
        | succ q =>
          rw [← hdl] at f2
          simp only [Sem.run_bind, z1, f2, Result.andThen_ok, Sem.run_pure]
    · cases h
  · cases h
end
end Go.Proofs.YtfokmnafgabdiaaGreatDoor.Eng
namespace Go.Proofs.YtfokmnafgabdiaaGreatDoor.Eng
open Go Go.RowKit
set_option linter.unusedVariables false
set_option linter.unusedSimpArgs false

section
variable {P : Program} {E : Env} {B : Base} {K : Nat → Prop} {σ : Sig} {A : Nat → Prop} {S : St} {a : Act} {w : World}

theorem Flat.mono {A' : Nat → Prop} {sz : Nat} {rows : List (List C)} {arr : Array Value} (h : Flat w A sz rows arr) (hA : ∀ b, A b → A' b) : Flat w A' sz rows arr :=
  ⟨h.1, fun i r j c hi hj => by obtain ⟨v, h1, h2⟩ := h.2 i r j c hi hj; exact ⟨v, h1, h2.mono (fun b _ => rfl) hA⟩⟩
theorem RS.shutBy (R : RS B K σ A S a w) {L : Nat → Prop} {h' : List Root} (hg : ∀ m, (¬ L m ∧ rget h' m = rget S.heap m) ∨ (L m ∧ rget h' m = .dead)) :
    RS B K σ (fun b => A b ∨ ∃ m o, L m ∧ (rget S.heap m).own = true ∧ σ m = some (b, o)) { S with heap := h' } a w := by
  have hst : ∀ m, Stays w w σ σ S.heap h' m := fun m => ⟨rfl, by rcases hg m with ⟨_, e⟩ | ⟨_, e⟩ <;> rw [e]; exact Compat.refl _; trivial, fun b o _ _ => Wide.refl _ _⟩
  have hown : ∀ m, (rget h' m).own = true → ¬ L m ∧ (rget S.heap m).own = true := fun m h => by
    rcases hg m with ⟨e1, e⟩ | ⟨e1, e⟩ <;> rw [e] at h
    · exact ⟨e1, h⟩
    · cases h
  refine ⟨⟨fun m => ?_, fun m q b o o' h1 h2 => R.heap.inj m q b o o' (hown m h1).2 (hown q h2).2, fun m b o h1 h2 h3 => ?_, fun b hb => ?_⟩,
    R.tmps.mono fun x u hx r => r.stays (fun b _ => rfl) (fun b h => .inl h) fun m _ => hst m, R.known, fun m q hq => ?_, fun m hm => ?_, R.ext, fun b hb => .inl (R.ale b hb), fun b hb => ?_, fun m b o h1 => R.own m b o (hown m h1).2, R.sig0, R.defers, R.k0, fun m hm => (R.comp m hm).trans (hst m).compat⟩
  · rcases hg m with ⟨_, e⟩ | ⟨_, e⟩ <;> rw [e]
    · exact (R.heap.root m).stays (fun b _ => rfl) (fun b h => .inl h) rfl (fun b o _ _ => rfl) fun q _ => hst q
    · trivial
  · rcases h3 with h3 | ⟨q, o', h3, h4, h5⟩
    · exact R.heap.off m b o (hown m h1).2 h2 h3
    · exact (hown m h1).1 (R.heap.inj m q b o o' (hown m h1).2 h4 h2 h5 ▸ h3)
  · rcases hb with hb | ⟨q, o', h3, h4, h5⟩
    · exact R.heap.lt b hb
    · exact R.lt h4 h5
  · rcases hg m with ⟨_, e⟩ | ⟨_, e⟩ <;> rw [e] at hq
    · exact R.knownH m q hq
    · cases hq
  · rcases hg m with ⟨_, e⟩ | ⟨_, e⟩
    · rw [e]; exact R.dead m hm
    · exact e
  · rcases hb with hb | ⟨q, o', h3, h4, h5⟩
    · exact R.aup b hb
    · exact .inr (R.own q b o' h4 h5)
theorem RS.sealed (R : RS B K σ A S a w) {xs : List V1} {cs : List C} {us : List Value} (hc : closeCs S.heap xs = some cs) (r : All2 (RV1 w A σ S.heap) xs us) :
    ∃ A', (∀ b, A b → A' b) ∧ RS B K σ A' { S with heap := killV1s S.heap xs } a w ∧ All2 (RC w A') cs us ∧
      ∀ v u, RV w A σ S.heap v u → RV w A' σ (killV1s S.heap xs) v u := by
  have hg : ∀ m, (¬ m ∈ refsOf xs ∧ rget (killV1s S.heap xs) m = rget S.heap m) ∨ (m ∈ refsOf xs ∧ rget (killV1s S.heap xs) m = .dead) := fun m => by
    rw [rget_kill]; by_cases h : m ∈ refsOf xs
    · right; simp [h]
    · left; simp [h]
  refine ⟨_, fun b hb => .inl hb, R.shutBy hg, r.mapO hc fun x y u hx hq r => ?_, fun v u r => r.stays (fun b _ => rfl) (fun b h => .inl h) fun m _ => ⟨rfl, ?_, fun b o _ _ => Wide.refl _ _⟩⟩
  · exact closeC_ok R (fun _ h => .inl h) (fun n hn b o h1 h2 => .inr ⟨n, o, closeCs_refs hc x hx n hn, h1, h2⟩) hq r
  · rcases hg m with ⟨_, e⟩ | ⟨_, e⟩ <;> rw [e]; exact Compat.refl _; trivial

theorem fill_step {sz f : Nat} {rows : List (List C)} {cs : List C} {arr : Array Value} {u : Value} (q : Flat w A sz rows arr) (hl : rows.length * sz ≤ arr.size) (rc : All2 (RC w A) cs u.cells.toList) (hclen : cs.length = sz) (hf : f < rows.length) :
    Flat w A sz (rows.set f cs) (u.cells.zipIdx.foldl (fun cs (p : Value × Nat) => cs.setIfInBounds (f * sz + p.2) p.1) arr) ∧ (u.cells.zipIdx.foldl (fun cs (p : Value × Nat) => cs.setIfInBounds (f * sz + p.2) p.1) arr).size = arr.size ∧ u.cells.size = sz ∧ f * sz + sz ≤ arr.size := by
  have hvs : u.cells.size = sz := by have := rc.length; simp at this; omega
  have hle : f * sz + sz ≤ arr.size := by
    have : (f + 1) * sz ≤ rows.length * sz := Nat.mul_le_mul_right _ hf
    rw [Nat.add_mul] at this; omega
  have harr := foldl_sets (f * sz) u.cells.toList 0 arr (by simp; omega)
  have hflat : Flat w A sz (rows.set f cs) (u.cells.zipIdx.foldl (fun cs (p : Value × Nat) => cs.setIfInBounds (f * sz + p.2) p.1) arr) := by
    refine ⟨fun r hr => by rcases List.mem_or_eq_of_mem_set hr with hr | rfl; exact q.1 r hr; exact hclen, fun i r j c hi hj => ?_⟩
    rw [← Array.getElem?_toList, ← Array.foldl_toList, Array.toList_zipIdx, harr]
    simp only [Array.length_toList, Nat.add_zero]
    have hts : (arr.toList.take (f * sz)).length = f * sz := by simp; omega
    by_cases hif : i = f
    · subst hif
      rw [List.getElem?_set_self hf] at hi
      simp at hi; subst hi
      obtain ⟨v', hv', r'⟩ := rc.get hj
      have hjl : j < sz := by rw [← hclen]; rcases Nat.lt_or_ge j cs.length with h | h; exact h; simp [List.getElem?_eq_none h] at hj
      refine ⟨v', ?_, r'⟩
      rw [List.append_assoc, List.getElem?_append_right (by omega), hts, List.getElem?_append_left (by simp; omega), show i * sz + j - i * sz = j from by omega]
      exact hv'
    · rw [List.getElem?_set_ne (fun e => hif e.symm)] at hi
      obtain ⟨v', hv', r'⟩ := q.2 i r j c hi hj
      have hrl := q.1 r (List.mem_of_getElem? hi)
      have hjl : j < sz := by rw [← hrl]; rcases Nat.lt_or_ge j r.length with h | h; exact h; simp [List.getElem?_eq_none h] at hj
      refine ⟨v', ?_, r'⟩
      rw [← Array.getElem?_toList] at hv'
      rcases Nat.lt_or_ge i f with hlt | hge
      · have : (i + 1) * sz ≤ f * sz := Nat.mul_le_mul_right _ hlt
        rw [Nat.add_mul] at this
        rw [List.append_assoc, List.getElem?_append_left (by omega), List.getElem?_take_of_lt (by omega)]
        exact hv'
      · have : (f + 1) * sz ≤ i * sz := Nat.mul_le_mul_right _ (by omega)
        rw [Nat.add_mul] at this
        rw [List.getElem?_append_right (by simp; omega), List.getElem?_drop]
        simp only [List.length_append, hts, Array.length_toList]
        rw [show f * sz + u.cells.size + (i * sz + j - (f * sz + u.cells.size)) = i * sz + j from by omega]
        exact hv'
  refine ⟨hflat, ?_, hvs, hle⟩
  have := congrArg List.length harr
  rw [← Array.foldl_toList, Array.toList_zipIdx, ← Array.length_toList, this]; simp; omega

theorem fillRowsL_ok {sz : Nat} : ∀ {parts : List (Nat × V)} {us : List (Nat × Value)} {rows rows' : List (List C)} {arr : Array Value} {h h' : List Root} {A : Nat → Prop}, fillRowsL h sz rows parts = some (rows', h') → RS B K σ A { S with heap := h } a w →
      All2 (fun p q => p.1 = q.1 ∧ RV w A σ h p.2 q.2) parts us → Flat w A sz rows arr → rows.length * sz ≤ arr.size →
      ∃ A' arr', RS B K σ A' { S with heap := h' } a w ∧ Instr.fill (fun i => some (i * sz, sz)) arr us = some arr' ∧ Flat w A' sz rows' arr' ∧ rows'.length = rows.length ∧ arr'.size = arr.size
  | [], us, rows, rows', arr, h, h', A, h1, R, r, q, hl => by
    cases r
    simp [fillRowsL] at h1; obtain ⟨rfl, rfl⟩ := h1
    exact ⟨A, arr, R, rfl, q, rfl, rfl⟩
  | (f, v) :: parts, us, rows, rows', arr, h, h', A, h1, R, r, q, hl => by
    cases r with
    | cons r0 r =>
      rename_i u us
      obtain ⟨e0, rv⟩ := r0
      simp only [fillRowsL] at h1
      split at h1
      · rename_i xs hxs
        split at h1
        · rename_i cs hcs
          split at h1
          · rename_i hc
            obtain ⟨hclen, hf⟩ := hc
            obtain ⟨rx, kx⟩ := vcells_ok hxs rv
            obtain ⟨A', hA, R', rc, hst⟩ := R.sealed (S := { S with heap := h }) hcs rx
            obtain ⟨s1, s2, s3, s4⟩ := fill_step (q.mono hA) hl rc hclen hf
            obtain ⟨A'', arr', g0, g1, g2, g3, g4⟩ := fillRowsL_ok h1 R' (r.mono fun p q _ r => ⟨r.1, hst _ _ r.2⟩) s1 (by rw [s2]; simpa using hl)
            refine ⟨A'', arr', g0, ?_, g2, by simpa using g3, by rw [g4, s2]⟩
            obtain ⟨u1, u2⟩ := u
            simp only at e0 s3 s4 g1
            subst e0
            simp only [Instr.fill]
            rw [if_neg (by simp; omega)]
            exact g1
          · cases h1
        · cases h1
      · cases h1

theorem buildL_ok (EO : EnvOk P E) (R : RS B K σ A S a w) (hn0 : ∀ n, B.K0 n → K n) {t : TypeId} {len : Nat} {parts : Array (Nat × Operand)} {z : V} {h' : List Root} {start lim nx : Nat} {callH : CallH} {o : Oper} (ho : o.op = .buildSlice t len parts) (hk : ¬ K start)
    (h : evL E callH S.tmps S.heap start lim (.buildSlice t len parts) = some (z, h', nx)) : Loud P B K S a w o start z h' nx := by
  simp only [evL] at h
  split at h
  · rename_i e zs zb zz hT
    split at h
    · rename_i i hi
      split at h
      · rename_i hbig
        split at h
        · rename_i z0 vs hz0 hvs
          simp only [Option.map_eq_some_iff, Prod.mk.injEq] at h
          obtain ⟨⟨rs, h2⟩, hrs, rfl, rfl, rfl⟩ := h
          have kt : P.underlying t = some (.slice e) := (EO.ty _ _ hT).kind
          have Te := EO.ty _ _ hi
          obtain ⟨d, hd, hsz, _, zv, hz, hza, _⟩ := Te.info
          have hlen0 : z0.length = i.size := by rw [mapO_length hz0, Te.len]
          have r := opds_ok R hvs
          simp only [List.map_map, Function.comp_def] at r
          have r1 : All2 (fun v u => RV w A σ S.heap v u ∧ ∀ n ∈ v.ids, K n) vs (parts.toList.map fun p => a.eval p.2) := r
          have r2 := (All2.zipParts parts.toList r1).mono (R' := fun p q => p.1 = q.1 ∧ RV w A σ S.heap p.2 q.2) fun x u _ h => ⟨h.1, h.2.1⟩
          have hf0 := zeros_flat (w := w) (A := A) hz0 hza len (len * i.size) (by rw [hlen0]; exact Nat.le_refl _)
          rw [hlen0] at hf0
          obtain ⟨A', arr', R', g1, g2, g3, g4⟩ := fillRowsL_ok (S := S) (a := a) (B := B) (K := K) hrs R r2 hf0 (by simp)
          simp only [List.length_replicate] at g3
          have hsize : arr'.size = len * i.size := by rw [g4]; simp
          refine ⟨.slice (some ⟨w.heap.size, 0, none⟩) len len, w.alloc (.cells arr' e), _, A', .inl ?_, R'.grow1 hn0 hk rfl ?_ ?_ ?_ ?_⟩
          · have hsz' : (sizeOf e).run P w = .ok i.size w := Te.size w
            have hzr : (zeroValue e).run P w = .ok zv w := by simp [zeroValue, run_info hd, hz]
            have g1' : Instr.fill (fun i_1 => some (i_1 * i.size, i.size)) ((Array.range (len * i.size)).map (zv.cells[· % zv.cells.size]!)) (parts.map fun (i, x) => (i, a.eval x)).toList = some arr' := by simpa using g1
            simp only [execOp, ho, Instr.buildSlice, Sem.run_bind, run_und kt, Result.andThen_ok, hsz']
            rw [if_neg (by omega)]
            by_cases h0 : len * i.size = 0
            · have g1'' : Instr.fill (fun i_1 => some (i_1 * i.size, i.size)) ((Array.range (len * i.size)).map ((#[] : Array Value)[· % (#[] : Array Value).size]!)) (parts.map fun (i, x) => (i, a.eval x)).toList = some arr' := by rw [h0] at g1' ⊢; rw [map_range0] at g1' ⊢; exact g1'
              rw [if_pos h0]
              simp only [Sem.run_bind, Sem.run_pure, Result.andThen_ok]
              rw [g1'']
              simp only [Sem.run_bind, newRow, run_newObj, Result.andThen_ok, Sem.run_pure]
              rfl
            · rw [if_neg h0]
              simp only [Sem.run_bind, hzr, Sem.run_pure, Result.andThen_ok]
              rw [g1']
              simp only [Sem.run_bind, newRow, run_newObj, Result.andThen_ok, Sem.run_pure]
              rfl
          · exact rows_root (by simp) (by rw [g3, hsize]; exact Nat.le_refl _) (g2.alloc R'.heap.lt)
          · intro q hq; simp [Root.ids] at hq
          · refine ⟨rfl, fun sz' rs' hq => ?_⟩
            rw [rget_put_self] at hq
            rcases hq with hq | hq
            · cases hq
              refine ⟨by simp [g3], _, _, rfl, Nat.le_refl _, by simp, .inr ⟨w.heap.size, 0, by simp, by simp, fun _ => ⟨_, e, (0, 0), heap_alloc_at w _, by rw [hsize]; simp⟩⟩⟩
            · cases hq
          · intro q hq; simpa [vone, V.ids, W.ids, V1.ids, Pt.ids] using hq
        · cases h
      · cases h
    · cases h
  · cases h
end
end Go.Proofs.YtfokmnafgabdiaaGreatDoor.Eng
namespace Go.Proofs.YtfokmnafgabdiaaGreatDoor.Eng
open Go Go.RowKit
set_option linter.unusedVariables false
set_option linter.unusedSimpArgs false

theorem rget_cons_zero (r : Root) (h : List Root) : rget (r :: h) 0 = r := rfl
theorem rget_cons_succ (r : Root) (h : List Root) (n : Nat) : rget (r :: h) (n + 1) = rget h n := by simp [rget]
theorem rget_headD (h : List Root) : h.headD .dead = rget h 0 := by cases h <;> rfl
theorem rget_tail (h : List Root) (n : Nat) : rget h.tail n = rget h (n + 1) := by cases h <;> simp [rget]
theorem rget_sub (F : List Nat) : ∀ (h : List Root) (k n : Nat), rget (sub h k F) n = if F.contains (n + k) then rget h n else .dead
  | [], k, n => by simp [sub, rget]
  | r :: h, k, 0 => by simp only [sub, rget_cons_zero, Nat.zero_add]
  | r :: h, k, n + 1 => by simp only [sub, rget_cons_succ, rget_sub F h (k + 1) n]; rw [show n + 1 + k = n + (k + 1) from by omega]
theorem rget_mask (p : Nat → Bool) : ∀ (h : List Root) (k n : Nat), rget (mask p h k) n = if p (n + k) then rget h n else .dead
  | [], k, n => by simp [mask, rget]
  | r :: h, k, 0 => by simp only [mask, rget_cons_zero, Nat.zero_add]
  | r :: h, k, n + 1 => by simp only [mask, rget_cons_succ, rget_mask p h (k + 1) n]; rw [show n + 1 + k = n + (k + 1) from by omega]
theorem rget_merge (p : Nat → Bool) : ∀ (h : List Root) (k : Nat) (h' : List Root) (n : Nat), rget (merge p h k h') n = if p (n + k) then rget h' n else rget h n
  | [], k, h', n => by
    simp only [merge, rget_mask]
    split
    · rfl
    · simp [rget]
  | r :: h, k, h', 0 => by simp only [merge, rget_cons_zero, Nat.zero_add, rget_headD]
  | r :: h, k, h', n + 1 => by
    simp only [merge, rget_cons_succ, rget_merge p h (k + 1) h'.tail n, rget_tail]; rw [show n + 1 + k = n + (k + 1) from by omega]

structure HPost (w w' : World) (A A' : Nat → Prop) (σ σ' : Sig) (K : Nat → Prop) (hs h' : List Root) (start next : Nat) (v : V) (u : Value) : Prop where
  ext : Ext w w' (Owns σ hs)
  heap : RHeap w' A' σ' h'
  val : RV w' A' σ' h' v u
  vids : ∀ n ∈ v.ids, K n ∨ (start ≤ n ∧ n < next)
  knownH : ∀ n, ∀ m ∈ (rget h' n).ids, K m ∨ (start ≤ m ∧ m < next)
  dead : ∀ n, ¬ (K n ∨ (start ≤ n ∧ n < next)) → rget h' n = .dead
  ale : ∀ b, A b → A' b
  aup : ∀ b, A' b → A b ∨ Owns σ hs b ∨ w.heap.size ≤ b
  own : ∀ n b o, (rget h' n).own = true → σ' n = some (b, o) → Owns σ hs b ∨ w.heap.size ≤ b
  sig : ∀ n, K n → σ' n = σ n
  comp : ∀ n, K n → Compat (rget hs n) (rget h' n)
def HOk (P : Program) (callH : CallH) : Prop := ∀ g start lim hs ws v h' next, callH g start lim hs ws = some (v, h', next) →
  (∃ fn, P.funcs[g]? = some fn ∧ fn.name ≠ "runtime.NumGoroutine" ∧ fn.body.isSome = true) ∧
  ∀ (w : World) (A : Nat → Prop) (σ : Sig) (K : Nat → Prop) (cargs : Array Value), Gl w A → RHeap w A σ hs → (∀ n, ¬ K n → rget hs n = .dead) → (∀ n, ∀ m ∈ (rget hs n).ids, K m) → (∀ n, start ≤ n → n < lim → ¬ K n) →
    All2 (RW w A σ hs) ws cargs.toList → (∀ n ∈ ws.flatMap W.ids, K n) →
    Calls P g cargs w fun e w' => ∃ u σ' A', e = .returned u ∧ HPost w w' A A' σ σ' K hs h' start next v u

section
variable {P : Program} {E : Env} {B : Base} {K : Nat → Prop} {σ : Sig} {A : Nat → Prop} {S : St} {a : Act} {w : World}

theorem RS.after (R : RS B K σ A S a w) (hn0 : ∀ n, B.K0 n → K n) {F : List Nat} {hs : List Root} (hsub : ∀ n, rget hs n = if F.contains n then rget S.heap n else .dead) {w' : World} {A' : Nat → Prop} {σ' : Sig} {h' : List Root} {start next : Nat} {v : V} {u : Value} (hfree : ∀ n, start ≤ n → n < next → ¬ K n)
    (hp : HPost w w' A A' σ σ' (fun n => F.contains n = true ∧ K n) hs h' start next v u) :
    ∃ σ'', RS B (fun n => K n ∨ (start ≤ n ∧ n < next)) σ'' A' { S with heap := merge (fun n => F.contains n || (start ≤ n && n < next)) S.heap 0 h' } a w' ∧
      RV w' A' σ'' (merge (fun n => F.contains n || (start ≤ n && n < next)) S.heap 0 h') v u ∧ ∀ n ∈ v.ids, K n ∨ (start ≤ n ∧ n < next) := by
  let In : Nat → Prop := fun n => (F.contains n = true ∧ K n) ∨ (start ≤ n ∧ n < next)
  generalize hmg : merge (fun n => F.contains n || (start ≤ n && n < next)) S.heap 0 h' = hm
  have hin : ∀ n, In n → rget hm n = rget h' n := fun n hn => by
    rw [← hmg, rget_merge, Nat.add_zero, if_pos]
    rcases hn with hn | hn
    · simp only [hn.1, Bool.true_or]
    · simp only [decide_eq_true hn.1, decide_eq_true hn.2, Bool.and_self, Bool.or_true]
  have hout : ∀ n, ¬ In n → rget hm n = rget S.heap n := fun n hn => by
    rw [← hmg, rget_merge, Nat.add_zero]
    split
    · rename_i hc
      simp only [Bool.or_eq_true, Bool.and_eq_true, decide_eq_true_eq] at hc
      rcases hc with hc | hc
      · have hk : ¬ K n := fun hk => hn (.inl ⟨hc, hk⟩)
        rw [R.dead n hk]
        exact hp.dead n fun h => hn h
      · exact absurd (.inr hc) hn
    · rfl
  let σ'' : Sig := fun n => open Classical in if In n then σ' n else σ n
  have s1 : ∀ n, In n → σ'' n = σ' n := fun n hn => by simp only [σ'']; rw [if_pos hn]
  have s2 : ∀ n, ¬ In n → σ'' n = σ n := fun n hn => by simp only [σ'']; rw [if_neg hn]
  have s3 : ∀ n, K n → σ'' n = σ n := fun n hn => by
    by_cases h : In n
    · rw [s1 n h]
      rcases h with h | h
      · exact hp.sig n h
      · exact absurd hn (hfree n h.1 h.2)
    · exact s2 n h
  have hKout : ∀ n, K n → ¬ In n → F.contains n = false := fun n hk hn => by
    cases hc : F.contains n with
    | false => rfl
    | true => exact absurd (.inl ⟨hc, hk⟩) hn
  have hdeadK : ∀ n, (rget S.heap n).own = true → K n := fun n hn => Classical.byContradiction fun hk => by rw [R.dead n hk] at hn; cases hn
  have hnoOwn : ∀ n b o, ¬ In n → (rget S.heap n).own = true → σ n = some (b, o) → ¬ Owns σ hs b := fun n b o h1 h2 h3 ⟨m, o', h4, h5⟩ => by
    rw [hsub] at h4
    split at h4
    · rename_i hc
      have := R.heap.inj n m b o o' h2 h4 h3 h5
      subst this
      exact h1 (.inl ⟨hc, hdeadK n h2⟩)
    · cases h4
  have hAout : ∀ b, A b → ¬ Owns σ hs b := fun b hb ⟨m, o', h4, h5⟩ => by
    rw [hsub] at h4
    split at h4
    · exact R.heap.off m b o' h4 h5 hb
    · cases h4
  have hwA : ∀ b, A b → w'.heap[b]? = w.heap[b]? := fun b hb => hp.ext.block b (R.heap.lt b hb) (hAout b hb)
  have hstK : ∀ n, K n → Stays w w' σ σ'' S.heap hm n := fun n hn => by
    refine ⟨s3 n hn, ?_, fun b o _ _ => hp.ext.wide b⟩
    by_cases h : In n
    · rw [hin n h]
      rcases h with h | h
      · have := hp.comp n h
        rw [hsub, if_pos h.1] at this; exact this
      · exact absurd hn (hfree n h.1 h.2)
    · rw [hout n h]; exact Compat.refl _
  have hstIn : ∀ n, In n → Stays w' w' σ' σ'' h' hm n := fun n hn => ⟨s1 n hn, by rw [hin n hn]; exact Compat.refl _, fun b o _ _ => Wide.refl _ _⟩
  have hIn : ∀ n, In n → K n ∨ (start ≤ n ∧ n < next) := fun n hn => by rcases hn with h | h; exact .inl h.2; exact .inr h
  have hOwnsLt : ∀ b, Owns σ hs b → b < w.heap.size ∧ (B.O0 b ∨ B.w0.heap.size ≤ b) := fun b ⟨m, o', h4, h5⟩ => by
    rw [hsub] at h4
    split at h4
    · exact ⟨R.lt h4 h5, R.own m b o' h4 h5⟩
    · cases h4
  refine ⟨σ'', ⟨⟨fun n => ?_, fun n m b o o' h1 h2 h3 h4 => ?_, fun n b o h1 h2 h3 => ?_, hp.heap.lt⟩, R.tmps.mono fun x u hx r => r.stays hwA hp.ale fun n hn => hstK n (R.known x hx n hn), fun x hx n hn => .inl (R.known x hx n hn), fun n m hm' => ?_, fun n hn => ?_,
    R.ext.trans (hp.ext.mono fun k hk hO => (hOwnsLt k hO).2), fun b hb => hp.ale b (R.ale b hb), fun b hb => ?_, fun n b o h1 h2 => ?_, fun n hn => (s3 n (hn0 n hn)).trans (R.sig0 n hn), R.defers, fun n hn => .inl (R.k0 n hn), fun n hn => (R.comp n hn).trans (hstK n (hn0 n hn)).compat⟩,
    hp.val.stays (fun b _ => rfl) (fun _ h => h) fun n hn => hstIn n (hp.vids n hn), fun n hn => hIn n (hp.vids n hn)⟩
  · by_cases h : In n
    · show RRoot w' A' σ'' hm n (rget hm n)
      rw [hin n h]
      exact (hp.heap.root n).stays (fun b _ => rfl) (fun _ h => h) (s1 n h) (fun b o _ _ => rfl) fun m hm' => hstIn m (hp.knownH n m hm')
    · show RRoot w' A' σ'' hm n (rget hm n)
      rw [hout n h]
      exact (R.heap.root n).stays hwA hp.ale (s2 n h) (fun b o h1 h2 => hp.ext.block b (R.lt h1 h2) (hnoOwn n b o h h1 h2)) fun m hm' => hstK m (R.knownH n m hm')
  · change (rget hm n).own = true at h1
    change (rget hm m).own = true at h2
    by_cases hn : In n <;> by_cases hm' : In m
    · rw [hin n hn] at h1; rw [hin m hm'] at h2; rw [s1 n hn] at h3; rw [s1 m hm'] at h4
      exact hp.heap.inj n m b o o' h1 h2 h3 h4
    · exfalso
      rw [hin n hn] at h1; rw [hout m hm'] at h2; rw [s1 n hn] at h3; rw [s2 m hm'] at h4
      rcases hp.own n b o h1 h3 with h | h
      · exact hnoOwn m b o' hm' h2 h4 h
      · have := R.lt h2 h4; omega
    · exfalso
      rw [hout n hn] at h1; rw [hin m hm'] at h2; rw [s2 n hn] at h3; rw [s1 m hm'] at h4
      rcases hp.own m b o' h2 h4 with h | h
      · exact hnoOwn n b o hn h1 h3 h
      · have := R.lt h1 h3; omega
    · rw [hout n hn] at h1; rw [hout m hm'] at h2; rw [s2 n hn] at h3; rw [s2 m hm'] at h4
      exact R.heap.inj n m b o o' h1 h2 h3 h4
  · change (rget hm n).own = true at h1
    by_cases hn : In n
    · rw [hin n hn] at h1; rw [s1 n hn] at h2
      exact hp.heap.off n b o h1 h2 h3
    · rw [hout n hn] at h1; rw [s2 n hn] at h2
      rcases hp.aup b h3 with h | h | h
      · exact R.heap.off n b o h1 h2 h
      · exact hnoOwn n b o hn h1 h2 h
      · have := R.lt h1 h2; omega
  · change m ∈ (rget hm n).ids at hm'
    by_cases hn : In n
    · rw [hin n hn] at hm'; exact hIn m (hp.knownH n m hm')
    · rw [hout n hn] at hm'; exact .inl (R.knownH n m hm')
  · show rget hm n = .dead
    rw [hout n fun h => hn (hIn n h)]
    exact R.dead n fun h => hn (.inl h)
  · rcases hp.aup b hb with h | h | h
    · exact R.aup b h
    · exact .inr (hOwnsLt b h).2
    · exact .inr (.inr (Nat.le_trans R.ext.size h))
  · change (rget hm n).own = true at h1
    by_cases hn : In n
    · rw [hin n hn] at h1; rw [s1 n hn] at h2
      rcases hp.own n b o h1 h2 with h | h
      · exact (hOwnsLt b h).2
      · exact .inr (Nat.le_trans R.ext.size h)
    · rw [hout n hn] at h1; rw [s2 n hn] at h2; exact R.own n b o h1 h2

theorem sealW_cells {h : List Root} {x y : W} (hs : sealW h x = some y) : ∃ cs, closeCs h (wCells x) = some cs ∧ ((∃ z, x = .one z ∧ ∃ c, cs = [c] ∧ y = .one (.c c)) ∨ ∃ zs, x = .agg zs ∧ y = .agg (cs.map .c)) := by
  cases x with
  | one z =>
    simp only [sealW, Option.map_eq_some_iff] at hs
    obtain ⟨c, hc, rfl⟩ := hs
    exact ⟨[c], by simp [closeCs, wCells, mapO, hc], .inl ⟨z, rfl, c, rfl, rfl⟩⟩
  | agg zs =>
    simp only [sealW, Option.map_eq_some_iff] at hs
    obtain ⟨cs, hc, rfl⟩ := hs
    exact ⟨cs, hc, .inr ⟨zs, rfl, rfl⟩⟩
theorem sealW_ok (R : RS B K σ A S a w) {A' : Nat → Prop} (hA : ∀ b, A b → A' b) {x y : W} {u : Value} (hs : sealW S.heap x = some y) (r : RW w A σ S.heap x u) (hall : ∀ n ∈ refsOf (wCells x), ∀ b o, (rget S.heap n).own = true → σ n = some (b, o) → A' b) {h2 : List Root} :
    RW w A' σ h2 y u ∧ y.ids = [] := by
  obtain ⟨cs, hc, hx⟩ := sealW_cells hs
  have hcl : ∀ z c v, z ∈ wCells x → closeC S.heap z = some c → RV1 w A σ S.heap z v → RC w A' c v := fun z c v hz h1 h2 =>
    closeC_ok R hA (fun n hn b o g1 g2 => hall n (closeCs_refs hc z hz n hn) b o g1 g2) h1 h2
  rcases hx with ⟨z, rfl, c, rfl, rfl⟩ | ⟨zs, rfl, rfl⟩
  · simp only [closeCs, wCells, mapO] at hc
    cases hz : closeC S.heap z with
    | none => rw [hz] at hc; cases hc
    | some c' => rw [hz] at hc; simp at hc; subst hc; exact ⟨hcl z c' u (by simp [wCells]) hz r, rfl⟩
  · obtain ⟨us, e, r2⟩ := r
    have : All2 (RC w A') cs us.toList := r2.mapO hc fun z c v hz h1 h2 => hcl z c v (by simpa [wCells] using hz) h1 h2
    refine ⟨⟨us, e, this.map fun c v _ r => r⟩, ?_⟩
    simp only [W.ids, List.flatMap_eq_nil_iff, List.mem_map]
    rintro _ ⟨c, _, rfl⟩; rfl
theorem mem_refsOf_flat {x : W} {xs : List W} {n : Nat} (hx : x ∈ xs) (hn : n ∈ refsOf (wCells x)) : n ∈ refsOf (xs.flatMap wCells) := by
  simp only [refsOf, List.mem_filterMap] at hn ⊢
  obtain ⟨y, hy, e⟩ := hn
  exact ⟨y, by simp only [List.mem_flatMap]; exact ⟨x, hx, hy⟩, e⟩
theorem RS.sealV (R : RS B K σ A S a w) {v v' : V} {h' : List Root} {u : Value} (hs : sealV S.heap v = some (v', h')) (r : RV w A σ S.heap v u) :
    ∃ A', RS B K σ A' { S with heap := h' } a w ∧ RV w A' σ h' v' u ∧ v'.ids = [] := by
  have go : ∀ xs : List V1, ∃ A' : Nat → Prop, (∀ b, A b → A' b) ∧ RS B K σ A' { S with heap := killV1s S.heap xs } a w ∧ ∀ n ∈ refsOf xs, ∀ b o, (rget S.heap n).own = true → σ n = some (b, o) → A' b := fun xs => by
    refine ⟨_, fun b hb => .inl hb, R.shutBy (L := fun m => m ∈ refsOf xs) fun m => ?_, fun n hn b o h1 h2 => .inr ⟨n, o, hn, h1, h2⟩⟩
    rw [rget_kill]; by_cases h : m ∈ refsOf xs
    · right; simp [h]
    · left; simp [h]
  cases v with
  | dead => cases hs
  | w x =>
    simp only [Eng.sealV, Option.map_eq_some_iff, Prod.mk.injEq] at hs
    obtain ⟨y, hy, rfl, rfl⟩ := hs
    obtain ⟨A', hA, R', hall⟩ := go (wCells x)
    have := sealW_ok R hA hy r hall (h2 := killV1s S.heap (wCells x))
    exact ⟨A', R', this.1, this.2⟩
  | tup xs =>
    simp only [Eng.sealV, Option.map_eq_some_iff, Prod.mk.injEq] at hs
    obtain ⟨ys, hy, rfl, rfl⟩ := hs
    obtain ⟨us, e, r2⟩ := r
    obtain ⟨A', hA, R', hall⟩ := go (xs.flatMap wCells)
    have hk : ∀ (x y : W) (u : Value), x ∈ xs → sealW S.heap x = some y → RW w A σ S.heap x u → RW w A' σ (killV1s S.heap (xs.flatMap wCells)) y u ∧ y.ids = [] := fun x y u hx h1 h2 =>
      sealW_ok R hA h1 h2 fun n hn => hall n (mem_refsOf_flat hx hn)
    have h3 := r2.mapO hy (R' := fun y u => RW w A' σ (killV1s S.heap (xs.flatMap wCells)) y u ∧ y.ids = []) hk
    refine ⟨A', R', ⟨us, e, h3.mono fun y u _ h => h.1⟩, ?_⟩
    simp only [V.ids, List.flatMap_eq_nil_iff]
    intro y hy'
    obtain ⟨j, hj⟩ := List.getElem?_of_mem hy'
    obtain ⟨u', _, h4⟩ := h3.get hj
    exact h4.2

theorem loudCall_ok {callH : CallH} (HH : HOk P callH) (R : RS B K σ A S a w) (hn0 : ∀ n, B.K0 n → K n) {c : Call} {start lim next' : Nat} {v : V} {h' : List Root} {o : Oper} (ho : o.op = .call c)
    (h : loudCall E callH S.tmps S.heap start lim c = some (v, h', next')) (hlim : next' ≤ lim) (hfree : ∀ n, start ≤ n → n < lim → ¬ K n) {next : Act → World → Prop} {Q : Exit → Act → World → Prop}
    (hnext : Goes B (fun n => K n ∨ (start ≤ n ∧ n < next')) { tmps := setTmp S.tmps o.dst v, heap := h' } a o.dst next) : o.wp P a w next Q := by
  unfold loudCall at h
  split at h
  · rename_i g ws hcal
    split at h
    · simp only at h
      split at h
      · rename_i hcond
        simp only [Bool.and_eq_true, List.all_eq_true] at hcond
        obtain ⟨⟨hclosed, hws⟩, hF⟩ := hcond
        split at h
        · rename_i v0 h0 nx0 hcall
          obtain ⟨⟨fn, hfn, hnm, hbd⟩, hcalls⟩ := HH _ _ _ _ _ _ _ _ hcall
          obtain ⟨cargs, hrun, rargs, kargs⟩ := callee_ok R hcal ho hfn hnm hbd
          generalize hFe : reach S.heap 8 (ws.flatMap W.ids) = F at *
          have hsub : ∀ n, rget (sub S.heap 0 F) n = if F.contains n then rget S.heap n else .dead := fun n => by rw [rget_sub, Nat.add_zero]
          have hg : ∀ m, (¬ (F.contains m = false) ∧ rget (sub S.heap 0 F) m = rget S.heap m) ∨ (F.contains m = false ∧ rget (sub S.heap 0 F) m = .dead) := fun m => by
            rw [hsub]; cases F.contains m
            · right; simp
            · left; simp
          have hst : ∀ m, F.contains m = true → Stays w w σ σ S.heap (sub S.heap 0 F) m := fun m hm => ⟨rfl, by rw [hsub, if_pos hm]; exact Compat.refl _, fun b o _ _ => Wide.refl _ _⟩
          have hidF : ∀ n, ∀ m ∈ (rget (sub S.heap 0 F) n).ids, F.contains m = true ∧ K m := fun n m hm => by
            rw [hsub] at hm
            split at hm
            · rename_i hc
              refine ⟨?_, R.knownH n m hm⟩
              have := (List.all_eq_true.1 hclosed) n (by simpa using hc)
              exact (List.all_eq_true.1 this) m hm
            · cases hm
          have hH : RHeap w A σ (sub S.heap 0 F) := by
            have hown : ∀ m, (rget (sub S.heap 0 F) m).own = true → (rget S.heap m).own = true := fun m h => by
              rw [hsub] at h; split at h
              · exact h
              · cases h
            refine ⟨fun m => ?_, fun m q b o o' h1 h2 => R.heap.inj m q b o o' (hown m h1) (hown q h2), fun m b o h1 => R.heap.off m b o (hown m h1), R.heap.lt⟩
            rcases hg m with ⟨h1, e⟩ | ⟨h1, e⟩
            · have hm := (hidF m)
              rw [e] at hm ⊢
              exact (R.heap.root m).stays (fun b _ => rfl) (fun _ h => h) rfl (fun b o _ _ => rfl) fun q hq => hst q (hm q hq).1
            · rw [e]; trivial
          have hC := hcalls w A σ (fun n => F.contains n = true ∧ K n) cargs R.gl hH (fun n hn => by
              rw [hsub]; split
              · rename_i hc; exact R.dead n fun hk => hn ⟨hc, hk⟩
              · rfl) hidF (fun n h1 h2 hk => hfree n h1 h2 hk.2)
            (rargs.mono fun x u hx r => r.stays (fun b _ => rfl) (fun _ h => h) fun n hn => hst n (hws n (by simp only [List.mem_flatMap]; exact ⟨x, hx, hn⟩)))
            (fun n hn => ⟨hws n hn, kargs n hn⟩)
          unfold Oper.wp
          rw [hrun, Oper.upon_enter]
          refine hC.mono ?_
          rintro e w' ⟨u, σ', A', rfl, hp⟩
          have hnx : nx0 = next' := by
            split at h
            · simp only [Option.map_eq_some_iff, Prod.mk.injEq] at h; obtain ⟨_, _, _, _, e⟩ := h; exact e
            · simp only [Option.some.injEq, Prod.mk.injEq] at h; exact h.2.2
          subst hnx
          obtain ⟨σ'', R', hv, hvi⟩ := R.after hn0 hsub (fun n h1 h2 => hfree n h1 (by omega)) hp
          split at h
          · simp only [Option.map_eq_some_iff, Prod.mk.injEq] at h
            obtain ⟨⟨v2, h2⟩, hseal, rfl, rfl, _⟩ := h
            obtain ⟨A2, R2, hv2, hi2⟩ := R'.sealV hseal hv
            exact hnext _ _ _ _ (R2.value (dst := o.dst) hv2 (by rw [hi2]; simp))
          · simp only [Option.some.injEq, Prod.mk.injEq] at h
            obtain ⟨rfl, rfl, _⟩ := h
            exact hnext _ _ _ _ (R'.value (dst := o.dst) hv hvi)
        · cases h
      · cases h
    · cases h
  · cases h
end
end Go.Proofs.YtfokmnafgabdiaaGreatDoor.Eng
namespace Go.Proofs.YtfokmnafgabdiaaGreatDoor.Eng
open Go Go.RowKit
set_option linter.unusedVariables false
set_option linter.unusedSimpArgs false

section
variable {P : Program} {E : Env} {B : Base} {K : Nat → Prop} {σ : Sig} {A : Nat → Prop} {S : St} {a : Act} {w : World}
theorem Loud.go {o : Oper} {start nx : Nat} {v : V} {h' : List Root} (hl : Loud P B K S a w o start v h' nx) {next : Act → World → Prop} {Q : Exit → Act → World → Prop}
    (hnext : Goes B (fun n => K n ∨ (start ≤ n ∧ n < nx)) { tmps := setTmp S.tmps o.dst v, heap := h' } a o.dst next) : o.wp P a w next Q := by
  obtain ⟨u, w', σ', A', h | ⟨rfl, h⟩, R⟩ := hl
  · exact wp_of_value h (hnext _ _ _ _ R)
  · exact wp_of_skip h (hnext _ _ _ _ R)
theorem evL_ok (EO : EnvOk P E) {callH : CallH} (HH : HOk P callH) (R : RS B K σ A S a w) (hn0 : ∀ n, B.K0 n → K n) {start lim nx : Nat} {v : V} {h' : List Root} {o : Oper}
    (h : evL E callH S.tmps S.heap start lim o.op = some (v, h', nx)) (hlim : nx ≤ lim) (hfree : ∀ n, start ≤ n → n < lim → ¬ K n) {next : Act → World → Prop} {Q : Exit → Act → World → Prop}
    (hnext : Goes B (fun n => K n ∨ (start ≤ n ∧ n < nx)) { tmps := setTmp S.tmps o.dst v, heap := h' } a o.dst next) : o.wp P a w next Q := by
  cases hop : o.op with
  | store t ad x =>
    rw [hop] at h
    simp only [evL] at h
    split at h
    · rename_i i p xs hi hp hx
      split at h
      · rename_i hlen
        simp only [Option.map_eq_some_iff, Prod.mk.injEq] at h
        obtain ⟨h2, hst, rfl, rfl, rfl⟩ := h
        simp only [Option.bind_eq_some_iff] at hp hx
        obtain ⟨v0, h0, hp⟩ := hp
        obtain ⟨v1, h1, hx⟩ := hx
        exact store_ok EO R hop hi h0 hp h1 hx hlen hst fun a' w' σ' A' R' => hnext _ _ _ _ (R'.mono fun n hn => .inl hn)
      · cases h
    · cases h
  | buildSlice t len parts =>
    rw [hop] at h
    have hnx : nx = start + 1 := by
      simp only [evL] at h
      split at h
      · split at h
        · split at h
          · split at h
            · simp only [Option.map_eq_some_iff, Prod.mk.injEq] at h; obtain ⟨_, _, _, _, e⟩ := h; exact e.symm
            · cases h
          · cases h
        · cases h
      · cases h
    exact (buildL_ok EO R hn0 hop (hfree start (Nat.le_refl _) (by omega)) h).go hnext
  | call c =>
    rw [hop] at h
    simp only [evL] at h
    split at h
    · rename_i hc
      split at h
      · rename_i s x t u hargs htypes
        split at h
        · rename_i e zs zb zz e' zs' zb' zz' y z ht hu hy hz
          simp only [Option.map_eq_some_iff, Prod.mk.injEq] at h
          obtain ⟨⟨v1, h1⟩, ha, rfl, rfl, rfl⟩ := h
          exact (append_ok EO R hn0 (hfree start (Nat.le_refl _) (by omega)) hop hc hargs htypes ht hu hy hz ha).go hnext
        · rename_i e zs zb zz kd zs' zb' zz' y kd' k ht hu hy hz
          simp only [Option.map_eq_some_iff, Prod.mk.injEq] at h
          obtain ⟨⟨v1, h1⟩, ha, rfl, rfl, rfl⟩ := h
          exact (appendZ_ok EO R hn0 (hfree start (Nat.le_refl _) (by omega)) hop hc hargs htypes ht hu hy hz ha).go hnext
        · cases h
      · cases h
    · rename_i hc
      split at h
      · rename_i d x t u hargs htypes
        split at h
        · rename_i e zs zb zz e' zs' zb' zz' y z ht hu hy hz
          simp only [Option.map_eq_some_iff, Prod.mk.injEq] at h
          obtain ⟨⟨v1, h1⟩, ha, rfl, rfl, rfl⟩ := h
          exact (copy_ok EO R hop hc hargs htypes ht hy hz ha).go hnext
        · cases h
      · cases h
    · rename_i hc
      split at h
      · rename_i d t hargs htypes
        split at h
        · rename_i e zs zb zz y ht hy
          simp only [Option.map_eq_some_iff, Prod.mk.injEq] at h
          obtain ⟨⟨v1, h1⟩, ha, rfl, rfl, rfl⟩ := h
          exact (clear_ok EO R hop hc hargs htypes ht hy ha).go hnext
        · cases h
      · cases h
    · exact loudCall_ok HH R hn0 hop h hlim hfree hnext
    · cases h
  | _ => rw [hop] at h; cases h

structure Ok (P : Program) (E : Env) (call : CallF) (callH : CallH) : Prop where
  env : EnvOk P E
  eq : ∀ t, E.eqOk t = true → EqTy P t
  q : CallOk P call
  h : HOk P callH
theorem opStep_ok {call : CallF} {callH : CallH} (O : Ok P E call callH) (R : RS B K σ A S a w) (hn0 : ∀ n, B.K0 n → K n) {start lim nx : Nat} {S' : St} {o : Oper}
    (h : opStep E call callH start lim o S = some (S', nx)) (hfree : ∀ n, start ≤ n → n < lim → ¬ K n) {next : Act → World → Prop} {Q : Exit → Act → World → Prop}
    (hnext : Goes B (fun n => K n ∨ (start ≤ n ∧ n < nx)) S' a o.dst next) : o.wp P a w next Q := by
  unfold opStep at h
  split at h
  · split at h
    · rename_i v h2 nx2 hev
      split at h
      · rename_i hlim
        simp only [Option.some.injEq, Prod.mk.injEq] at h
        obtain ⟨rfl, rfl⟩ := h
        exact evL_ok O.env O.h R hn0 hev hlim.2 hfree hnext
      · cases h
    · cases h
  · split at h
    · rename_i v new hev
      split at h
      · rename_i hlim
        simp only [Option.some.injEq, Prod.mk.injEq] at h
        obtain ⟨rfl, rfl⟩ := h
        exact evQ_ok O.env O.eq O.q R hn0 hev (fun n h1 h2 => hfree n h1 (by omega)) hnext
      · cases h
    · cases h
theorem opStep_le {E : Env} {call : CallF} {callH : CallH} {S S' : St} {start lim nx : Nat} {o : Oper} (h : opStep E call callH start lim o S = some (S', nx)) : start ≤ nx ∧ (nx ≤ lim ∨ nx = start) := by
  unfold opStep at h
  split at h
  · split at h
    · split at h
      · rename_i hl
        simp only [Option.some.injEq, Prod.mk.injEq] at h
        obtain ⟨_, rfl⟩ := h; exact ⟨hl.1, .inl hl.2⟩
      · cases h
    · cases h
  · split at h
    · split at h
      · rename_i hl
        simp only [Option.some.injEq, Prod.mk.injEq] at h
        obtain ⟨_, rfl⟩ := h; exact ⟨by omega, .inl hl⟩
      · cases h
    · cases h
end
end Go.Proofs.YtfokmnafgabdiaaGreatDoor.Eng
namespace Go.Proofs.YtfokmnafgabdiaaGreatDoor.Eng
open Go Go.RowKit
set_option linter.unusedVariables false
set_option linter.unusedSimpArgs false

section
variable {E : Env} {T T2 : List V} {h h2 : List Root}
theorem opds_congr : ∀ {l : List (TypeId × Operand)}, (∀ p ∈ l, ∀ t, opd E T t p.2 = opd E T2 t p.2) → opds E T l = opds E T2 l
  | [], _ => rfl
  | (t, x) :: l, hx => by
    simp only [opds]
    rw [hx (t, x) (by simp) t, opds_congr fun p hp => hx p (by simp [hp])]
theorem cellsAt_congr {p : Pt} (hp : ∀ n ∈ p.ids, rget h n = rget h2 n) : cellsAt h p = cellsAt h2 p := by
  cases p with
  | rp cells => rfl
  | ptr n i j => simp only [cellsAt]; rw [hp n (by simp [Pt.ids])]
theorem closeC_congr {x : V1} (hp : ∀ n ∈ x.ids, rget h n = rget h2 n) : closeC h x = closeC h2 x := by
  cases x with
  | ref n off len cap => simp only [closeC]; rw [hp n (by simp [V1.ids])]
  | c x => rfl
  | nil sz => rfl
  | pt p => rfl
  | clo g caps => rfl
def Deep (h h2 : List Root) (n : Nat) : Prop := rget h n = rget h2 n ∧ ∀ m ∈ (rget h n).ids, rget h m = rget h2 m
theorem closePt_congr {p : Pt} (hp : ∀ n ∈ p.ids, Deep h h2 n) : closePt h p = closePt h2 p := by
  simp only [closePt]
  rw [cellsAt_congr (h2 := h2) fun n hn => (hp n hn).1]
  cases hc : cellsAt h2 p with
  | none => rfl
  | some xs =>
    simp only [Option.map_some, Option.some.injEq]
    refine List.map_congr_left fun x hx => ?_
    rw [closeC_congr (h := h) (h2 := h2)]
    intro m hm
    cases p with
    | rp cells =>
      simp only [cellsAt, Option.some.injEq] at hc; subst hc
      simp only [List.mem_map] at hx
      obtain ⟨c, _, rfl⟩ := hx; cases hm
    | ptr n i j =>
      have hd := hp n (by simp [Pt.ids])
      simp only [cellsAt] at hc
      cases hq : rget h2 n with
      | dead => rw [hq] at hc; cases hc
      | var cells =>
        rw [hq] at hc
        simp only at hc
        split at hc
        · simp at hc; subst hc
          refine hd.2 m ?_
          rw [hd.1, hq]
          simp only [Root.ids, List.mem_flatMap]
          exact ⟨x, List.mem_of_mem_drop hx, hm⟩
        · cases hc
      | rows sz rs =>
        rw [hq] at hc; simp only [Option.map_eq_some_iff] at hc
        obtain ⟨r, _, rfl⟩ := hc
        simp only [List.mem_map] at hx
        obtain ⟨c, _, rfl⟩ := hx; cases hm
      | fro sz rs =>
        rw [hq] at hc; simp only [Option.map_eq_some_iff] at hc
        obtain ⟨r, _, rfl⟩ := hc
        simp only [List.mem_map] at hx
        obtain ⟨c, _, rfl⟩ := hx; cases hm
theorem mapO_congr {α β : Type} {f g : α → Option β} : ∀ {l : List α}, (∀ x ∈ l, f x = g x) → mapO f l = mapO g l
  | [], _ => rfl
  | x :: l, hx => by simp only [mapO]; rw [hx x (by simp), mapO_congr fun y hy => hx y (by simp [hy])]
theorem closeRo_congr {x : V1} (hp : ∀ n ∈ x.ids, Deep h h2 n) : closeRo h x = closeRo h2 x := by
  cases x with
  | pt p => simp only [closeRo]; rw [closePt_congr (h2 := h2) hp]
  | clo g caps =>
    simp only [closeRo]
    rw [mapO_congr (g := closePt h2) fun p hp' => closePt_congr fun n hn => hp n (by simp only [V1.ids, List.mem_flatMap]; exact ⟨p, hp', hn⟩)]
  | c x => rfl
  | nil sz => rfl
  | ref n off len cap => simp only [closeRo]; rw [closeC_congr (h2 := h2) fun n hn => (hp n hn).1]
theorem closeRoW_congr {x : W} (hp : ∀ n ∈ x.ids, Deep h h2 n) : closeRoW h x = closeRoW h2 x := by
  cases x with
  | one x => simp only [closeRoW]; rw [closeRo_congr (h2 := h2) hp]
  | agg xs =>
    simp only [closeRoW]
    rw [mapO_congr (g := closeRo h2) fun p hp' => closeRo_congr fun n hn => hp n (by simp only [W.ids, List.mem_flatMap]; exact ⟨p, hp', hn⟩)]
theorem rowsOf_congr {y : V1} (hp : ∀ n ∈ y.ids, rget h n = rget h2 n) : rowsOf h y = rowsOf h2 y := by
  cases y with
  | ref n off len cap => simp only [rowsOf]; rw [hp n (by simp [V1.ids])]
  | c x => cases x <;> rfl
  | nil sz => rfl
  | pt p => rfl
  | clo g caps => rfl
theorem ptrOf_eq {v : V} {p : Pt} (hp : ptrOf v = some p) : v = .w (.one (.pt p)) := by
  unfold ptrOf at hp
  split at hp
  · simp at hp; subst hp; rfl
  · cases hp
theorem bound_congr {x : Option Operand} (hx : ∀ y, x = some y → ∀ t, opd E T t y = opd E T2 t y) : bound? E T x = bound? E T2 x := by
  cases x with
  | none => rfl
  | some y => simp only [bound?]; rw [hx y rfl]

theorem calleeOf_congr {c : Call} (hx : ∀ x ∈ c.operands.toList, ∀ t, opd E T t x = opd E T2 t x) : calleeOf E T c = calleeOf E T2 c := by
  unfold calleeOf
  cases hc : c.callee with
  | value f =>
    simp only
    rw [hx f (by simp [Call.operands, hc])]
    rw [opds_congr (T2 := T2) fun p hp => hx p.2 (by simp only [Call.operands, Array.toList_append, List.mem_append]; exact .inr (List.of_mem_zip hp).2)]
  | builtin b => rfl
  | invoke _ _ => rfl
theorem calleeOf_ids {c : Call} {g : FuncId} {ws : List W} (h : calleeOf E T c = some (g, ws)) : ∀ n ∈ ws.flatMap W.ids, ∃ x ∈ c.operands.toList, ∃ t v, opd E T t x = some v ∧ n ∈ v.ids := by
  unfold calleeOf at h
  split at h
  · rename_i f hc
    split at h
    · rename_i g' caps hf
      split at h
      · split at h
        · rename_i vs hvs
          split at h
          · rename_i ws' hws
            simp at h; obtain ⟨rfl, rfl⟩ := h
            intro n hn
            simp only [List.flatMap_append, List.mem_append] at hn
            rcases hn with hn | hn
            · simp only [List.mem_flatMap] at hn
              obtain ⟨x, hx, hn⟩ := hn
              obtain ⟨j, hj⟩ := List.getElem?_of_mem hx
              obtain ⟨v, hv, hvw⟩ := mapO_get hws hj
              have : ∀ (l : List (TypeId × Operand)) (vs : List V), opds E T l = some vs → ∀ v ∈ vs, ∃ p ∈ l, opd E T p.1 p.2 = some v := by
                intro l
                induction l with
                | nil => intro vs h v hv; simp [opds] at h; subst h; cases hv
                | cons p l ih =>
                  intro vs h v hv
                  obtain ⟨t, x⟩ := p
                  simp only [opds] at h
                  split at h
                  · rename_i v1 vs1 h1 h2
                    simp at h; subst h
                    rcases List.mem_cons.1 hv with rfl | hv
                    · exact ⟨(t, x), by simp, h1⟩
                    · obtain ⟨p, hp, h3⟩ := ih vs1 h2 v hv; exact ⟨p, by simp [hp], h3⟩
                  · cases h
              obtain ⟨p, hp, h3⟩ := this _ _ hvs v (List.mem_of_getElem? hv)
              refine ⟨p.2, by simp only [Call.operands, Array.toList_append, List.mem_append]; exact .inr (List.of_mem_zip hp).2, p.1, v, h3, ?_⟩
              cases v with
              | w y => simp [argW, V.w?] at hvw; subst hvw; exact hn
              | tup xs => simp [argW, V.w?] at hvw
              | dead => simp [argW, V.w?] at hvw
            · simp only [List.mem_flatMap, List.mem_map] at hn
              obtain ⟨x, ⟨p, hp, rfl⟩, hn⟩ := hn
              exact ⟨f, by simp [Call.operands, hc], 0, _, hf, by simp only [V.ids, W.ids, V1.ids, List.mem_flatMap]; exact ⟨p, hp, hn⟩⟩
          · cases h
        · cases h
      · cases h
    · cases h
  · cases h

theorem evQ_congr {call : CallF} {start : Nat} {ty : TypeId} {op : Op} (hx : ∀ x ∈ op.operands.toList, ∀ t, opd E T t x = opd E T2 t x)
    (hh : match looks op with
      | .none => True
      | .load => ∀ x ∈ op.operands.toList, ∀ t v, opd E T t x = some v → ∀ n ∈ ptrFoot v, rget h n = rget h2 n
      | .deep => ∀ x ∈ op.operands.toList, ∀ t v, opd E T t x = some v → ∀ n ∈ v.ids, Deep h h2 n) :
    evQ E call T h start ty op = evQ E call T2 h2 start ty op := by
  have one : ∀ x t, x ∈ op.operands.toList → opd E T t x = opd E T2 t x := fun x t hx' => hx x hx' t
  cases op with
  | move x => simp only [evQ]; rw [one x _ (by simp [Op.operands])]
  | assign x => simp only [evQ]; rw [one x _ (by simp [Op.operands])]
  | pick c a b => simp only [evQ]; rw [one c _ (by simp [Op.operands]), one a _ (by simp [Op.operands]), one b _ (by simp [Op.operands])]
  | alloc t => rfl
  | box t x => simp only [evQ]; rw [one x _ (by simp [Op.operands])]
  | build t parts =>
    simp only [evQ]
    have : ∀ fs : List (Nat × TypeId), opds E T (parts.toList.map fun p => (((fs[p.1]?).map (·.2)).getD 0, p.2)) = opds E T2 (parts.toList.map fun p => (((fs[p.1]?).map (·.2)).getD 0, p.2)) := fun fs => opds_congr fun p hp t => by
      simp only [List.mem_map] at hp
      obtain ⟨q, hq, rfl⟩ := hp
      exact one q.2 t (by simp only [Op.operands, List.toList_toArray, List.mem_map]; exact ⟨q, hq, rfl⟩)
    simp only [this]
  | buildSlice t len parts =>
    simp only [evQ]
    have : ∀ e : TypeId, opds E T (parts.toList.map fun p => (e, p.2)) = opds E T2 (parts.toList.map fun p => (e, p.2)) := fun fs => opds_congr fun p hp t => by
      simp only [List.mem_map] at hp
      obtain ⟨q, hq, rfl⟩ := hp
      exact one q.2 t (by simp only [Op.operands, List.toList_toArray, List.mem_map]; exact ⟨q, hq, rfl⟩)
    simp only [this]
  | load t x =>
    simp only [evQ]
    have h0 := one x 0 (by simp [Op.operands])
    cases hv : opd E T 0 x with
    | none => rw [← h0, hv]; cases E.ty t <;> rfl
    | some v =>
      have hr := hh x (by simp [Op.operands]) 0 v hv
      rw [← h0, hv]
      simp only [Option.bind_some]
      cases hp : ptrOf v with
      | none => cases E.ty t <;> rfl
      | some p =>
        have hvp := ptrOf_eq hp
        subst hvp
        have : cellsAt h p = cellsAt h2 p := cellsAt_congr fun n hn => hr n (by
          cases p with
          | ptr m i j => simpa [ptrFoot, Pt.ids] using hn
          | rp cells => cases hn)
        cases E.ty t with
        | none => rfl
        | some i => simp only [this]
  | binOp op t x y sp => simp only [evQ]; rw [one x _ (by simp [Op.operands]), one y _ (by simp [Op.operands])]
  | unOp op t x => simp only [evQ]; rw [one x _ (by simp [Op.operands])]
  | convert src dst x =>
    simp only [evQ]
    have h0 := one x src (by simp [Op.operands])
    rw [← h0]
    cases hs : E.ty src with
    | none => rfl
    | some s => cases hd : E.ty dst with
      | none => rfl
      | some d =>
        cases hv : opd E T src x with
        | none => rfl
        | some v =>
          have hr := hh x (by simp [Op.operands]) src v hv
          have hrow : ∀ y, v = .w (.one y) → rowsOf h y = rowsOf h2 y := fun y e => rowsOf_congr fun n hn => (hr n (by subst e; exact hn)).1
          obtain ⟨dk, d1, d2, d3⟩ := d
          cases v with
          | tup xs => cases dk <;> rfl
          | dead => cases dk <;> rfl
          | w x0 => cases x0 with
            | agg xs => cases dk <;> rfl
            | one y =>
              have hy := hrow y rfl
              cases dk with
              | string => cases y with
                | c z => cases z with
                  | lit u => cases u <;> first | rfl | simp only [hy]
                  | ro sz rows => simp only [hy]
                  | any => simp only [hy]
                  | err => simp only [hy]
                | nil sz => simp only [hy]
                | ref n off len cap => simp only [hy]
                | pt p => simp only [hy]
                | clo g caps => simp only [hy]
              | int k => cases y with
                | c z => cases z with
                  | lit u => cases u <;> rfl
                  | ro sz rows => rfl
                  | any => rfl
                  | err => rfl
                | _ => rfl
              | _ => rfl
  | makeFunc f first captured =>
    cases f with
    | func g =>
      simp only [evQ]
      rw [opds_congr (T2 := T2) fun p hp t => by
        simp only [List.mem_map] at hp
        obtain ⟨q, hq, rfl⟩ := hp
        exact one q t (by simp only [Op.operands, Array.toList_append, List.mem_append]; exact .inr hq)]
    | _ => rfl
  | makeSlice t x y => simp only [evQ]; rw [one x _ (by simp [Op.operands]), one y _ (by simp [Op.operands])]
  | slice t x lo hi mx =>
    simp only [evQ]
    have h0 := one x t (by simp [Op.operands])
    rw [bound_congr (x := lo) (T2 := T2) fun y hy t => one y t (by subst hy; simp [Op.operands]), bound_congr (x := hi) (T2 := T2) fun y hy t => one y t (by subst hy; simp [Op.operands]), bound_congr (x := mx) (T2 := T2) fun y hy t => one y t (by subst hy; simp [Op.operands])]
    rw [← h0]
    cases hT : E.ty t with
    | none => rfl
    | some Ti =>
      cases hv : opd E T t x with
      | none => rfl
      | some v =>
        have hr := hh x (by simp [Op.operands]) t v hv
        cases v with
        | tup xs => rfl
        | dead => rfl
        | w x0 => cases x0 with
          | agg xs => rfl
          | one y =>
            generalize bound? E T2 lo = bl
            generalize bound? E T2 hi = bh
            generalize bound? E T2 mx = bm
            cases bl with
            | none => rfl
            | some l => cases bh with
              | none => rfl
              | some r => cases bm with
                | none => rfl
                | some m =>
                  obtain ⟨tk, t1, t2, t3⟩ := Ti
                  cases tk with
                  | slice e =>
                    cases hE : E.ty e with
                    | none => simp only [hE]
                    | some j => cases y with
                      | ref n off len cap =>
                        have := (hr n (by simp [V.ids, W.ids, V1.ids])).1
                        simp only [hE, this]
                      | c z => cases z <;> simp only [hE]
                      | _ => simp only [hE]
                  | string => cases y with
                    | c z => cases z with
                      | lit u => cases u <;> rfl
                      | _ => rfl
                    | _ => rfl
                  | _ => rfl
  | fieldAddr t x f => simp only [evQ]; rw [one x _ (by simp [Op.operands])]
  | field t x f => simp only [evQ]; rw [one x _ (by simp [Op.operands])]
  | indexAddr t x ix =>
    simp only [evQ]
    have h0 := one x t (by simp [Op.operands])
    rw [one ix _ (by simp [Op.operands])]
    rw [← h0]
    cases hT : E.ty t with
    | none => rfl
    | some Ti =>
      cases hv : opd E T t x with
      | none => (obtain ⟨tk, t1, t2, t3⟩ := Ti; cases tk <;> rfl)
      | some v =>
        have hr := hh x (by simp [Op.operands]) t v hv
        cases v with
        | tup xs => (obtain ⟨tk, t1, t2, t3⟩ := Ti; cases tk <;> rfl)
        | dead => (obtain ⟨tk, t1, t2, t3⟩ := Ti; cases tk <;> rfl)
        | w x0 => cases x0 with
          | agg xs => (obtain ⟨tk, t1, t2, t3⟩ := Ti; cases tk <;> rfl)
          | one y =>
            generalize (opd E T2 0 ix).bind intOf? = bi
            cases bi with
            | none => obtain ⟨tk, t1, t2, t3⟩ := Ti; cases tk <;> rfl
            | some k =>
              obtain ⟨tk, t1, t2, t3⟩ := Ti
              cases tk with
              | slice e =>
                cases hE : E.ty e with
                | none => simp only [hE]
                | some j => cases y with
                  | ref n off len cap =>
                    have := (hr n (by simp [V.ids, W.ids, V1.ids])).1
                    simp only [hE, this]
                  | c z => cases z <;> simp only [hE]
                  | _ => simp only [hE]
              | _ => rfl
  | index t x ix => simp only [evQ]; rw [one x _ (by simp [Op.operands]), one ix _ (by simp [Op.operands])]
  | nilCheck x => simp only [evQ]; rw [one x _ (by simp [Op.operands])]
  | extract x i => simp only [evQ]; rw [one x _ (by simp [Op.operands])]
  | call c =>
    have hcx : ∀ x ∈ c.operands.toList, ∀ t, opd E T t x = opd E T2 t x := hx
    simp only [evQ]
    cases hc : c.callee with
    | value f =>
      simp only
      unfold quietCall
      rw [calleeOf_congr hcx]
      cases hcal : calleeOf E T2 c with
      | none => rfl
      | some p =>
        obtain ⟨g, ws⟩ := p
        rw [← calleeOf_congr hcx] at hcal
        have hids := calleeOf_ids hcal
        simp only
        rw [mapO_congr (f := closeRoW h) (g := closeRoW h2) fun w hw => closeRoW_congr fun n hn => by
          obtain ⟨x, hx1, t, v, hv, hnv⟩ := hids n (by simp only [List.mem_flatMap]; exact ⟨w, hw, hn⟩)
          exact hh x hx1 t v hv n hnv]
    | invoke a b => rfl
    | builtin b =>
      cases hargs : c.args.toList with
      | nil => cases b <;> rfl
      | cons x l =>
        have hxm : x ∈ c.operands.toList := by simp only [Call.operands, Array.toList_append, List.mem_append, hargs]; exact .inr (by simp)
        cases b with
        | len =>
          cases l with
          | nil => cases htys : c.argTypes.toList with
            | nil => rfl
            | cons t l2 => cases l2 with
              | nil =>
                simp only
                have h0 := one x t hxm
                rw [← h0]
                cases hT : E.ty t with
                | none => rfl
                | some Ti =>
                  cases hv : opd E T t x with
                  | none => rfl
                  | some v =>
                    have hr := hh x hxm t v hv
                    cases v with
                    | tup xs => rfl
                    | dead => rfl
                    | w x0 => cases x0 with
                      | agg xs => rfl
                      | one y =>
                        have hrow : rowsOf h y = rowsOf h2 y := rowsOf_congr fun n hn => (hr n hn).1
                        obtain ⟨tk, t1, t2, t3⟩ := Ti
                        cases tk with
                        | slice e => simp only [hrow]
                        | string => cases y with
                          | c z => cases z with
                            | lit u => cases u <;> rfl
                            | _ => rfl
                          | _ => rfl
                        | _ => rfl
              | cons t2 l2 => rfl
          | cons y l => rfl
        | cap =>
          cases l with
          | nil => cases htys : c.argTypes.toList with
            | nil => rfl
            | cons t l2 => cases l2 with
              | nil =>
                simp only
                have h0 := one x t hxm
                rw [← h0]
                cases hT : E.ty t with
                | none => rfl
                | some Ti =>
                  cases hv : opd E T t x with
                  | none => (obtain ⟨tk, t1, t2, t3⟩ := Ti; cases tk <;> rfl)
                  | some v =>
                    have hr := hh x hxm t v hv
                    cases v with
                    | tup xs => (obtain ⟨tk, t1, t2, t3⟩ := Ti; cases tk <;> rfl)
                    | dead => (obtain ⟨tk, t1, t2, t3⟩ := Ti; cases tk <;> rfl)
                    | w x0 => cases x0 with
                      | agg xs => (obtain ⟨tk, t1, t2, t3⟩ := Ti; cases tk <;> rfl)
                      | one y => cases y with
                        | ref n off len cap =>
                          have := (hr n (by simp [V.ids, W.ids, V1.ids])).1
                          obtain ⟨tk, t1, t2, t3⟩ := Ti
                          cases tk with
                          | slice e => cases cap with
                            | none => rfl
                            | some k => simp only [this]
                          | _ => rfl
                        | _ => (obtain ⟨tk, t1, t2, t3⟩ := Ti; cases tk <;> rfl)
              | cons t2 l2 => rfl
          | cons y l => rfl
        | max =>
          cases l with
          | nil => rfl
          | cons y l => cases l with
            | nil =>
              have hym : y ∈ c.operands.toList := by simp only [Call.operands, Array.toList_append, List.mem_append, hargs]; exact .inr (by simp)
              simp only
              rw [one x _ hxm, one y _ hym]
            | cons z l => rfl
        | min =>
          cases l with
          | nil => rfl
          | cons y l => cases l with
            | nil =>
              have hym : y ∈ c.operands.toList := by simp only [Call.operands, Array.toList_append, List.mem_append, hargs]; exact .inr (by simp)
              simp only
              rw [one x _ hxm, one y _ hym]
            | cons z l => rfl
        | _ => rfl
  | _ => rfl
end
end Go.Proofs.YtfokmnafgabdiaaGreatDoor.Eng
namespace Go.Proofs.YtfokmnafgabdiaaGreatDoor.Eng
open Go Go.RowKit
set_option linter.unusedVariables false
set_option linter.unusedSimpArgs false

theorem reach_sup (h : List Root) : ∀ (k : Nat) (F : List Nat), ∀ n ∈ F, n ∈ reach h k F
  | 0, F, n, hn => hn
  | k + 1, F, n, hn => by
    unfold reach
    split
    · exact hn
    · exact reach_sup h k _ n (List.mem_append_left _ hn)
theorem reach_next (h : List Root) (k : Nat) (F : List Nat) : ∀ n ∈ F, ∀ m ∈ (rget h n).ids, m ∈ reach h (k + 1) F := by
  intro n hn m hm
  have hmem : m ∈ F.flatMap fun n => (rget h n).ids := by simp only [List.mem_flatMap]; exact ⟨n, hn, hm⟩
  unfold reach
  split
  · rename_i he
    by_cases hc : F.contains m
    · simpa using hc
    · exfalso
      have : m ∈ (F.flatMap fun n => (rget h n).ids).filter fun n => !F.contains n := List.mem_filter.2 ⟨hmem, by simp at hc; simp [hc]⟩
      rw [he] at this; cases this
  · apply reach_sup
    by_cases hc : F.contains m
    · exact List.mem_append_left _ (by simpa using hc)
    · exact List.mem_append_right _ (List.mem_filter.2 ⟨hmem, by simp at hc; simp [hc]⟩)
theorem rget_trim : ∀ (h : List Root) (n : Nat), rget (trim h) n = rget h n
  | [], n => rfl
  | r :: h, n => by
    simp only [trim]
    split
    · rename_i h1
      have ih : ∀ m, rget h m = .dead := fun m => by rw [← rget_trim h m, h1]; simp [rget]
      cases n with
      | zero => rfl
      | succ n => rw [rget_cons_succ, ih]; simp [rget]
    · cases n with
      | zero => rfl
      | succ n => rw [rget_cons_succ, rget_cons_succ, rget_trim h n]
theorem trim_nil : ∀ {h : List Root}, (∀ n, rget h n = .dead) → trim h = []
  | [], _ => rfl
  | r :: h, hd => by
    have h0 : r = .dead := hd 0
    have h1 : trim h = [] := trim_nil fun n => by have := hd (n + 1); rwa [rget_cons_succ] at this
    simp only [trim, h0, h1]
theorem trim_ext : ∀ {h h2 : List Root}, (∀ n, rget h n = rget h2 n) → trim h = trim h2
  | [], h2, e => (trim_nil fun n => (e n).symm.trans (by simp [rget])).symm
  | r :: h, [], e => trim_nil fun n => (e n).trans (by simp [rget])
  | r :: h, r2 :: h2, e => by
    have h0 : r = r2 := e 0
    have h1 : trim h = trim h2 := trim_ext fun n => by have := e (n + 1); rwa [rget_cons_succ, rget_cons_succ] at this
    simp only [trim, h0, h1]
theorem maskT_get (names : List Tmp) : ∀ (l : List V) (k t : Nat), (maskT names l k)[t]? = (l[t]?).map fun v => if names.contains (t + k) then v else .dead
  | [], k, t => by simp [maskT]
  | v :: l, k, 0 => by simp [maskT]
  | v :: l, k, t + 1 => by
    simp only [maskT, List.getElem?_cons_succ, maskT_get names l (k + 1) t]
    rw [show t + (k + 1) = t + 1 + k from by omega]
theorem maskT_congr {names : List Tmp} {l l2 : List V} (hl : l.length = l2.length) (h : ∀ t ∈ names, l[t]? = l2[t]?) : maskT names l 0 = maskT names l2 0 := by
  apply List.ext_getElem?
  intro t
  rw [maskT_get, maskT_get]
  by_cases hc : names.contains (t + 0) = true
  · simp only [hc, if_true]; rw [h t (by simpa using hc)]
  · simp only [hc, if_false]
    rcases Nat.lt_or_ge t l.length with h1 | h1
    · rw [List.getElem?_eq_getElem h1, List.getElem?_eq_getElem (by omega)]; rfl
    · rw [List.getElem?_eq_none h1, List.getElem?_eq_none (by omega)]

theorem setTmp_length (tmps : List V) (dst : Option Tmp) (v : V) : (setTmp tmps dst v).length = tmps.length := by cases dst <;> simp [setTmp]
theorem setTmp_get (tmps : List V) (dst : Option Tmp) (v : V) {t : Tmp} (ht : ∀ d, dst = some d → t ≠ d) : (setTmp tmps dst v)[t]? = tmps[t]? := by
  cases dst with
  | none => rfl
  | some d => simp only [setTmp]; rw [List.getElem?_set_ne (fun e => ht d rfl e.symm)]

section
variable {E : Env} {call : CallF} {callH : CallH} {ops : Array Oper} {base : Nat}
def Agree (names : List Tmp) (F : List Nat) (S S2 : St) : Prop := S.tmps.length = S2.tmps.length ∧ (∀ t ∈ names, S.tmps[t]? = S2.tmps[t]?) ∧ ∀ n ∈ F, rget S.heap n = rget S2.heap n
theorem Agree.symm {names : List Tmp} {F : List Nat} {S S2 : St} (h : Agree names F S S2) : Agree names F S2 S := ⟨h.1.symm, fun t ht => (h.2.1 t ht).symm, fun n hn => (h.2.2 n hn).symm⟩
theorem Agree.trans {names : List Tmp} {F : List Nat} {S S2 S3 : St} (h : Agree names F S S2) (g : Agree names F S2 S3) : Agree names F S S3 := ⟨h.1.trans g.1, fun t ht => (h.2.1 t ht).trans (g.2.1 t ht), fun n hn => (h.2.2 n hn).trans (g.2.2 n hn)⟩
def Like (S S2 : St) : Prop := S.tmps = S2.tmps ∧ ∀ n, rget S.heap n = rget S2.heap n
theorem Like.refl (S : St) : Like S S := ⟨rfl, fun _ => rfl⟩
theorem Like.symm {S S2 : St} (h : Like S S2) : Like S2 S := ⟨h.1.symm, fun n => (h.2 n).symm⟩
theorem Like.trans {S S2 S3 : St} (h : Like S S2) (g : Like S2 S3) : Like S S3 := ⟨h.1.trans g.1, fun n => (h.2 n).trans (g.2 n)⟩
theorem Like.agree {S S2 : St} (h : Like S S2) (names : List Tmp) (F : List Nat) : Agree names F S S2 := ⟨by rw [h.1], fun t _ => by rw [h.1], fun n _ => h.2 n⟩

def Writes (base : Nat) (x : Piece) (nx n : Nat) : Prop := (base + zone * x.i ≤ n ∧ n < nx) ∨ (x.loud = true ∧ n ∈ x.ft)
def Acts (E : Env) (call : CallF) (callH : CallH) (ops : Array Oper) (base : Nat) (x : Piece) (S S1 : St) : Prop :=
  ∃ v nx, nx ≤ base + zone * x.i + zone ∧ S1.tmps = setTmp S.tmps x.o.dst v ∧ (∀ n, ¬ Writes base x nx n → rget S1.heap n = rget S.heap n) ∧
    ∀ S2, Agree (namesOf ops x.o) x.ft S S2 → ∃ S21, actOf E call callH ops base x S2 = some S21 ∧ S21.tmps = setTmp S2.tmps x.o.dst v ∧
      ∀ n, (Writes base x nx n → rget S21.heap n = rget S1.heap n) ∧ (¬ Writes base x nx n → rget S21.heap n = rget S2.heap n)

theorem wanted_congr {o : Oper} {T T2 : List V} (h : ∀ t ∈ namesOf ops o, T[t]? = T2[t]?) : wantedV ops T o = wantedV ops T2 o := by
  unfold wantedV
  cases hg : o.guard with
  | none => rfl
  | some g =>
    obtain ⟨j, want⟩ := g
    simp only
    cases hd : (ops[j]?).bind (·.dst) with
    | none => rfl
    | some d =>
      simp only
      rw [h d (by simp [namesOf, hg, hd])]
theorem slots_names {o : Oper} {t : Tmp} (h : Operand.tmp t ∈ o.op.operands.toList) : t ∈ slotsOf o := by
  simp only [slotsOf, List.mem_filterMap]; exact ⟨.tmp t, h, rfl⟩
theorem opd_const_ids {t : TypeId} {T : List V} {x : Operand} {v : V} (hx : ∀ k, x ≠ .tmp k) (h : opd E T t x = some v) : v.ids = [] := by
  cases x with
  | tmp k => exact absurd rfl (hx k)
  | const c => exact (constV_ok (w := default) (A := fun _ => False) (σ := fun _ => none) (h := []) h).2
  | func f => simp [opd] at h; subst h; rfl
  | global g => simp [opd] at h
theorem opd_tmpOf {t : TypeId} {T : List V} {k : Tmp} {v : V} (h : opd E T t (.tmp k) = some v) : tmpOf T (.tmp k) = v := by
  simp only [opd] at h
  simp only [tmpOf, List.getD]
  split at h
  · cases h
  · rw [h]; rfl
theorem ptrFoot_ids {v : V} {n : Nat} (h : n ∈ ptrFoot v) : n ∈ v.ids := by
  unfold ptrFoot at h
  split at h
  · simpa [V.ids, W.ids, V1.ids, Pt.ids] using h
  · cases h
theorem opd_agree {o : Oper} {T T2 : List V} (h : ∀ t ∈ slotsOf o, T[t]? = T2[t]?) : ∀ x ∈ o.op.operands.toList, ∀ t, opd E T t x = opd E T2 t x := by
  intro x hx t
  cases x with
  | tmp k => simp only [opd]; rw [h k (slots_names hx)]
  | const c => rfl
  | func f => rfl
  | global g => rfl
theorem slots_sub {o : Oper} {t : Tmp} (h : t ∈ slotsOf o) : t ∈ namesOf ops o := by simp only [namesOf, List.mem_append]; exact .inr h

theorem acts_of {x : Piece} {S S1 : St} (hft : x.ft = foot S x.o) (h : actOf E call callH ops base x S = some S1) : Acts E call callH ops base x S S1 := by
  have hcon : ∀ {S2 : St}, Agree (namesOf ops x.o) x.ft S S2 → wantedV ops S2.tmps x.o = wantedV ops S.tmps x.o := fun ha => (wanted_congr fun t ht => (ha.2.1 t ht)).symm
  cases hw : wantedV ops S.tmps x.o with
  | none => simp only [actOf, hw] at h; cases h
  | some b => cases b with
    | false =>
      simp only [actOf, hw, Option.some.injEq] at h; subst h
      refine ⟨.tup [], base + zone * x.i, by omega, rfl, fun n _ => rfl, fun S2 ha => ⟨{ S2 with tmps := setTmp S2.tmps x.o.dst (.tup []) }, by simp only [actOf, hcon ha, hw], rfl, fun n => ⟨fun hn => ?_, fun _ => rfl⟩⟩⟩
      rcases hn with hn | hn
      · omega
      · exact (ha.2.2 n hn.2).symm
    | true =>
      simp only [actOf, hw] at h
      by_cases hld : x.loud = true
      · rw [if_pos hld] at h
        split at h
        · rename_i hcond
          split at h
          · rename_i v h' nx hev
            split at h
            · rename_i hnx
              simp only [Option.some.injEq] at h; subst h
              have hWr : ∀ n, (x.ft.contains n || (decide (base + zone * x.i ≤ n) && decide (n < nx))) = true ↔ Writes base x nx n := fun n => by
                simp only [Bool.or_eq_true, Bool.and_eq_true, decide_eq_true_eq, Writes, hld, true_and]
                constructor
                · rintro (h | h); exact .inr (by simpa using h); exact .inl h
                · rintro (h | h); exact .inr h; exact .inl (by simpa using h)
              refine ⟨v, nx, hnx, rfl, fun n hn => ?_, fun S2 ha => ?_⟩
              · show rget (merge _ _ 0 _) n = _
                rw [rget_merge, Nat.add_zero, if_neg]; rw [hWr]; exact hn
              · have hm : maskT (slotsOf x.o) S2.tmps 0 = maskT (slotsOf x.o) S.tmps 0 := (maskT_congr ha.1 fun t ht => ha.2.1 t (slots_sub ht)).symm
                have hs : trim (sub S2.heap 0 x.ft) = trim (sub S.heap 0 x.ft) := (trim_ext fun n => by
                  rw [rget_sub, rget_sub, Nat.add_zero]
                  split
                  · rename_i hc; exact ha.2.2 n (by simpa using hc)
                  · rfl).symm
                have ht : (x.o.op.operands.toList.all fun y => (tmpOf S2.tmps y).ids.all x.ft.contains) = (x.o.op.operands.toList.all fun y => (tmpOf S.tmps y).ids.all x.ft.contains) := by
                  rw [Bool.eq_iff_iff, List.all_eq_true, List.all_eq_true]
                  have he : ∀ y ∈ x.o.op.operands.toList, tmpOf S2.tmps y = tmpOf S.tmps y := fun y hy => by
                    cases y with
                    | tmp k => simp only [tmpOf, List.getD]; rw [ha.2.1 k (slots_sub (slots_names hy))]
                    | const c => rfl
                    | func f => rfl
                    | global g => rfl
                  constructor
                  · intro h y hy; rw [← he y hy]; exact h y hy
                  · intro h y hy; rw [he y hy]; exact h y hy
                refine ⟨{ tmps := setTmp S2.tmps x.o.dst v, heap := merge (fun n => x.ft.contains n || (base + zone * x.i ≤ n && n < nx)) S2.heap 0 h' }, ?_, rfl, fun n => ⟨fun hn => ?_, fun hn => ?_⟩⟩
                · simp only [actOf, hcon ha, hw, hld, if_true, hm, hs, ht]
                  rw [if_pos hcond, hev]
                  simp only [hnx, if_true]
                · show rget (merge _ _ 0 _) n = rget (merge _ _ 0 _) n
                  rw [rget_merge, rget_merge, Nat.add_zero, if_pos ((hWr n).2 hn), if_pos ((hWr n).2 hn)]
                · show rget (merge _ _ 0 _) n = _
                  rw [rget_merge, Nat.add_zero, if_neg]; rw [hWr]; exact hn
            · cases h
          · cases h
        · cases h
      · rw [if_neg hld] at h
        split at h
        · rename_i v new hev
          split at h
          · rename_i hnl
            simp only [Option.some.injEq] at h; subst h
            have hWr : ∀ n, (base + zone * x.i ≤ n ∧ n < base + zone * x.i + new.length) ↔ Writes base x (base + zone * x.i + new.length) n := fun n => by
              simp only [Writes, hld, false_and, or_false, Bool.false_eq_true]
            refine ⟨v, base + zone * x.i + new.length, by omega, rfl, fun n hn => ?_, fun S2 ha => ?_⟩
            · show rget (puts _ _ _) n = _
              rw [rget_puts, if_neg]; rw [hWr]; exact hn
            · have hx := opd_agree (E := E) (o := x.o) (T := S.tmps) (T2 := S2.tmps) fun t ht => ha.2.1 t (slots_sub ht)
              have hev2 : evQ E call S2.tmps S2.heap (base + zone * x.i) x.o.type x.o.op = some (v, new) := by
                rw [← hev]
                symm
                refine evQ_congr hx ?_
                cases hlk : looks x.o.op with
                | none => trivial
                | load =>
                  intro y hy t u hu n hn
                  apply ha.2.2
                  rw [hft]
                  simp only [foot, hlk, List.mem_flatMap]
                  by_cases hk : ∃ k, y = .tmp k
                  · obtain ⟨k, rfl⟩ := hk
                    exact ⟨.tmp k, hy, by rw [opd_tmpOf hu]; exact hn⟩
                  · have := ptrFoot_ids hn
                    rw [opd_const_ids (fun k e => hk ⟨k, e⟩) hu] at this; cases this
                | deep =>
                  intro y hy t u hu n hn
                  by_cases hk : ∃ k, y = .tmp k
                  · obtain ⟨k, rfl⟩ := hk
                    have hF : ∀ m, m ∈ reach S.heap 8 u.ids → m ∈ x.ft := fun m hm => by
                      rw [hft]
                      simp only [foot, hlk, List.mem_flatMap]
                      exact ⟨.tmp k, hy, by rw [opd_tmpOf hu]; exact hm⟩
                    exact ⟨ha.2.2 n (hF n (reach_sup _ _ _ n hn)), fun m hm => ha.2.2 m (hF m (reach_next S.heap 7 u.ids n hn m hm))⟩
                  · rw [opd_const_ids (fun k e => hk ⟨k, e⟩) hu] at hn; cases hn
              refine ⟨{ tmps := setTmp S2.tmps x.o.dst v, heap := puts S2.heap (base + zone * x.i) new }, ?_, rfl, fun n => ⟨fun hn => ?_, fun hn => ?_⟩⟩
              · simp only [actOf, hcon ha, hw]
                rw [if_neg hld, hev2]
                simp only [hnl, if_true]
              · show rget (puts _ _ _) n = rget (puts _ _ _) n
                rw [rget_puts, rget_puts, if_pos ((hWr n).2 hn), if_pos ((hWr n).2 hn)]
              · show rget (puts _ _ _) n = _
                rw [rget_puts, if_neg]; rw [hWr]; exact hn
          · cases h
        · cases h

structure Free (ops : Array Oper) (base : Nat) (x y : Piece) : Prop where
  dx : ∀ d, x.o.dst = some d → d ∉ namesOf ops y.o
  dy : ∀ d, y.o.dst = some d → d ∉ namesOf ops x.o
  ft : (x.loud = true ∨ y.loud = true) → ∀ n ∈ x.ft, n ∉ y.ft
  zx : ∀ n ∈ y.ft, ¬ (base + zone * x.i ≤ n ∧ n < base + zone * x.i + zone)
  zy : ∀ n ∈ x.ft, ¬ (base + zone * y.i ≤ n ∧ n < base + zone * y.i + zone)
  ne : x.i ≠ y.i
theorem dst_names {o : Oper} {d : Tmp} (h : o.dst = some d) : d ∈ namesOf ops o := by simp [namesOf, h]
theorem Free.writes_x {x y : Piece} (f : Free ops base x y) {nx : Nat} (hnx : nx ≤ base + zone * x.i + zone) : ∀ n ∈ y.ft, ¬ Writes base x nx n := fun n hn hw => by
  rcases hw with hw | hw
  · exact f.zx n hn ⟨hw.1, by omega⟩
  · exact f.ft (.inl hw.1) n hw.2 hn
theorem Free.writes_y {x y : Piece} (f : Free ops base x y) {ny : Nat} (hny : ny ≤ base + zone * y.i + zone) : ∀ n ∈ x.ft, ¬ Writes base y ny n := fun n hn hw => by
  rcases hw with hw | hw
  · exact f.zy n hn ⟨hw.1, by omega⟩
  · exact f.ft (.inr hw.1) n hn hw.2
theorem zones_ne {i j n : Nat} (hij : i ≠ j) (h1 : base + zone * i ≤ n ∧ n < base + zone * i + zone) (h2 : base + zone * j ≤ n ∧ n < base + zone * j + zone) : False := by
  simp only [zone] at *
  omega
theorem Free.writes {x y : Piece} (f : Free ops base x y) {nx ny : Nat} (hnx : nx ≤ base + zone * x.i + zone) (hny : ny ≤ base + zone * y.i + zone) (n : Nat) (h1 : Writes base x nx n) : ¬ Writes base y ny n := fun h2 => by
  rcases h1 with h1 | h1
  · rcases h2 with h2 | h2
    · exact zones_ne f.ne ⟨h1.1, by omega⟩ ⟨h2.1, by omega⟩
    · exact f.zx n h2.2 ⟨h1.1, by omega⟩
  · exact f.writes_y hny n h1.2 h2
theorem swap {x y : Piece} {S S1 S2 : St} (f : Free ops base x y) (hx : Acts E call callH ops base x S S1) (hy : Acts E call callH ops base y S1 S2) :
    ∃ S1' S2', Acts E call callH ops base y S S1' ∧ Acts E call callH ops base x S1' S2' ∧ Like S2' S2 := by
  obtain ⟨vx, nx, x1, x2, x3, x4⟩ := hx
  obtain ⟨vy, ny, y1, y2, y3, y4⟩ := hy
  have a1 : Agree (namesOf ops y.o) y.ft S1 S := ⟨by rw [x2, setTmp_length], fun t ht => by rw [x2]; exact setTmp_get _ _ _ fun d hd e => f.dx d hd (e ▸ ht), fun n hn => x3 n (f.writes_x x1 n hn)⟩
  obtain ⟨S1', b1, b2, b3⟩ := y4 S a1
  have hyA : Acts E call callH ops base y S S1' := by
    refine ⟨vy, ny, y1, b2, fun n hn => (b3 n).2 hn, fun S3 h3 => ?_⟩
    obtain ⟨S31, c1, c2, c3⟩ := y4 S3 (a1.trans h3)
    exact ⟨S31, c1, c2, fun n => ⟨fun hn => ((c3 n).1 hn).trans ((b3 n).1 hn).symm, (c3 n).2⟩⟩
  have a2 : Agree (namesOf ops x.o) x.ft S S1' := ⟨by rw [b2, setTmp_length], fun t ht => by rw [b2]; exact (setTmp_get _ _ _ fun d hd e => f.dy d hd (e ▸ ht)).symm, fun n hn => ((b3 n).2 (f.writes_y y1 n hn)).symm⟩
  obtain ⟨S2', d1, d2, d3⟩ := x4 S1' a2
  refine ⟨S1', S2', hyA, ⟨vx, nx, x1, d2, fun n hn => (d3 n).2 hn, fun S3 h3 => ?_⟩, ?_, fun n => ?_⟩
  · obtain ⟨S31, c1, c2, c3⟩ := x4 S3 (a2.trans h3)
    exact ⟨S31, c1, c2, fun n => ⟨fun hn => ((c3 n).1 hn).trans ((d3 n).1 hn).symm, (c3 n).2⟩⟩
  · rw [d2, b2, y2, x2]
    cases hdx : x.o.dst with
    | none => rfl
    | some p => cases hdy : y.o.dst with
      | none => rfl
      | some q =>
        simp only [setTmp]
        exact List.set_comm _ _ fun e => f.dx p hdx (by rw [← e]; exact dst_names hdy)
  · by_cases h1 : Writes base x nx n
    · rw [(d3 n).1 h1, y3 n (f.writes x1 y1 n h1)]
    · rw [(d3 n).2 h1]
      by_cases h2 : Writes base y ny n
      · exact (b3 n).1 h2
      · rw [(b3 n).2 h2, y3 n h2, x3 n h1]
theorem Acts.like {x : Piece} {S S0 S1 : St} (h : Acts E call callH ops base x S S1) (hl : Like S S0) : Acts E call callH ops base x S0 S1 := by
  obtain ⟨v, nx, x1, x2, x3, x4⟩ := h
  exact ⟨v, nx, x1, by rw [x2, hl.1], fun n hn => (x3 n hn).trans (hl.2 n), fun S3 h3 => x4 S3 ((hl.agree _ _).trans h3)⟩

def Runs (E : Env) (call : CallF) (callH : CallH) (ops : Array Oper) (base : Nat) : St → List Piece → St → Prop
  | S, [], S' => Like S S'
  | S, x :: l, S' => ∃ S1, Acts E call callH ops base x S S1 ∧ (∀ y ∈ l, y.b.testBit x.i = true ∨ Free ops base x y) ∧ Runs E call callH ops base S1 l S'
theorem Runs.like {S S0 S' : St} {l : List Piece} (h : Runs E call callH ops base S l S') (hl : Like S S0) : Runs E call callH ops base S0 l S' := by
  cases l with
  | nil => exact hl.symm.trans h
  | cons x l => obtain ⟨S1, h1, h2, h3⟩ := h; exact ⟨S1, h1.like hl, h2, h3⟩
theorem Runs.take {x : Piece} {l2 : List Piece} {S' : St} : ∀ {l1 : List Piece} {S : St}, Runs E call callH ops base S (l1 ++ x :: l2) S' → (∀ y ∈ l1, x.b.testBit y.i = false) →
    ∃ S1, Acts E call callH ops base x S S1 ∧ Runs E call callH ops base S1 (l1 ++ l2) S'
  | [], S, h, _ => by obtain ⟨S1, h1, _, h3⟩ := h; exact ⟨S1, h1, h3⟩
  | y :: l1, S, h, hb => by
    obtain ⟨Sy, h1, h2, h3⟩ := h
    obtain ⟨S2, g1, g2⟩ := Runs.take (l1 := l1) h3 fun z hz => hb z (by simp [hz])
    have hf : Free ops base y x := by
      rcases h2 x (by simp) with h | h
      · rw [hb y (by simp)] at h; cases h
      · exact h
    obtain ⟨S1', S2', k1, k2, k3⟩ := swap hf h1 g1
    exact ⟨S1', k1, S2', k2, fun z hz => h2 z (by simp at hz ⊢; rcases hz with h | h; exact .inl h; exact .inr (.inr h)), g2.like k3.symm⟩
end
end Go.Proofs.YtfokmnafgabdiaaGreatDoor.Eng
namespace Go.Proofs.YtfokmnafgabdiaaGreatDoor.Eng
open Go Go.RowKit
set_option linter.unusedVariables false
set_option linter.unusedSimpArgs false

theorem maskT_length (names : List Tmp) : ∀ (l : List V) (k : Nat), (maskT names l k).length = l.length
  | [], _ => rfl
  | v :: l, k => by simp only [maskT, List.length_cons, maskT_length names l (k + 1)]

section
variable {P : Program} {E : Env} {B : Base} {K : Nat → Prop} {σ : Sig} {A : Nat → Prop} {S : St} {a : Act} {w : World} {call : CallF} {callH : CallH} {ops : Array Oper}

theorem wanted_ok (R : RS B K σ A S a w) {o : Oper} {b : Bool} (h : wantedV ops S.tmps o = some b) : Region.wanted o (yielded ops a.tmps) = b := by
  unfold wantedV at h
  unfold Region.wanted
  cases hg : o.guard with
  | none => rw [hg] at h; simp at h; simp [← h]
  | some g =>
    obtain ⟨j, want⟩ := g
    rw [hg] at h
    simp only at h ⊢
    cases hd : (ops[j]?).bind (·.dst) with
    | none => rw [hd] at h; simp at h; subst h; simp [yielded, hd]
    | some d =>
      rw [hd] at h
      simp only at h
      split at h
      · rename_i b0 hb
        simp at h; subst h
        obtain ⟨u, hu, r⟩ := R.tmps.get hb
        have hu' : a.tmps[d]? = some (.bool b0) := by rw [← Array.getElem?_toList, hu, (RC.lit_iff.1 r).1]
        simp only [yielded, hd, Option.bind_some, hu']
        cases b0 <;> cases want <;> rfl
      · rename_i hb
        simp at h; subst h
        obtain ⟨u, hu, r⟩ := R.tmps.get hb
        obtain ⟨us, e, _⟩ := r
        have hu' : a.tmps[d]? = some (.tuple us) := by rw [← Array.getElem?_toList, hu, e]
        simp [yielded, hd, hu']
      · cases h

theorem RS.post {w0 : World} {A0 : Nat → Prop} {σ0 : Sig} {K0 : Nat → Prop} {hs : List Root} {S' : St} {a' : Act} {w' : World} {σ' : Sig} {A' : Nat → Prop} {start nx : Nat}
    {g1 : Gl w0 A0} {g2 : ∀ b, A0 b → ¬ Owns σ0 hs b} (R : RS ⟨w0, Owns σ0 hs, A0, σ0, K0, hs, g1, g2⟩ (fun n => K0 n ∨ (start ≤ n ∧ n < nx)) σ' A' S' a' w') {v : V} {u : Value} (hv : RV w' A' σ' S'.heap v u) (hi : ∀ n ∈ v.ids, K0 n ∨ (start ≤ n ∧ n < nx)) :
    HPost w0 w' A0 A' σ0 σ' K0 hs S'.heap start nx v u :=
  ⟨R.ext, R.heap, hv, hi, R.knownH, R.dead, R.ale, R.aup, R.own, R.sig0, R.comp⟩
theorem RS.part (R : RS B K σ A S a w) {F : List Nat} {hs : List Root} (hsub : ∀ n, rget hs n = if F.contains n then rget S.heap n else .dead) (hclosed : closedIn hs F = true) :
    RHeap w A σ hs ∧ (∀ n, ¬ (F.contains n = true ∧ K n) → rget hs n = .dead) ∧ (∀ n, ∀ m ∈ (rget hs n).ids, F.contains m = true ∧ K m) ∧ ∀ m, F.contains m = true → Stays w w σ σ S.heap hs m := by
  have hst : ∀ m, F.contains m = true → Stays w w σ σ S.heap hs m := fun m hm => ⟨rfl, by rw [hsub, if_pos hm]; exact Compat.refl _, fun b o _ _ => Wide.refl _ _⟩
  have hidF : ∀ n, ∀ m ∈ (rget hs n).ids, F.contains m = true ∧ K m := fun n m hm => by
    by_cases hc : F.contains n = true
    · refine ⟨?_, ?_⟩
      · have := (List.all_eq_true.1 hclosed) n (by simpa using hc)
        exact (List.all_eq_true.1 this) m hm
      · rw [hsub, if_pos hc] at hm; exact R.knownH n m hm
    · rw [hsub, if_neg hc] at hm; cases hm
  have hown : ∀ m, (rget hs m).own = true → (rget S.heap m).own = true := fun m h => by
    rw [hsub] at h; split at h
    · exact h
    · cases h
  refine ⟨⟨fun m => ?_, fun m q b o o' h1 h2 => R.heap.inj m q b o o' (hown m h1) (hown q h2), fun m b o h1 => R.heap.off m b o (hown m h1), R.heap.lt⟩, fun n hn => ?_, hidF, hst⟩
  · by_cases hc : F.contains m = true
    · have hm := hidF m
      rw [hsub, if_pos hc] at hm ⊢
      exact (R.heap.root m).stays (fun b _ => rfl) (fun _ h => h) rfl (fun b o _ _ => rfl) fun q hq => hst q (hm q hq).1
    · rw [hsub, if_neg hc]; trivial
  · rw [hsub]; split
    · rename_i hc; exact R.dead n fun hk => hn ⟨hc, hk⟩
    · rfl
theorem RS.like (R : RS B K σ A S a w) {S2 : St} (hl : Like S S2) : ∃ A2, RS B K σ A2 S2 a w := by
  obtain ⟨T2, h2⟩ := S2
  have e : S.tmps = T2 := hl.1
  subst e
  exact ⟨_, R.shutBy (L := fun _ => False) (h' := h2) fun m => .inl ⟨fun h => h, (hl.2 m).symm⟩⟩

theorem act_ok (O : Ok P E call callH) (R : RS B K σ A S a w) (hn0 : ∀ n, B.K0 n → K n) {base : Nat} {x : Piece} {S1 : St} (hop : ops[x.i]? = some x.o) (h : actOf E call callH ops base x S = some S1)
    (hfree : ∀ n, base + zone * x.i ≤ n → n < base + zone * x.i + zone → ¬ K n) {next : Act → World → Prop} {Q : Exit → Act → World → Prop}
    (hnext : ∀ a' w' σ' A', RS B (fun n => K n ∨ (base + zone * x.i ≤ n ∧ n < base + zone * x.i + zone)) σ' A' S1 a' w' → next a' w') : wpOp P ops Q x.i next a w := by
  unfold wpOp
  rw [hop]
  simp only
  unfold actOf at h
  split at h
  · rename_i hw
    rw [wanted_ok R hw]
    simp only [Option.some.injEq] at h; subst h
    simp only [Bool.false_eq_true, if_false]
    exact hnext _ _ _ _ ((R.value (dst := x.o.dst) (v := .tup []) (u := undef) ⟨#[], rfl, .nil⟩ (by simp [V.ids])).mono fun n hn => .inl hn)
  · rename_i hw
    rw [wanted_ok R hw]
    simp only [if_true]
    left
    split at h
    · simp only at h
      split at h
      · rename_i hcond
        simp only [Bool.and_eq_true, List.all_eq_true] at hcond
        obtain ⟨⟨hclosed, hids⟩, hF⟩ := hcond
        split at h
        · rename_i v h' nx hev
          split at h
          · rename_i hnx
            simp only [Option.some.injEq] at h; subst h
            have hsub : ∀ n, rget (trim (sub S.heap 0 x.ft)) n = if x.ft.contains n then rget S.heap n else .dead := fun n => by rw [rget_trim, rget_sub, Nat.add_zero]
            generalize trim (sub S.heap 0 x.ft) = hs at *
            obtain ⟨p1, p2, p3, p4⟩ := R.part hsub hclosed
            let Kp : Nat → Prop := fun n => x.ft.contains n = true ∧ K n
            -- the state that the operation sees
            have hmids : ∀ (t : Nat) (v0 : V), (maskT (slotsOf x.o) S.tmps 0)[t]? = some v0 → ∀ n ∈ v0.ids, Kp n := fun t v0 ht n hn => by
              rw [maskT_get] at ht
              simp only [Option.map_eq_some_iff, Nat.add_zero] at ht
              obtain ⟨v1, hv1, e⟩ := ht
              split at e
              · rename_i hc
                subst e
                refine ⟨?_, R.known v1 (List.mem_of_getElem? hv1) n hn⟩
                have hc' : t ∈ slotsOf x.o := by simpa using hc
                simp only [slotsOf, List.mem_filterMap] at hc'
                obtain ⟨y, hy, ey⟩ := hc'
                cases y with
                | tmp k =>
                  simp only [Option.some.injEq] at ey; subst ey
                  refine hids _ hy n ?_
                  simp only [tmpOf, List.getD, hv1, Option.getD_some]; exact hn
                | const c => cases ey
                | func f => cases ey
                | global g => cases ey
              · subst e; cases hn
            have hgO : ∀ b, A b → ¬ Owns σ hs b := fun b hb ⟨n, o, h1, h2⟩ => p1.off n b o h1 h2 hb
            have Rp : RS ⟨w, Owns σ hs, A, σ, Kp, hs, R.gl, hgO⟩ Kp σ A { tmps := maskT (slotsOf x.o) S.tmps 0, heap := hs } a w := by
              refine ⟨p1, ?_, fun v0 hv0 n hn => ?_, p3, p2, Ext.refl w _, fun _ h => h, fun _ h => .inl h, fun n b o h1 h2 => .inl ⟨n, o, h1, h2⟩, fun _ _ => rfl, R.defers, fun _ h => h, fun _ _ => Compat.refl _⟩
              · refine All2.of_get ?_ fun t v0 ht => ?_
                · rw [R.tmps.length]; exact (maskT_length _ _ _).symm
                · have ht' := ht
                  rw [maskT_get] at ht
                  simp only [Option.map_eq_some_iff] at ht
                  obtain ⟨v1, hv1, e⟩ := ht
                  obtain ⟨u, hu, r⟩ := R.tmps.get hv1
                  refine ⟨u, hu, ?_⟩
                  split at e
                  · subst e; exact r.stays (fun b _ => rfl) (fun _ h => h) fun n hn => p4 n (hmids t v1 ht' n hn).1
                  · subst e; trivial
              · obtain ⟨t, ht⟩ := List.getElem?_of_mem hv0
                exact hmids t v0 ht n hn
            refine evL_ok O.env O.h Rp (fun _ h => h) hev hnx (fun n h1 h2 hk => hfree n h1 h2 hk.2) ?_
            intro u w' σ' A' R'
            -- what it wrote, in the whole of memory
            have fin : ∀ (v0 : V) (u0 : Value), RV w' A' σ' h' v0 u0 → (∀ n ∈ v0.ids, Kp n ∨ (base + zone * x.i ≤ n ∧ n < nx)) → ∃ σ'', RS B (fun n => K n ∨ (base + zone * x.i ≤ n ∧ n < nx)) σ'' A' { S with heap := merge (fun n => x.ft.contains n || (base + zone * x.i ≤ n && n < nx)) S.heap 0 h' } a w' ∧
                RV w' A' σ'' (merge (fun n => x.ft.contains n || (base + zone * x.i ≤ n && n < nx)) S.heap 0 h') v0 u0 ∧ ∀ n ∈ v0.ids, K n ∨ (base + zone * x.i ≤ n ∧ n < nx) := fun v0 u0 hv hi => by
              have hp := R'.post hv hi
              refine R.after hn0 hsub (fun n h1 h2 => hfree n h1 (by omega)) hp
            have wide : ∀ n, (K n ∨ (base + zone * x.i ≤ n ∧ n < nx)) → (K n ∨ (base + zone * x.i ≤ n ∧ n < base + zone * x.i + zone)) := fun n hn => by
              rcases hn with h | h; exact .inl h; exact .inr ⟨h.1, by omega⟩
            by_cases hd : ∃ d, x.o.dst = some d ∧ d < S.tmps.length
            · obtain ⟨d, hd, hlt⟩ := hd
              have hget : (setTmp (maskT (slotsOf x.o) S.tmps 0) x.o.dst v)[d]? = some v := by
                rw [hd]; simp only [setTmp]
                rw [List.getElem?_set_self]
                rw [maskT_length]; exact hlt
              obtain ⟨u1, hu1, r1⟩ := R'.tmps.get hget
              have hu : u1 = u := by
                rw [put_tmps_toList, hd] at hu1
                simp only at hu1
                rw [List.getElem?_set_self (by rw [R.tmps.length]; exact hlt)] at hu1
                exact (Option.some.inj hu1).symm
              subst hu
              obtain ⟨σ'', R2, hv2, hi2⟩ := fin v u1 r1 (R'.known v (List.mem_of_getElem? hget))
              exact hnext _ _ _ _ ((R2.value (dst := x.o.dst) hv2 hi2).mono wide)
            · obtain ⟨σ'', R2, hv2, hi2⟩ := fin (.tup []) undef ⟨#[], rfl, .nil⟩ (by simp [V.ids])
              have e1 : setTmp S.tmps x.o.dst v = setTmp S.tmps x.o.dst (.tup []) := by
                cases hdd : x.o.dst with
                | none => rfl
                | some d =>
                  have : S.tmps.length ≤ d := Nat.le_of_not_lt fun h => hd ⟨d, hdd, h⟩
                  simp only [setTmp]; rw [List.set_eq_of_length_le this, List.set_eq_of_length_le this]
              have e2 : a.put x.o.dst u = a.put x.o.dst undef := by
                cases hdd : x.o.dst with
                | none => rfl
                | some d =>
                  have h9 := R.tmps.length
                  have : a.tmps.size ≤ d := by have := Nat.le_of_not_lt fun h => hd ⟨d, hdd, h⟩; simp at h9; omega
                  simp only [Act.put]
                  congr 1
                  rw [Array.setIfInBounds_eq_of_size_le this, Array.setIfInBounds_eq_of_size_le this]
              rw [e1] at hnext
              rw [e2]
              exact hnext _ _ _ _ ((R2.value (dst := x.o.dst) hv2 hi2).mono wide)
          · cases h
        · cases h
      · cases h
    · split at h
      · rename_i v new hev
        split at h
        · rename_i hnl
          simp only [Option.some.injEq] at h; subst h
          refine evQ_ok O.env O.eq O.q R hn0 hev (fun n h1 h2 => hfree n h1 (by omega)) ?_
          intro u w' σ' A' R'
          exact hnext _ _ _ _ (R'.mono fun n hn => by rcases hn with h | h; exact .inl h; exact .inr ⟨h.1, by omega⟩)
        · cases h
      · cases h
  · cases h
end
end Go.Proofs.YtfokmnafgabdiaaGreatDoor.Eng
namespace Go.Proofs.YtfokmnafgabdiaaGreatDoor.Eng
open Go Go.RowKit
set_option linter.unusedVariables false
set_option linter.unusedSimpArgs false

section
variable {P : Program} {E : Env} {B : Base} {call : CallF} {callH : CallH} {ops : Array Oper}

theorem execOps_ok (O : Ok P E call callH) {lim : Nat} {Q : Exit → Act → World → Prop} : ∀ (l : List Oper) (k : Nat) (S : St) (nx : Nat) (S' : St) (nx' : Nat), ops.toList.drop k = l → execOps E call callH lim ops l S nx = some (S', nx') →
    nx ≤ nx' ∧ ∀ (K : Nat → Prop) (σ : Sig) (A : Nat → Prop) (a : Act) (w : World), RS B K σ A S a w → (∀ n, nx ≤ n → n < lim → ¬ K n) →
      (∀ a' w' σ' A', RS B (fun n => K n ∨ (nx ≤ n ∧ n < nx')) σ' A' S' a' w' → Q .normal a' w') → wpOps P ops Q (List.range' k l.length) a w
  | [], k, S, nx, S', nx', hd, h => by
    simp only [execOps, Option.some.injEq, Prod.mk.injEq] at h
    obtain ⟨rfl, rfl⟩ := h
    refine ⟨Nat.le_refl _, fun K σ A a w R hf hq => ?_⟩
    exact hq _ _ _ _ (R.mono fun n hn => .inl hn)
  | o :: l, k, S, nx, S', nx', hd, h => by
    simp only [execOps] at h
    split at h
    · rename_i S1 nx1 hg
      have hk : ops[k]? = some o := by
        rw [← Array.getElem?_toList]
        have := congrArg (·[0]?) hd
        simpa using this
      have hd' : ops.toList.drop (k + 1) = l := by
        rw [← List.tail_drop, hd]; rfl
      obtain ⟨ih1, ih2⟩ := execOps_ok O l (k + 1) S1 nx1 S' nx' hd' h
      have hle : nx ≤ nx1 := by
        unfold guarded at hg
        split at hg
        · exact (opStep_le hg).1
        · simp only [Option.some.injEq, Prod.mk.injEq] at hg; obtain ⟨_, rfl⟩ := hg; exact Nat.le_refl _
        · cases hg
      refine ⟨Nat.le_trans hle ih1, fun K σ A a w R hf hq => ?_⟩
      have hgo : ∀ a' w' σ' A', RS B (fun n => K n ∨ (nx ≤ n ∧ n < nx1)) σ' A' S1 a' w' → wpOps P ops Q (List.range' (k + 1) l.length) a' w' := fun a' w' σ' A' R' =>
        ih2 _ σ' A' a' w' R' (fun n h1 h2 hh => by
          rcases hh with hh | hh
          · exact hf n (by omega) h2 hh
          · omega) fun a2 w2 σ2 A2 R2 => hq a2 w2 σ2 A2 (R2.mono fun n hn => by
          rcases hn with (hn | hn) | hn
          · exact .inl hn
          · exact .inr ⟨hn.1, by omega⟩
          · exact .inr ⟨by omega, hn.2⟩)
      show wpOps P ops Q (k :: List.range' (k + 1) l.length) a w
      simp only [wpOps, hk]
      unfold guarded at hg
      split at hg
      · rename_i hw
        rw [wanted_ok R hw]
        simp only [if_true]
        left
        exact opStep_ok O R R.k0 hg hf fun u w' σ' A' R' => hgo _ _ _ _ R'
      · rename_i hw
        rw [wanted_ok R hw]
        simp only [Bool.false_eq_true, if_false]
        simp only [Option.some.injEq, Prod.mk.injEq] at hg
        obtain ⟨rfl, rfl⟩ := hg
        exact hgo _ _ _ _ ((R.value (dst := o.dst) (v := .tup []) (u := undef) ⟨#[], rfl, .nil⟩ (by simp [V.ids])).mono fun n hn => .inl hn)
      · cases hg
    · cases h

inductive Anc (ops : Array Oper) : Nat → Nat → Prop
  | one {i j : Nat} {o : Oper} {e : Edge} : ops[i]? = some o → e ∈ o.after → Region.binds .any e = true → e.on = j → Anc ops i j
  | more {i j : Nat} {o : Oper} {e : Edge} : ops[i]? = some o → e ∈ o.after → Region.binds .any e = true → Anc ops e.on j → Anc ops i j
structure Fine (ops : Array Oper) (x : Piece) : Prop where
  at_ : ops[x.i]? = some x.o
  anc : ∀ j, x.b.testBit j = true → Anc ops x.i j ∧ j < x.i
  pre : ∀ e ∈ x.o.after, Region.binds .any e = true → e.on < x.i
theorem beforeOf_ok {done : List Piece} {i : Nat} {o : Oper} (hi : ops[i]? = some o) (hdone : ∀ x ∈ done, Fine ops x ∧ x.i < i) : ∀ (es : List Edge) (s : Nat), (∀ e ∈ es, e ∈ o.after) → beforeOf done es = some s →
    (∀ j, s.testBit j = true → Anc ops i j ∧ j < i) ∧ ∀ e ∈ es, Region.binds .any e = true → e.on < i
  | [], s, _, h => by simp [beforeOf] at h; subst h; exact ⟨fun j hj => by simp at hj, fun e he => by cases he⟩
  | e :: es, s, hes, h => by
    simp only [beforeOf] at h
    split at h
    · rename_i s0 hs0
      obtain ⟨h1, h2⟩ := beforeOf_ok hi hdone es s0 (fun e he => hes e (by simp [he])) hs0
      split at h
      · rename_i hb
        split at h
        · rename_i d hd
          simp only [Option.some.injEq] at h; subst h
          have hdm := List.mem_of_find?_eq_some hd
          have hdi : d.i = e.on := by have := List.find?_some hd; simpa using this
          obtain ⟨hf, hlt⟩ := hdone d hdm
          refine ⟨fun j hj => ?_, fun e' he' hb' => ?_⟩
          · rw [Nat.testBit_or, Nat.testBit_or] at hj
            simp only [Bool.or_eq_true] at hj
            rcases hj with (hj | hj) | hj
            · exact h1 j hj
            · rw [Nat.testBit_two_pow] at hj
              have : e.on = j := by simpa using hj
              exact ⟨.one hi (hes e (by simp)) hb this, by omega⟩
            · obtain ⟨g1, g2⟩ := hf.anc j hj
              exact ⟨.more hi (hes e (by simp)) hb (hdi ▸ g1), by omega⟩
          · rcases List.mem_cons.1 he' with rfl | he'
            · omega
            · exact h2 e' he' hb'
        · cases h
      · rename_i hb
        simp only [Option.some.injEq] at h; subst h
        refine ⟨h1, fun e' he' hb' => ?_⟩
        rcases List.mem_cons.1 he' with rfl | he'
        · rw [hb'] at hb; exact absurd rfl hb
        · exact h2 e' he' hb'
    · cases h

theorem apart_free {base : Nat} {x y : Piece} (hx : Fine ops x) (hlt : x.i < y.i) (h : y.b.testBit x.i = true ∨ apart ops x y = true) (hfx : ∀ n ∈ x.ft, n < base ∨ x.b.testBit ((n - base) / zone) = true) (hfy : ∀ n ∈ y.ft, n < base ∨ y.b.testBit ((n - base) / zone) = true) :
    y.b.testBit x.i = true ∨ Free ops base x y := by
  rcases h with h | h
  · exact .inl h
  · by_cases hb : y.b.testBit x.i = true
    · exact .inl hb
    · right
      simp only [apart, Bool.and_eq_true, Bool.or_eq_true, Bool.not_eq_true', List.all_eq_true] at h
      obtain ⟨⟨h1, h2⟩, h3⟩ := h
      refine ⟨fun d hd hm => ?_, fun d hd hm => ?_, fun hl n hn hm => ?_, fun n hn hz => ?_, fun n hn hz => ?_, by omega⟩
      · rw [hd] at h2; simp at h2; exact h2 hm
      · rw [hd] at h3; simp at h3; exact h3 hm
      · rcases h1 with h1 | h1
        · rcases hl with hl | hl
          · rw [h1.1] at hl; cases hl
          · rw [h1.2] at hl; cases hl
        · have := h1 n hn; simp at this; exact this hm
      · rcases hfy n hn with h4 | h4
        · omega
        · have : (n - base) / zone = x.i := by simp only [zone] at hz ⊢; omega
          rw [this] at h4; exact hb h4
      · rcases hfx n hn with h4 | h4
        · omega
        · have : (n - base) / zone = y.i := by simp only [zone] at hz ⊢; omega
          rw [this] at h4
          have := (hx.anc _ h4).2
          omega

theorem drawn_runs {base : Nat} : ∀ (l : List (Oper × Nat)) (k : Nat) (done : List Piece) (S S' : St), (∀ j p, l[j]? = some p → p.2 = k + j ∧ ops[p.2]? = some p.1) → (∀ x ∈ done, Fine ops x ∧ x.i < k ∧ ∀ n ∈ x.ft, n < base ∨ x.b.testBit ((n - base) / zone) = true) →
    execDrawn E call callH ops base l done S = some S' →
    ∃ its : List Piece, its.map (·.i) = List.range' k l.length ∧ (∀ x ∈ its, Fine ops x) ∧ Runs E call callH ops base S its S' ∧ ∀ y ∈ its, ∀ x ∈ done, y.b.testBit x.i = true ∨ Free ops base x y
  | [], k, done, S, S', hl, hdone, h => by
    simp only [execDrawn, Option.some.injEq] at h; subst h
    exact ⟨[], rfl, by simp, Like.refl _, by simp⟩
  | (o, i) :: l, k, done, S, S', hl, hdone, h => by
    obtain ⟨hik, hop⟩ := hl 0 (o, i) rfl
    simp only [Nat.add_zero] at hik hop
    subst hik
    simp only [execDrawn] at h
    split at h
    · rename_i y hy
      simp only [itemOf, Option.map_eq_some_iff] at hy
      obtain ⟨b, hb, hy⟩ := hy
      have hbo := beforeOf_ok (done := done) hop (fun x hx => ⟨(hdone x hx).1, (hdone x hx).2.1⟩) _ b (fun e he => by simpa using he) hb
      have hfy : Fine ops y := by subst hy; exact ⟨hop, hbo.1, fun e he => hbo.2 e (by simpa using he)⟩
      have hyi : y.i = i := by subst hy; rfl
      have hyft : y.ft = foot S y.o := by subst hy; rfl
      split at h
      · rename_i hc
        simp only [Bool.and_eq_true, List.all_eq_true, Bool.or_eq_true, decide_eq_true_eq] at hc
        obtain ⟨hc1, hc2⟩ := hc
        split at h
        · rename_i S1 hact
          have hdone' : ∀ x ∈ y :: done, Fine ops x ∧ x.i < i + 1 ∧ ∀ n ∈ x.ft, n < base ∨ x.b.testBit ((n - base) / zone) = true := fun x hx => by
            rcases List.mem_cons.1 hx with rfl | hx
            · exact ⟨hfy, by omega, hc2⟩
            · have := hdone x hx; exact ⟨this.1, by omega, this.2.2⟩
          obtain ⟨its, h1, h2, h3, h4⟩ := drawn_runs l (i + 1) (y :: done) S1 S' (fun j p hj => by have := hl (j + 1) p hj; exact ⟨by omega, this.2⟩) hdone' h
          refine ⟨y :: its, by simp only [List.map_cons, h1, hyi, List.length_cons, List.range'_succ], fun x hx => ?_, ⟨S1, acts_of hyft hact, fun z hz => h4 z hz y (by simp), h3⟩, fun z hz x hx => ?_⟩
          · rcases List.mem_cons.1 hx with rfl | hx
            · exact hfy
            · exact h2 x hx
          · rcases List.mem_cons.1 hz with rfl | hz
            · exact apart_free (hdone x hx).1 (by rw [hyi]; exact (hdone x hx).2.1) (hc1 x hx) (hdone x hx).2.2 hc2
            · exact h4 z hz x (by simp [hx])
        · cases h
      · cases h
    · cases h

structure Left (ops : Array Oper) (listed : Array Bool) (rem : List Piece) : Prop where
  fine : ∀ x ∈ rem, Fine ops x
  asc : rem.Pairwise fun x y => x.i < y.i
  size : listed.size = ops.size
  iff : ∀ j, j < ops.size → (listed.getD j true = false ↔ ∃ x ∈ rem, x.i = j)
  closed : ∀ i o, ops[i]? = some o → listed.getD i true = true → ∀ e ∈ o.after, Region.binds .any e = true → listed.getD e.on false = true
theorem Left.anc {listed : Array Bool} {rem : List Piece} (L : Left ops listed rem) {i j : Nat} (h : Anc ops i j) : (∀ o, ops[i]? = some o → ∀ e ∈ o.after, Region.binds .any e = true → listed.getD e.on false = true) → listed.getD j false = true := by
  induction h with
  | one h1 h2 h3 h4 => intro hr; subst h4; exact hr _ h1 _ h2 h3
  | @more i j o1 e1 h1 h2 h3 h4 ih =>
    intro hr
    have h5 := hr _ h1 _ h2 h3
    refine ih fun o ho => L.closed _ o ho ?_
    have hlt : e1.on < listed.size := by
      rcases Nat.lt_or_ge e1.on listed.size with h | h
      · exact h
      · simp [Array.getElem?_eq_none h] at h5
    simp only [Array.getD_eq_getD_getElem?, Array.getElem?_eq_getElem hlt, Option.getD_some] at h5 ⊢
    exact h5
theorem getD_tf {listed : Array Bool} {j : Nat} (h : j < listed.size) : listed.getD j true = listed.getD j false := by
  simp only [Array.getD_eq_getD_getElem?, Array.getElem?_eq_getElem h, Option.getD_some]
theorem zone_in {i size n base : Nat} (hi : i < size) (h1 : base + zone * i ≤ n) (h2 : n < base + zone * i + zone) : base ≤ n ∧ n < base + zone * size := by
  have : zone * (i + 1) ≤ zone * size := Nat.mul_le_mul_left _ hi
  rw [Nat.mul_add] at this
  simp only [zone] at *
  omega
theorem Acts.self {base : Nat} {x : Piece} {S S1 : St} (h : Acts E call callH ops base x S S1) : ∃ S2, actOf E call callH ops base x S = some S2 ∧ Like S2 S1 := by
  obtain ⟨v, nx, x1, x2, x3, x4⟩ := h
  obtain ⟨S2, g1, g2, g3⟩ := x4 S ((Like.refl S).agree _ _)
  refine ⟨S2, g1, g2.trans x2.symm, fun n => ?_⟩
  by_cases hw : Writes base x nx n
  · exact (g3 n).1 hw
  · exact ((g3 n).2 hw).trans (x3 n hw).symm
theorem wpAny_ok (O : Ok P E call callH) {Q : Exit → Act → World → Prop} {base : Nat} {Kf : Nat → Prop} {S' : St} (hKf : ∀ n, base ≤ n ∧ n < base + zone * ops.size → Kf n) (hq : ∀ a' w' σ' A', RS B Kf σ' A' S' a' w' → Q .normal a' w') :
    ∀ (fuel : Nat) (rem : List Piece) (listed : Array Bool) (S : St) (K : Nat → Prop) (σ : Sig) (A : Nat → Prop) (a : Act) (w : World), rem.length = fuel → Left ops listed rem → Runs E call callH ops base S rem S' → RS B K σ A S a w →
      (∀ x ∈ rem, ∀ n, base + zone * x.i ≤ n → n < base + zone * x.i + zone → ¬ K n) → (∀ n, K n → Kf n) → wpAny P .any ops Q fuel listed a w := by
  have hnone : ∀ listed, Left ops listed [] → Region.ready .any ops listed = [] := fun listed L => by
    rw [List.eq_nil_iff_forall_not_mem]
    intro j hj
    rw [mem_ready] at hj
    obtain ⟨h1, o, ho, _⟩ := hj
    have hlt : j < ops.size := (Array.getElem?_eq_some_iff.1 ho).1
    obtain ⟨x, hx, _⟩ := (L.iff j hlt).1 h1
    cases hx
  intro fuel
  induction fuel with
  | zero =>
    intro rem listed S K σ A a w hl L hr R hf hK
    have : rem = [] := List.eq_nil_of_length_eq_zero hl
    subst this
    obtain ⟨A2, R2⟩ := R.like (S2 := S') hr
    exact ⟨hnone listed L, hq _ _ _ _ (R2.mono hK)⟩
  | succ fuel ih =>
    intro rem listed S K σ A a w hl L hr R hf hK
    refine ⟨fun hempty => ?_, fun i hi => ?_⟩
    · exfalso
      cases rem with
      | nil => simp at hl
      | cons x rest =>
        have hx := L.fine x (by simp)
        have hlt : x.i < ops.size := (Array.getElem?_eq_some_iff.1 hx.at_).1
        have : x.i ∈ Region.ready .any ops listed := by
          rw [mem_ready]
          refine ⟨(L.iff x.i hlt).2 ⟨x, by simp, rfl⟩, x.o, hx.at_, fun e he hb => ?_⟩
          have h1 := hx.pre e he hb
          have h2 : e.on < ops.size := by omega
          rw [← getD_tf (by rw [L.size]; exact h2)]
          cases hc : listed.getD e.on true with
          | true => rfl
          | false =>
            exfalso
            obtain ⟨z, hz, hzi⟩ := (L.iff e.on h2).1 hc
            rcases List.mem_cons.1 hz with rfl | hz
            · omega
            · have := (List.pairwise_cons.1 L.asc).1 z hz
              omega
        rw [hempty] at this; cases this
    · have hi' := hi
      rw [mem_ready] at hi
      obtain ⟨h1, o, ho, hpre⟩ := hi
      have hlt : i < ops.size := (Array.getElem?_eq_some_iff.1 ho).1
      obtain ⟨x, hx, rfl⟩ := (L.iff i hlt).1 h1
      have hxf := L.fine x hx
      have hoo : o = x.o := by have := hxf.at_; rw [ho] at this; exact Option.some.inj this
      subst hoo
      obtain ⟨l1, l2, rfl⟩ := List.append_of_mem hx
      have hasc := L.asc
      rw [List.pairwise_append] at hasc
      obtain ⟨p1, p2, p3⟩ := hasc
      have p4 := List.pairwise_cons.1 p2
      have hb : ∀ y ∈ l1, x.b.testBit y.i = false := fun y hy => by
        cases hc : x.b.testBit y.i with
        | false => rfl
        | true =>
          exfalso
          have h3 := L.anc (hxf.anc _ hc).1 fun o2 ho2 => by
            rw [ho] at ho2; cases ho2; exact hpre
          have hyf := L.fine y (by simp [hy])
          have hylt : y.i < ops.size := (Array.getElem?_eq_some_iff.1 hyf.at_).1
          have := (L.iff y.i hylt).2 ⟨y, by simp [hy], rfl⟩
          rw [getD_tf (by rw [L.size]; exact hylt), h3] at this; cases this
      obtain ⟨S1, hact, hrest⟩ := hr.take hb
      obtain ⟨S2, hdo, hlike⟩ := hact.self
      have hne : ∀ y ∈ l1 ++ l2, y.i ≠ x.i := fun y hy => by
        rcases List.mem_append.1 hy with hy | hy
        · have := p3 y hy x (by simp); omega
        · have := p4.1 y hy; omega
      refine act_ok O R R.k0 ho hdo (hf x hx) fun a' w' σ' A' R' => ?_
      obtain ⟨A2, R2⟩ := R'.like hlike
      refine ih (l1 ++ l2) _ S1 _ σ' A2 a' w' (by simp at hl ⊢; omega) ⟨fun y hy => L.fine y ?_, ?_, by simp [L.size], fun j hj => ?_, fun j o2 ho2 hj e he hbe => ?_⟩ hrest R2 (fun y hy n g1 g2 hk => ?_) fun n hk => ?_
      · rcases List.mem_append.1 hy with hy | hy
        · simp [hy]
        · simp [hy]
      · rw [List.pairwise_append]
        exact ⟨p1, p4.2, fun y hy z hz => p3 y hy z (by simp [hz])⟩
      · by_cases hji : j = x.i
        · subst hji
          constructor
          · intro hc
            rw [getD_tf (by simp [L.size]; exact hj)] at hc
            have : (listed.setIfInBounds x.i true).getD x.i false = true := by simp [L.size, hj]
            rw [this] at hc; cases hc
          · rintro ⟨y, hy, e⟩; exact absurd e (hne y hy)
        · rw [getD_set_ne true (Ne.symm hji), L.iff j hj]
          constructor
          · rintro ⟨y, hy, e⟩
            refine ⟨y, ?_, e⟩
            rcases List.mem_append.1 hy with hy | hy
            · exact List.mem_append_left _ hy
            · rcases List.mem_cons.1 hy with rfl | hy
              · exact absurd e.symm hji
              · exact List.mem_append_right _ hy
          · rintro ⟨y, hy, e⟩
            refine ⟨y, ?_, e⟩
            rcases List.mem_append.1 hy with hy | hy
            · exact List.mem_append_left _ hy
            · exact List.mem_append_right _ (List.mem_cons_of_mem _ hy)
      · apply getD_set_true
        by_cases hji : j = x.i
        · subst hji; rw [ho] at ho2; cases ho2; exact hpre e he hbe
        · rw [getD_set_ne true (Ne.symm hji)] at hj
          exact L.closed j o2 ho2 hj e he hbe
      · have hym : y ∈ l1 ++ x :: l2 := by
          rcases List.mem_append.1 hy with hy | hy
          · simp [hy]
          · simp [hy]
        rcases hk with hk | hk
        · exact hf y hym n g1 g2 hk
        · exact zones_ne (hne y hy) ⟨g1, g2⟩ hk
      · rcases hk with hk | hk
        · exact hK n hk
        · exact hKf n (zone_in hlt hk.1 hk.2)

theorem region_ok (O : Ok P E call callH) {lim : Nat} {Q : Exit → Act → World → Prop} {id : Nat} {draw : Bool} {S S' : St} {nx nx' : Nat} (h : execRegion E call callH lim ops draw S nx = some (S', nx')) :
    nx ≤ nx' ∧ ∀ (K : Nat → Prop) (σ : Sig) (A : Nat → Prop) (a : Act) (w : World), RS B K σ A S a w → (∀ n, nx ≤ n → n < lim → ¬ K n) →
      (∀ a' w' σ' A', RS B (fun n => K n ∨ (nx ≤ n ∧ n < nx')) σ' A' S' a' w' → Q .normal a' w') → (Code.region id ops draw).wp P Q a w := by
  unfold execRegion at h
  cases draw with
  | false =>
    simp only [Bool.false_eq_true, if_false] at h
    obtain ⟨h1, h2⟩ := execOps_ok (B := B) (Q := Q) O ops.toList 0 S nx S' nx' (by simp) h
    refine ⟨h1, fun K σ A a w R hf hq => wp_region ?_⟩
    have := h2 K σ A a w R hf hq
    rw [List.range_eq_range']
    simpa using this
  | true =>
    simp only [if_true] at h
    split at h
    · rename_i hlim
      simp only [Option.map_eq_some_iff, Prod.mk.injEq] at h
      obtain ⟨S2, hd, rfl, rfl⟩ := h
      refine ⟨by omega, fun K σ A a w R hf hq => wp_region_any O.env.mixed ?_⟩
      obtain ⟨its, i1, i2, i3, _⟩ := drawn_runs ops.toList.zipIdx 0 [] S S2 (fun j p hj => by
        rw [List.getElem?_zipIdx] at hj
        simp only [Option.map_eq_some_iff, Nat.zero_add] at hj
        obtain ⟨o, ho, rfl⟩ := hj
        simp only [Nat.zero_add]
        exact ⟨trivial, by rw [← Array.getElem?_toList]; exact ho⟩) (by simp) hd
      have hlen : its.length = ops.size := by have := congrArg List.length i1; simpa using this
      have hz : ∀ x ∈ its, x.i < ops.size := fun x hx => (Array.getElem?_eq_some_iff.1 (i2 x hx).at_).1
      refine wpAny_ok O (base := nx) (fun n hn => .inr hn) hq ops.size its _ S K σ A a _ hlen ⟨i2, ?_, by simp, fun j hj => ?_, fun i o ho hl => ?_⟩ i3 (R.drew rfl rfl rfl rfl) (fun x hx n g1 g2 hk => ?_) fun n hn => .inl hn
      · have : (its.map (·.i)).Pairwise (· < ·) := by rw [i1]; exact List.pairwise_lt_range'
        rwa [List.pairwise_map] at this
      · have : (Array.replicate ops.size false).getD j true = false := by simp [hj]
        simp only [this, true_iff]
        have : j ∈ its.map (·.i) := by rw [i1, List.mem_range'_1]; simp; exact hj
        simp only [List.mem_map] at this
        exact this
      · have hi : i < ops.size := (Array.getElem?_eq_some_iff.1 ho).1
        simp [hi] at hl
      · exact hf n (zone_in (hz x hx) g1 g2).1 (by have := (zone_in (hz x hx) g1 g2).2; omega) hk
    · cases h
end
end Go.Proofs.YtfokmnafgabdiaaGreatDoor.Eng
namespace Go.Proofs.YtfokmnafgabdiaaGreatDoor.Eng
open Go Go.RowKit
set_option linter.unusedVariables false
set_option linter.unusedSimpArgs false

section
variable {P : Program} {E : Env} {B : Base} {call : CallF} {callH : CallH}

def exitOf : Ex → Exit
  | .normal => .normal
  | .exit id => .exit id
  | .ret => .ret

def Sound (P : Program) (B : Base) (lim : Nat) (S : St) (nx : Nat) (ex : Ex) (S' : St) (nx' : Nat) (goal : (Exit → Act → World → Prop) → Act → World → Prop) : Prop :=
  ∀ (Q : Exit → Act → World → Prop) (K : Nat → Prop) (σ : Sig) (A : Nat → Prop) (a : Act) (w : World), RS B K σ A S a w → (∀ n, nx ≤ n → n < lim → ¬ K n) →
    (∀ a' w' σ' A', RS B (fun n => K n ∨ (nx ≤ n ∧ n < nx')) σ' A' S' a' w' → Q (exitOf ex) a' w') → goal Q a w
theorem Sound.step {lim : Nat} {S S1 S' : St} {nx nx1 nx' : Nat} {ex : Ex} {g1 g2 : (Exit → Act → World → Prop) → Act → World → Prop} {mid : (Exit → Act → World → Prop) → Exit → Act → World → Prop} (h1 : nx ≤ nx1) (h2 : nx1 ≤ nx')
    (s1 : Sound P B lim S nx .normal S1 nx1 g1) (s2 : Sound P B lim S1 nx1 ex S' nx' g2) (hm : ∀ Q a w, g2 Q a w → mid Q .normal a w) : Sound P B lim S nx ex S' nx' fun Q a w => g1 (mid Q) a w := by
  intro Q K σ A a w R hf hq
  refine s1 (mid Q) K σ A a w R hf fun a1 w1 σ1 A1 R1 => hm _ _ _ (s2 Q _ σ1 A1 a1 w1 R1 (fun n g1 g2 hh => ?_) fun a2 w2 σ2 A2 R2 => hq a2 w2 σ2 A2 (R2.mono fun n hn => ?_))
  · rcases hh with hh | hh
    · exact hf n (by omega) g2 hh
    · omega
  · rcases hn with (hn | hn) | hn
    · exact .inl hn
    · exact .inr ⟨hn.1, by omega⟩
    · exact .inr ⟨by omega, hn.2⟩

theorem execC_ok (O : Ok P E call callH) {lim : Nat} : ∀ (n : Nat) (c : Code) (S : St) (nx : Nat) (ex : Ex) (S' : St) (nx' : Nat), execC E call callH lim n c S nx = some (ex, S', nx') →
    nx ≤ nx' ∧ Sound P B lim S nx ex S' nx' (fun Q a w => c.wp P Q a w) ∧ ∀ body, c = .loop body → Sound P B lim S nx ex S' nx' (fun Q a w => Code.rounds P body Q n a w)
  | 0, c, S, nx, ex, S', nx', h => by simp [execC] at h
  | n + 1, c, S, nx, ex, S', nx', h => by
    have ih := execC_ok O (lim := lim) n
    cases c with
    | skip =>
      simp only [execC, Option.some.injEq, Prod.mk.injEq] at h
      obtain ⟨rfl, rfl, rfl⟩ := h
      exact ⟨Nat.le_refl _, fun Q K σ A a w R hf hq => wp_skip (hq _ _ _ _ (R.mono fun n hn => .inl hn)), fun body0 e => (by cases e)⟩
    | region id ops draw =>
      simp only [execC, Option.map_eq_some_iff, Prod.mk.injEq] at h
      obtain ⟨⟨S2, nx2⟩, hr, rfl, rfl, rfl⟩ := h
      exact ⟨(region_ok (B := B) (Q := fun _ _ _ => True) (id := id) O hr).1, fun Q K σ A a w R hf hq => (region_ok O hr).2 K σ A a w R hf hq, fun body0 e => (by cases e)⟩
    | seq x y =>
      simp only [execC] at h
      split at h
      · rename_i S1 nx1 h1
        obtain ⟨a1, a2, _⟩ := ih x S nx _ S1 nx1 h1
        obtain ⟨b1, b2, _⟩ := ih y S1 nx1 ex S' nx' h
        refine ⟨Nat.le_trans a1 b1, fun Q K σ A a w R hf hq => wp_seq ?_, fun body0 e => (by cases e)⟩
        exact Sound.step (mid := fun Q => Exit.then (y.wp P Q) Q) a1 b1 a2 b2 (fun Q a w h => h) Q K σ A a w R hf hq
      · rename_i r hne
        obtain ⟨a1, a2, _⟩ := ih x S nx ex S' nx' h
        refine ⟨a1, fun Q K σ A a w R hf hq => wp_seq (a2 _ K σ A a w R hf fun a' w' σ' A' R' => ?_), fun body0 e => (by cases e)⟩
        have := hq a' w' σ' A' R'
        cases ex with
        | normal => exact absurd h (hne S' nx')
        | exit id => exact this
        | ret => exact this
    | cond x y z =>
      simp only [execC] at h
      split at h
      · rename_i hb
        obtain ⟨a1, a2, _⟩ := ih y S nx ex S' nx' h
        refine ⟨a1, fun Q K σ A a w R hf hq => ?_, fun body0 e => (by cases e)⟩
        simp only [Option.bind_eq_some_iff] at hb
        obtain ⟨v, hv, hb⟩ := hb
        exact wp_cond_true (boolOf_ok hb (opd_ok R hv).1) (a2 Q K σ A a w R hf hq)
      · rename_i hb
        obtain ⟨a1, a2, _⟩ := ih z S nx ex S' nx' h
        refine ⟨a1, fun Q K σ A a w R hf hq => ?_, fun body0 e => (by cases e)⟩
        simp only [Option.bind_eq_some_iff] at hb
        obtain ⟨v, hv, hb⟩ := hb
        exact wp_cond_false (boolOf_ok hb (opd_ok R hv).1) (a2 Q K σ A a w R hf hq)
      · cases h
    | block id body =>
      simp only [execC] at h
      split at h
      · rename_i k S1 h1
        obtain ⟨S1, nx1⟩ := S1
        obtain ⟨a1, a2, _⟩ := ih body S nx _ S1 nx1 h1
        split at h
        · rename_i hk
          simp only [Option.some.injEq, Prod.mk.injEq] at h
          obtain ⟨rfl, rfl, rfl⟩ := h
          refine ⟨a1, fun Q K σ A a w R hf hq => wp_block (a2 _ K σ A a w R hf fun a' w' σ' A' R' => ?_), fun body0 e => (by cases e)⟩
          show (if k = id then _ else _)
          rw [if_pos hk]; exact hq _ _ _ _ R'
        · rename_i hk
          simp only [Option.some.injEq, Prod.mk.injEq] at h
          obtain ⟨rfl, rfl, rfl⟩ := h
          refine ⟨a1, fun Q K σ A a w R hf hq => wp_block (a2 _ K σ A a w R hf fun a' w' σ' A' R' => ?_), fun body0 e => (by cases e)⟩
          show (if k = id then _ else _)
          rw [if_neg hk]; exact hq _ _ _ _ R'
      · rename_i r hne
        obtain ⟨a1, a2, _⟩ := ih body S nx ex S' nx' h
        refine ⟨a1, fun Q K σ A a w R hf hq => wp_block (a2 _ K σ A a w R hf fun a' w' σ' A' R' => ?_), fun body0 e => (by cases e)⟩
        have := hq a' w' σ' A' R'
        cases ex with
        | normal => exact this
        | exit k => exact absurd h (hne k (S', nx'))
        | ret => exact this
    | loop body =>
      simp only [execC] at h
      have key : nx ≤ nx' ∧ Sound P B lim S nx ex S' nx' (fun Q a w => Code.rounds P body Q (n + 1) a w) := by
        split at h
        · rename_i S1 nx1 h1
          obtain ⟨a1, a2, _⟩ := ih body S nx _ S1 nx1 h1
          obtain ⟨b1, _, b3⟩ := ih (.loop body) S1 nx1 ex S' nx' h
          refine ⟨Nat.le_trans a1 b1, fun Q K σ A a w R hf hq => ?_⟩
          show Code.wp P body (Exit.then (Code.rounds P body Q n) Q) a w
          exact Sound.step (mid := fun Q => Exit.then (Code.rounds P body Q n) Q) a1 b1 a2 (b3 body rfl) (fun Q a w h => h) Q K σ A a w R hf hq
        · rename_i r hne
          obtain ⟨a1, a2, _⟩ := ih body S nx ex S' nx' h
          refine ⟨a1, fun Q K σ A a w R hf hq => ?_⟩
          show Code.wp P body (Exit.then (Code.rounds P body Q n) Q) a w
          refine a2 _ K σ A a w R hf fun a' w' σ' A' R' => ?_
          have := hq a' w' σ' A' R'
          cases ex with
          | normal => exact absurd h (hne S' nx')
          | exit id => exact this
          | ret => exact this
      refine ⟨key.1, fun Q K σ A a w R hf hq => wp_loop_rounds (n + 1) (key.2 Q K σ A a w R hf hq), fun body' e => ?_⟩
      cases e
      exact key.2
    | exit id =>
      simp only [execC, Option.some.injEq, Prod.mk.injEq] at h
      obtain ⟨rfl, rfl, rfl⟩ := h
      exact ⟨Nat.le_refl _, fun Q K σ A a w R hf hq => wp_exit (hq _ _ _ _ (R.mono fun n hn => .inl hn)), fun body0 e => (by cases e)⟩
    | ret =>
      simp only [execC, Option.some.injEq, Prod.mk.injEq] at h
      obtain ⟨rfl, rfl, rfl⟩ := h
      exact ⟨Nat.le_refl _, fun Q K σ A a w R hf hq => wp_ret (hq _ _ _ _ (R.mono fun n hn => .inl hn)), fun body0 e => (by cases e)⟩
    | _ => simp [execC] at h
end
end Go.Proofs.YtfokmnafgabdiaaGreatDoor.Eng
namespace Go.Proofs.YtfokmnafgabdiaaGreatDoor.Eng
open Go Go.RowKit
set_option linter.unusedVariables false
set_option linter.unusedSimpArgs false

section
variable {P : Program} {E : Env} {B : Base} {K : Nat → Prop} {σ : Sig} {A : Nat → Prop} {S : St} {a : Act} {w : World} {call : CallF} {callH : CallH}

theorem loadVar_ok (EO : EnvOk P E) (R : RS B K σ A S a w) {t : TypeId} {i : TI} {u0 : Value} {p : Pt} {cs : List V1} {v : V}
    (h1 : E.ty t = some i) (r1 : RPt w A σ S.heap p u0) (h4 : cellsAt S.heap p = some cs) (h5 : asType i cs 0 = some v) :
    ∃ u, (do loadVar t (← asAddr u0) : Sem Value).run P w = .ok u w ∧ RV w A σ S.heap v u ∧ ∀ n ∈ v.ids, K n := by
  obtain ⟨b, o, us, e, r2, hc, hk, _⟩ := cellsAt_ok R h4 r1
  obtain ⟨hl, h6, h7⟩ := asType_ok h5 r2
  have T := EO.ty t i h1
  have hcells : (loadCells ⟨b, o, none⟩ i.size).run P w = .ok ((us.drop 0).take i.size).toArray w := by
    have := run_loadCells_list (P := P) w ⟨b, o, none⟩ ((us.drop 0).take i.size) (fun j v hv => by
      have hadd : (⟨b, o, none⟩ : Addr).add j = ⟨b, o + j, none⟩ := by unfold Addr.add; split <;> simp_all
      rw [hadd]; refine hc j v ?_
      rw [List.getElem?_take] at hv
      split at hv
      · simpa using hv
      · cases hv)
    rwa [hl] at this
  by_cases ha : i.isAgg = true
  · rw [if_pos ha] at h6
    refine ⟨_, ?_, h6, fun n hn => hk n (h7 n hn)⟩
    simp [asAddr, e, loadVar, T.agg, ha, T.size, hcells]
  · rw [if_neg ha] at h6
    obtain ⟨u, hu, r⟩ := h6
    refine ⟨u, ?_, r, fun n hn => hk n (h7 n hn)⟩
    have hcell : w.cell? ⟨b, o, none⟩ = some u := by
      have : us[0]? = some u := by
        have := congrArg (·[0]?) hu
        simp [List.getElem?_take] at this
        exact this.2
      simpa using hc 0 u this
    have hf : i.isAgg = false := by simpa using ha
    simp [asAddr, e, loadVar, T.agg, hf, hcell]

def readResult (tmps : Array Value) : ResultVar → Sem Value
  | .tmp t => pure (tmps.getD t undef)
  | .cell a t => do loadVar t (← asAddr (tmps.getD a undef))
theorem results_eq (fn : Func) (tmps : Array Value) : results fn tmps = (do let vs ← fn.results.mapM (readResult tmps); pure (if h : vs.size = 1 then vs[0] else .tuple vs)) := by
  unfold results
  congr 1
theorem slot_ok (R : RS B K σ A S a w) {t : Tmp} {v : V} (h : S.tmps[t]? = some v) : RV w A σ S.heap v (a.tmps.getD t undef) ∧ ∀ n ∈ v.ids, K n := by
  obtain ⟨u, hu, r⟩ := R.tmps.get h
  have : a.tmps.getD t undef = u := by rw [Array.getD_eq_getD_getElem?, ← Array.getElem?_toList, hu]; rfl
  rw [this]
  exact ⟨r, R.known v (List.mem_of_getElem? h)⟩
theorem result_ok (EO : EnvOk P E) (R : RS B K σ A S a w) {rv : ResultVar} {x : W} (h : resultOf E S rv = some x) : ∃ u, (readResult a.tmps rv).run P w = .ok u w ∧ RW w A σ S.heap x u ∧ ∀ n ∈ x.ids, K n := by
  have hw : ∀ {v : V} {y : W}, v.w? = some y → v = .w y := fun {v y} hv => by
    cases v with
    | w z => simp [V.w?] at hv; subst hv; rfl
    | tup xs => cases hv
    | dead => cases hv
  cases rv with
  | tmp t =>
    simp only [resultOf, Option.bind_eq_some_iff] at h
    obtain ⟨v, hv, hx⟩ := h
    have := hw hx
    subst this
    obtain ⟨r, k⟩ := slot_ok R hv
    exact ⟨_, rfl, r, k⟩
  | cell c t =>
    simp only [resultOf] at h
    split at h
    · rename_i i p hi hp
      simp only [Option.bind_eq_some_iff] at hp
      obtain ⟨v0, hv0, hp⟩ := hp
      split at h
      · rename_i cs hcs
        simp only [Option.bind_eq_some_iff] at h
        obtain ⟨v, hv, hx⟩ := h
        have := hw hx
        subst this
        obtain ⟨r, k⟩ := slot_ok R hv0
        obtain ⟨r1, _⟩ := ptrOf_ok hp r
        exact loadVar_ok EO R hi r1 hcs hv
      · cases h
    · cases h
theorem resultsL_ok (EO : EnvOk P E) (R : RS B K σ A S a w) : ∀ {l : List ResultVar} {xs : List W}, mapO (resultOf E S) l = some xs → ∃ us, (l.mapM (readResult a.tmps)).run P w = .ok us w ∧ All2 (RW w A σ S.heap) xs us ∧ ∀ n ∈ xs.flatMap W.ids, K n
  | [], xs, h => by simp [mapO_nil] at h; subst h; exact ⟨[], rfl, .nil, by simp⟩
  | x :: l, xs, h => by
    obtain ⟨y, ys, h1, h2, rfl⟩ := mapO_cons h
    obtain ⟨u, g1, g2, g3⟩ := result_ok EO R h1
    obtain ⟨us, k1, k2, k3⟩ := resultsL_ok EO R h2
    refine ⟨u :: us, ?_, .cons g2 k2, fun n hn => ?_⟩
    · simp only [List.mapM_cons, Sem.run_bind, g1, k1, Result.andThen_ok, Sem.run_pure]
    · simp only [List.flatMap_cons, List.mem_append] at hn
      rcases hn with hn | hn
      · exact g3 n hn
      · exact k3 n hn
def packW : List W → V
  | [x] => .w x
  | xs => .tup xs
theorem results_ok (EO : EnvOk P E) (R : RS B K σ A S a w) {fn : Func} {xs : List W} (h : mapO (resultOf E S) fn.results.toList = some xs) :
    ∃ u, (results fn a.tmps).run P w = .ok u w ∧ RV w A σ S.heap (packW xs) u ∧ ∀ n ∈ (packW xs).ids, K n := by
  obtain ⟨us, h1, h2, h3⟩ := resultsL_ok EO R h
  rw [results_eq]
  have hm : (fn.results.mapM (readResult a.tmps)).run P w = .ok us.toArray w := by
    rw [Array.mapM_eq_mapM_toList, Sem.run_map]
    rw [h1]; rfl
  have hlen := h2.length
  simp only [Sem.run_bind, hm, Result.andThen_ok, Sem.run_pure]
  cases h2 with
  | nil => exact ⟨_, rfl, ⟨#[], rfl, .nil⟩, h3⟩
  | cons r0 r1 =>
    cases r1 with
    | nil => exact ⟨_, rfl, r0, by simpa [packW, V.ids] using h3⟩
    | cons r1 r2 =>
      refine ⟨_, rfl, ?_, h3⟩
      rw [dif_neg (by simp)]
      exact ⟨_, rfl, .cons r0 (.cons r1 r2)⟩

end
end Go.Proofs.YtfokmnafgabdiaaGreatDoor.Eng
namespace Go.Proofs.YtfokmnafgabdiaaGreatDoor.Eng
open Go Go.RowKit
set_option linter.unusedVariables false
set_option linter.unusedSimpArgs false

section
variable {w : World} {A : Nat → Prop} {σ : Sig} {h h1 h2 : List Root}
def Killed (h h1 : List Root) : Prop := ∀ m, rget h1 m = rget h m ∨ rget h1 m = .dead
theorem Killed.stays (hk : Killed h h1) (m : Nat) : Stays w w σ σ h h1 m := ⟨rfl, by rcases hk m with e | e <;> rw [e]; exact Compat.refl _; trivial, fun b o _ _ => Wide.refl _ _⟩
theorem Killed.own (hk : Killed h h1) {m : Nat} (ho : (rget h1 m).own = true) : rget h1 m = rget h m := by
  rcases hk m with e | e
  · exact e
  · rw [e] at ho; cases ho
theorem RHeap.killed (H : RHeap w A σ h) (hk : Killed h h1) : RHeap w A σ h1 :=
  ⟨fun m => by
      rcases hk m with e | e <;> rw [e]
      · exact (H.root m).stays (fun b _ => rfl) (fun _ h => h) rfl (fun b o _ _ => rfl) fun q _ => hk.stays q
      · trivial,
    fun m q b o o' a1 a2 => H.inj m q b o o' (by rw [← hk.own a1]; exact a1) (by rw [← hk.own a2]; exact a2), fun m b o a1 => H.off m b o (by rw [← hk.own a1]; exact a1), H.lt⟩

def Handed (w : World) (A : Nat → Prop) (σ : Sig) (h h1 : List Root) (n : Nat) (rs : List Root) (Pr : Sig → List Root → Prop) : Prop :=
  Killed h h1 ∧ ∃ (ms : Nat → Nat) (ad : Nat → Option (Nat × Nat)),
    (∀ k, k < rs.length → ∀ b o, ad k = some (b, o) → (rget h (ms k)).own = true ∧ rget h1 (ms k) = .dead ∧ ∃ o', σ (ms k) = some (b, o')) ∧
    (∀ k l, k < rs.length → l < rs.length → ad k ≠ none → ad l ≠ none → ms k = ms l → k = l) ∧
    ∀ σ' h', (∀ k, k < rs.length → σ' (n + k) = ad k ∧ rget h' (n + k) = rget rs k) → Pr σ' h' ∧ ∀ k, k < rs.length → RRoot w A σ' h' (n + k) (rget rs k)
theorem Handed.nil {n : Nat} {Pr : Sig → List Root → Prop} (hp : ∀ σ' h', Pr σ' h') : Handed w A σ h h n [] Pr :=
  ⟨fun m => .inl rfl, fun _ => 0, fun _ => none, fun k hk => by simp at hk, fun k l hk => by simp at hk, fun σ' h' _ => ⟨hp σ' h', fun k hk => by simp at hk⟩⟩
theorem rget_app (rs rs' : List Root) (k : Nat) : rget (rs ++ rs') k = if k < rs.length then rget rs k else rget rs' (k - rs.length) := by
  simp only [rget, List.getD]
  split
  · rw [List.getElem?_append_left (by assumption)]
  · rw [List.getElem?_append_right (by omega)]
theorem Handed.append {n : Nat} {rs rs' : List Root} {P1 P2 : Sig → List Root → Prop} (a : Handed w A σ h h1 n rs P1) (b : Handed w A σ h1 h2 (n + rs.length) rs' P2) : Handed w A σ h h2 n (rs ++ rs') fun σ' h' => P1 σ' h' ∧ P2 σ' h' := by
  obtain ⟨k1, ms, ad, a1, a2, a3⟩ := a
  obtain ⟨k2, ms', ad', b1, b2, b3⟩ := b
  refine ⟨fun m => ?_, fun k => if k < rs.length then ms k else ms' (k - rs.length), fun k => if k < rs.length then ad k else ad' (k - rs.length), fun k hk b o hb => ?_, fun k l hk hl hak hal he => ?_, fun σ' h' hh => ?_⟩
  · rcases k2 m with e | e
    · rw [e]; exact k1 m
    · exact .inr e
  · simp only [List.length_append] at hk
    by_cases hc : k < rs.length
    · simp only [if_pos hc] at hb ⊢
      obtain ⟨c1, c2, c3⟩ := a1 k hc b o hb
      refine ⟨c1, ?_, c3⟩
      rcases k2 (ms k) with e | e
      · rw [e]; exact c2
      · exact e
    · simp only [if_neg hc] at hb ⊢
      obtain ⟨c1, c2, c3⟩ := b1 (k - rs.length) (by omega) b o hb
      exact ⟨by rw [← k1.own c1]; exact c1, c2, c3⟩
  · simp only [List.length_append] at hk hl
    have far : ∀ k l, k < rs.length → l < rs'.length → ad k ≠ none → ad' l ≠ none → ms k ≠ ms' l := fun k l hk hl hak hal e => by
      cases hq : ad k with
      | none => exact hak hq
      | some p => cases hq' : ad' l with
        | none => exact hal hq'
        | some p' =>
          have := (a1 k hk p.1 p.2 hq).2.1
          have h3 := (b1 l hl p'.1 p'.2 hq').1
          rw [← e, this] at h3; cases h3
    by_cases hc : k < rs.length <;> by_cases hd : l < rs.length
    · simp only [if_pos hc, if_pos hd] at hak hal he; exact a2 k l hc hd hak hal he
    · simp only [if_pos hc, if_neg hd] at hak hal he; exact absurd he (far k _ hc (by omega) hak hal)
    · simp only [if_neg hc, if_pos hd] at hak hal he; exact absurd he.symm (far l _ hd (by omega) hal hak)
    · simp only [if_neg hc, if_neg hd] at hak hal he
      have := b2 (k - rs.length) (l - rs.length) (by omega) (by omega) hak hal he
      omega
  · simp only [List.length_append] at hh
    obtain ⟨c1, c2⟩ := a3 σ' h' fun k hk => by
      have := hh k (by omega)
      simp only [if_pos hk, rget_app] at this
      exact this
    obtain ⟨d1, d2⟩ := b3 σ' h' fun k hk => by
      have := hh (rs.length + k) (by omega)
      rw [rget_app, if_neg (by omega), show rs.length + k - rs.length = k from by omega] at this
      simp only [if_neg (show ¬ rs.length + k < rs.length from by omega), show rs.length + k - rs.length = k from by omega] at this
      rw [Nat.add_assoc]; exact this
    refine ⟨⟨c1, d1⟩, fun k hk => ?_⟩
    simp only [List.length_append] at hk
    rw [rget_app]
    by_cases hc : k < rs.length
    · rw [if_pos hc]; exact c2 k hc
    · rw [if_neg hc]
      have := d2 (k - rs.length) (by omega)
      rwa [show n + rs.length + (k - rs.length) = n + k from by omega] at this
theorem Handed.mono {n : Nat} {rs : List Root} {P1 P2 : Sig → List Root → Prop} (a : Handed w A σ h h1 n rs P1) (hp : ∀ σ' h', P1 σ' h' → P2 σ' h') : Handed w A σ h h1 n rs P2 := by
  obtain ⟨k1, ms, ad, a1, a2, a3⟩ := a
  exact ⟨k1, ms, ad, a1, a2, fun σ' h' hh => ⟨hp _ _ (a3 σ' h' hh).1, (a3 σ' h' hh).2⟩⟩

theorem give_ok (hgl : Gl w A) (H : RHeap w A σ h) {x : V1} {u : Value} {b : B1} (r : RV1 w A σ h x u) (hg : give h x = some (b, h1)) (n : Nat) :
    Handed w A σ h h1 n (takeB1 n b).2 fun σ' h' => RV1 w A σ' h' (takeB1 n b).1 u := by
  cases x with
  | c x => simp [give] at hg; obtain ⟨rfl, rfl⟩ := hg; exact Handed.nil fun σ' h' => r
  | nil sz =>
    simp [give] at hg; obtain ⟨rfl, rfl⟩ := hg
    have e : u = .slice none 0 0 := r
    subst e
    refine ⟨fun m => .inl rfl, fun _ => 0, fun _ => none, fun k hk b o hb => (by cases hb), fun k l _ _ hak => absurd rfl hak, fun σ' h' hh => ?_⟩
    have h0 := hh 0 (by simp [takeB1, takeB0])
    simp only [takeB1, takeB0, Nat.add_zero] at h0
    have h0' : rget h' n = .rows sz [] := h0.2
    refine ⟨⟨rfl, fun sz' rs' hq => ?_⟩, fun k hk => ?_⟩
    · rcases hq with hq | hq
      · rw [h0'] at hq; cases hq; exact ⟨by simp, none, 0, by simp, by simp, by simp, .inl rfl⟩
      · rw [h0'] at hq; cases hq
    · simp [takeB1, takeB0] at hk; subst hk
      exact ⟨by simp, .inl ⟨h0.1, rfl⟩⟩
  | pt p => cases p with
    | ptr m i j => simp [give] at hg
    | rp cells => simp [give] at hg; obtain ⟨rfl, rfl⟩ := hg; exact Handed.nil fun σ' h' => r
  | clo g caps => cases caps with
    | cons p ps => simp [give] at hg
    | nil =>
      simp [give] at hg; obtain ⟨rfl, rfl⟩ := hg
      obtain ⟨us, e, r2⟩ := r
      refine Handed.nil fun σ' h' => ⟨us, e, ?_⟩
      generalize us.toList = l at r2
      cases r2; exact .nil
  | ref m off len cap =>
    simp only [give, giveB0, Option.map_eq_some_iff] at hg
    obtain ⟨⟨b0, h0⟩, hg, e⟩ := hg
    simp only [Prod.mk.injEq] at e
    obtain ⟨rfl, rfl⟩ := e
    split at hg
    · rename_i sz rs hq
      simp only [Option.some.injEq, Prod.mk.injEq] at hg
      obtain ⟨rfl, rfl⟩ := hg
      obtain ⟨hone, hrr⟩ := (show RRef w σ h m off len cap u from r)
      obtain ⟨f0, ad, k, e1, e2, e3, e4⟩ := hrr sz rs (.inl hq)
      have hvl : ((rs.drop off).take len).length = len := by simp; omega
      have hkill : Killed h (put h m .dead) := fun q => by
        rw [rget_put]; split
        · exact .inr rfl
        · exact .inl rfl
      have hroot := H.root m
      rw [hq] at hroot
      have hrows : ∀ r ∈ (rs.drop off).take len, r.length = sz := fun r hr => hroot.1 r (List.mem_of_mem_drop (List.mem_of_mem_take hr))
      by_cases hk0 : k = 0
      · have hl0 : len = 0 := by omega
        subst hk0 hl0
        refine ⟨hkill, fun _ => 0, fun _ => none, fun k hk b o hb => (by cases hb), fun k l _ _ hak => absurd rfl hak, fun σ' h' hh => ?_⟩
        have h0 := hh 0 (by simp [takeB1, takeB0])
        simp only [takeB1, takeB0, Nat.add_zero] at h0
        have h0' : rget h' n = .rows sz [] := by rw [h0.2]; simp [rget]
        refine ⟨⟨hone, fun sz' rs' hq' => ?_⟩, fun k hk => ?_⟩
        · rcases hq' with hq' | hq'
          · rw [h0'] at hq'; cases hq'; exact ⟨by simp, ad, 0, by simp [e1], by simp, e3, .inl rfl⟩
          · rw [h0'] at hq'; cases hq'
        · simp [takeB1, takeB0] at hk; subst hk
          exact ⟨by simp [takeB1, takeB0, rget], .inl ⟨h0.1, by simp⟩⟩
      · rcases e4 with e4 | ⟨b, o, g1, g2, g3⟩
        · exact absurd e4 hk0
        · rcases hroot.2 with ⟨q1, _⟩ | ⟨b', o', arr, T, q1, q2, q3, q4⟩
          · rw [g1] at q1; cases q1
          · rw [g1] at q1; cases q1
            have hmul : (off + len) * sz ≤ rs.length * sz := Nat.mul_le_mul_right _ f0
            rw [Nat.add_mul] at hmul
            refine ⟨hkill, fun _ => m, fun _ => some (b, o + off * sz), fun k hk b2 o2 hb => ?_, fun k l hk hl _ _ _ => ?_, fun σ' h' hh => ?_⟩
            · cases hb; exact ⟨by rw [hq]; rfl, rget_put_self _ _ _, o, g1⟩
            · simp [takeB1, takeB0] at hk hl; omega
            · have h0 := hh 0 (by simp [takeB1, takeB0])
              simp only [takeB1, takeB0, Nat.add_zero] at h0
              have h0' : rget h' n = .rows sz ((rs.drop off).take len) := by rw [h0.2]; simp [rget]
              refine ⟨⟨hone, fun sz' rs' hq' => ?_⟩, fun k' hk' => ?_⟩
              · rcases hq' with hq' | hq'
                · rw [h0'] at hq'; cases hq'
                  refine ⟨by simp, ad, k, by rw [hvl]; exact e1, by rw [hvl]; exact e2, e3, .inr ⟨b, o + off * sz, h0.1, by simp [g2], fun _ => ?_⟩⟩
                  rw [Nat.zero_mul, Nat.add_zero]; exact g3 hq
                · rw [h0'] at hq'; cases hq'
              · simp [takeB1, takeB0] at hk'; subst hk'
                refine ⟨hrows, .inr ⟨b, o + off * sz, arr, T, h0.1, q2, by rw [hvl]; omega, fun i r' j c hi hj => ?_⟩⟩
                rw [List.getElem?_take, List.getElem?_drop] at hi
                split at hi
                · obtain ⟨v, hv, rc⟩ := q4 (off + i) r' j c hi hj
                  rw [Nat.add_mul] at hv
                  exact ⟨v, by rw [show o + off * sz + i * sz + j = o + (off * sz + i * sz) + j from by omega]; exact hv, rc⟩
                · cases hi
    · rename_i sz rs hq
      simp only [Option.some.injEq, Prod.mk.injEq] at hg
      obtain ⟨rfl, rfl⟩ := hg
      obtain ⟨B, a, R⟩ := RS.of_heap hgl H
      refine Handed.nil fun σ' h' => ?_
      exact closeC_ok R (fun _ h => h) (x := .ref m off len cap) (fun q hq' b o ho => by
        simp [V1.ids] at hq'; subst hq'
        simp only at ho
        rw [hq] at ho; cases ho) (by simp [closeC, hq, Root.ro?]) r
    · cases hg
theorem gives_ok : ∀ {xs : List V1} {us : List Value} {bs : List B1} {h h1 : List Root} (n : Nat), Gl w A → RHeap w A σ h → All2 (RV1 w A σ h) xs us → gives h xs = some (bs, h1) → Handed w A σ h h1 n (takeB1s n bs).2 fun σ' h' => All2 (RV1 w A σ' h') (takeB1s n bs).1 us
  | [], us, bs, h, h1, n, hgl, H, r, hg => by cases r; simp [gives] at hg; obtain ⟨rfl, rfl⟩ := hg; exact Handed.nil fun _ _ => .nil
  | x :: xs, us, bs, h, h1, n, hgl, H, r, hg => by
    cases r with
    | cons r0 r =>
      simp only [gives] at hg
      split at hg
      · rename_i b h2 hb
        split at hg
        · rename_i bs2 h3 hbs
          simp only [Option.some.injEq, Prod.mk.injEq] at hg
          obtain ⟨rfl, rfl⟩ := hg
          have a := give_ok hgl H r0 hb n
          have c := gives_ok (n + (takeB1 n b).2.length) hgl (H.killed a.1) (r.mono fun x u _ r => r.stays (fun b _ => rfl) (fun _ h => h) fun m _ => a.1.stays m) hbs
          exact (a.append c).mono fun σ' h' hp => .cons hp.1 hp.2
        · cases hg
      · cases hg
theorem giveW_ok (hgl : Gl w A) (H : RHeap w A σ h) {x : W} {u : Value} {b : BW} (r : RW w A σ h x u) (hg : giveW h x = some (b, h1)) (n : Nat) : Handed w A σ h h1 n (takeW n b).2 fun σ' h' => RW w A σ' h' (takeW n b).1 u := by
  cases x with
  | one x =>
    simp only [giveW, Option.map_eq_some_iff, Prod.mk.injEq] at hg
    obtain ⟨⟨b0, h0⟩, hg, rfl, rfl⟩ := hg
    exact give_ok hgl H r hg n
  | agg xs =>
    simp only [giveW, Option.map_eq_some_iff, Prod.mk.injEq] at hg
    obtain ⟨⟨bs, h0⟩, hg, rfl, rfl⟩ := hg
    obtain ⟨us, e, r2⟩ := r
    exact (gives_ok n hgl H r2 hg).mono fun σ' h' hp => ⟨us, e, hp⟩
theorem giveWs_ok : ∀ {xs : List W} {us : List Value} {bs : List BW} {h h1 : List Root} (n : Nat), Gl w A → RHeap w A σ h → All2 (RW w A σ h) xs us → giveWs h xs = some (bs, h1) → Handed w A σ h h1 n (takeWs n bs).2 fun σ' h' => All2 (RW w A σ' h') (takeWs n bs).1 us
  | [], us, bs, h, h1, n, hgl, H, r, hg => by cases r; simp [giveWs] at hg; obtain ⟨rfl, rfl⟩ := hg; exact Handed.nil fun _ _ => .nil
  | x :: xs, us, bs, h, h1, n, hgl, H, r, hg => by
    cases r with
    | cons r0 r =>
      simp only [giveWs] at hg
      split at hg
      · rename_i b h2 hb
        split at hg
        · rename_i bs2 h3 hbs
          simp only [Option.some.injEq, Prod.mk.injEq] at hg
          obtain ⟨rfl, rfl⟩ := hg
          have a := giveW_ok hgl H r0 hb n
          have c := giveWs_ok (n + (takeW n b).2.length) hgl (H.killed a.1) (r.mono fun x u _ r => r.stays (fun b _ => rfl) (fun _ h => h) fun m _ => a.1.stays m) hbs
          exact (a.append c).mono fun σ' h' hp => .cons hp.1 hp.2
        · cases hg
      · cases hg
theorem giveV_ok (hgl : Gl w A) (H : RHeap w A σ h) {v : V} {u : Value} {r : BV} (rv : RV w A σ h v u) (hg : giveV h v = some r) :
    ∃ σ', RHeap w A σ' (takeV 0 r).2 ∧ RV w A σ' (takeV 0 r).2 (takeV 0 r).1 u ∧ ∀ n b o, (rget (takeV 0 r).2 n).own = true → σ' n = some (b, o) → ∃ m o', (rget h m).own = true ∧ σ m = some (b, o') := by
  have key : ∃ h1, Handed w A σ h h1 0 (takeV 0 r).2 fun σ' h' => RV w A σ' h' (takeV 0 r).1 u := by
    cases v with
    | dead => cases hg
    | w x =>
      simp only [giveV, Option.map_eq_some_iff] at hg
      obtain ⟨⟨b, h1⟩, hg, rfl⟩ := hg
      exact ⟨h1, giveW_ok hgl H rv hg 0⟩
    | tup xs =>
      simp only [giveV, Option.map_eq_some_iff] at hg
      obtain ⟨⟨bs, h1⟩, hg, rfl⟩ := hg
      obtain ⟨us, e, r2⟩ := rv
      exact ⟨h1, (giveWs_ok 0 hgl H r2 hg).mono fun σ' h' hp => ⟨us, e, hp⟩⟩
  obtain ⟨h1, k1, ms, ad, a1, a2, a3⟩ := key
  let σ' : Sig := fun n => if n < (takeV 0 r).2.length then ad n else none
  obtain ⟨c1, c2⟩ := a3 σ' (takeV 0 r).2 fun k hk => ⟨by simp only [σ', Nat.zero_add]; rw [if_pos hk], by rw [Nat.zero_add]⟩
  have hlt : ∀ n b o, σ' n = some (b, o) → n < (takeV 0 r).2.length ∧ ad n = some (b, o) := fun n b o hs => by
    simp only [σ'] at hs
    split at hs
    · exact ⟨by assumption, hs⟩
    · cases hs
  refine ⟨σ', ⟨fun n => ?_, fun n m b o o' _ _ h3 h4 => ?_, fun n b o _ h2 => ?_, H.lt⟩, c1, fun n b o _ h2 => ?_⟩
  · rcases Nat.lt_or_ge n (takeV 0 r).2.length with hn | hn
    · have := c2 n hn; rwa [Nat.zero_add] at this
    · rw [rget_ge hn]; trivial
  · obtain ⟨p1, p2⟩ := hlt n b o h3
    obtain ⟨q1, q2⟩ := hlt m b o' h4
    obtain ⟨s1, _, o1, s2⟩ := a1 n p1 b o p2
    obtain ⟨t1, _, o2, t2⟩ := a1 m q1 b o' q2
    exact a2 n m p1 q1 (by rw [p2]; simp) (by rw [q2]; simp) (H.inj _ _ b o1 o2 s1 t1 s2 t2)
  · obtain ⟨p1, p2⟩ := hlt n b o h2
    obtain ⟨s1, _, o1, s2⟩ := a1 n p1 b o p2
    exact H.off _ b o1 s1 s2
  · obtain ⟨p1, p2⟩ := hlt n b o h2
    obtain ⟨s1, _, o1, s2⟩ := a1 n p1 b o p2
    exact ⟨_, o1, s1, s2⟩
end

section
variable {P : Program} {E : Env}
end
end Go.Proofs.YtfokmnafgabdiaaGreatDoor.Eng
namespace Go.Proofs.YtfokmnafgabdiaaGreatDoor.Eng
open Go Go.RowKit
set_option linter.unusedVariables false
set_option linter.unusedSimpArgs false

def byteRows (zs : List Int) : List (List C) := zs.map fun x => [.lit (.int .u8 x)]
def yes : BV := .w (.one (.b (.c (.lit (.bool true)))))
def ByteRow (w : World) (a : Option Addr) (len cap : Nat) (zs : List Int) : Prop :=
  (a = none ∧ len = 0 ∧ cap = 0 ∧ zs = []) ∨
  ∃ x, a = some x ∧ len ≤ cap ∧ cap ≤ maxLen ∧ zs.length = cap ∧ (∀ i, i < zs.length → w.cell? (x.add i) = some (.int .u8 (zs.getD i 0))) ∧ ∀ n ∈ zs, (Lit.int .u8 n).wf = true
theorem bytes_rc {w : World} {a : Option Addr} {len cap : Nat} {zs : List Int} (h : ByteRow w a len cap zs) : RC w (fun b => b < w.heap.size) (.ro 1 (byteRows (zs.take len))) (.slice a len cap) := by
  rcases h with ⟨rfl, rfl, rfl, rfl⟩ | ⟨x, rfl, hl, hm, hz, hcell, hwf⟩
  · exact RC.mk_ro (rows := []) (Nat.le_refl _) (by simp) (fun i r j c hi => by simp at hi)
  · have hlen : (byteRows (zs.take len)).length = len := by simp [byteRows]; omega
    have := RC.mk_ro (w := w) (A := fun b => b < w.heap.size) (sz := 1) (rows := byteRows (zs.take len)) (a := some x) (cap := cap) (by rw [hlen]; exact hl) (fun r hr => by
      simp only [byteRows, List.mem_map] at hr
      obtain ⟨y, _, rfl⟩ := hr; rfl) (fun i r j c hi hj => by
      simp only [byteRows, List.getElem?_map, List.getElem?_take, Option.map_eq_some_iff] at hi
      obtain ⟨y, hy, rfl⟩ := hi
      split at hy
      · have hj0 : j = 0 := by
          cases j with
          | zero => rfl
          | succ j => simp at hj
        subst hj0
        simp at hj; subst hj
        have hilt : i < zs.length := by rcases Nat.lt_or_ge i zs.length with h | h; exact h; simp [List.getElem?_eq_none h] at hy
        have hc := hcell i hilt
        have hd : zs.getD i 0 = y := by simp [List.getD, hy]
        rw [hd] at hc
        obtain ⟨b, o, s⟩ := x
        cases s with
        | some s =>
          exfalso
          have h0 := hcell 0 (by omega)
          simp only [Addr.add, if_true, World.cell?] at h0
          split at h0
          · simp at h0
          · cases h0
        | none =>
          rw [addr_add] at hc
          refine ⟨b, o, .int .u8 y, rfl, ?_, by simpa using hc, RC.lit_iff.2 ⟨rfl, rfl⟩⟩
          simp only [World.cell?] at hc
          split at hc
          · rename_i hb; exact lt_of_block hb
          · cases hc
      · cases hy)
    rwa [hlen] at this
end Go.Proofs.YtfokmnafgabdiaaGreatDoor.Eng
namespace Go.Proofs.YtfokmnafgabdiaaGreatDoor.Eng
open Go Go.RowKit
set_option linter.unusedVariables false
set_option linter.unusedSimpArgs false

def zeroEq : Value → Value → Bool
  | .int k a, .int k' b => decide (k = k') && decide (a = b)
  | .bool a, .bool b => a == b
  | .string a, .string b => a.data.toList == b.data.toList
  | .pointer none, .pointer none => true
  | .nilIface, .nilIface => true
  | _, _ => false
theorem bytes_ext {a b : ByteArray} (h : a.data.toList = b.data.toList) : a = b := ByteArray.ext (Array.ext' h)
theorem zeroEq_ok {u v : Value} (h : zeroEq u v = true) : v = u ∧ u.oneCell' = true := by
  unfold zeroEq at h
  split at h
  · simp only [Bool.and_eq_true, decide_eq_true_eq] at h; obtain ⟨rfl, rfl⟩ := h; exact ⟨rfl, rfl⟩
  · simp at h; subst h; exact ⟨rfl, rfl⟩
  · rename_i a b; have e : a = b := bytes_ext (by simpa using h); exact ⟨by rw [e], rfl⟩
  · exact ⟨rfl, rfl⟩
  · exact ⟨rfl, rfl⟩
  · cases h
def zvB : V1 → Value → Bool
  | .c (.lit v), u => zeroEq v u
  | .nil _, .slice none 0 0 => true
  | _, _ => false
theorem zvB_ok {x : V1} {u : Value} (h : zvB x u = true) : ZV x u := by
  unfold zvB at h
  split at h
  · exact zeroEq_ok h
  · rfl
  · cases h
def zvsB : List V1 → List Value → Bool
  | [], [] => true
  | x :: xs, u :: us => zvB x u && zvsB xs us
  | _, _ => false
theorem zvsB_ok : ∀ {xs : List V1} {us : List Value}, zvsB xs us = true → All2 ZV xs us
  | [], [], _ => .nil
  | x :: xs, u :: us, h => by
    simp only [zvsB, Bool.and_eq_true] at h
    exact .cons (zvB_ok h.1) (zvsB_ok h.2)
  | [], _ :: _, h => by cases h
  | _ :: _, [], h => by cases h
def kindB (d : Option TypeDesc) : TK → Bool
  | .int k => match d with | some (.int k') => decide (k' = k) | _ => false
  | .bool => match d with | some .bool => true | _ => false
  | .string => match d with | some .string => true | _ => false
  | .slice e => match d with | some (.slice e') => decide (e' = e) | _ => false
  | .struct fs => match d with | some (.struct F) => decide (F.toList.map (fun f => (f.offset, f.type)) = fs) | _ => false
  | .other => match d with | some (.struct _) => false | some (.array _ _) => false | some _ => true | none => false
theorem kindB_ok {d : Option TypeDesc} {k : TK} (h : kindB d k = true) : KindOk d k := by
  cases k with
  | int k => simp only [kindB] at h; split at h; simp at h; subst h; rfl; cases h
  | bool => simp only [kindB] at h; split at h; rfl; cases h
  | string => simp only [kindB] at h; split at h; rfl; cases h
  | slice e => simp only [kindB] at h; split at h; simp at h; subst h; rfl; cases h
  | struct fs => simp only [kindB] at h; split at h; rename_i F; exact ⟨F, rfl, of_decide_eq_true h⟩; cases h
  | other =>
    simp only [kindB] at h
    split at h
    · cases h
    · cases h
    · rename_i x h1 h2
      refine ⟨x, rfl, ?_⟩
      cases x <;> first | trivial | exact absurd rfl (h1 _) | exact absurd rfl (h2 _ _)
    · cases h
def tyOkB (P : Program) (t : TypeId) (i : TI) : Bool :=
  (match P.info? t with
    | some d => decide (d.size = i.size) && decide (d.bytes = i.bytes) && (match d.zero with
      | some z => zvsB i.zero z.cells.toList && (!i.isAgg || (match z with | .agg _ => true | _ => false))
      | none => false)
    | none => false) && kindB (P.underlying t) i.kind && decide (i.zero.length = i.size) &&
  (match P.underlying t with
    | some (.struct F) => F.toList.all fun f => (P.info? f.type).isSome
    | _ => true)
theorem tyOkB_ok {P : Program} {t : TypeId} {i : TI} (h : tyOkB P t i = true) : TyOk P t i := by
  simp only [tyOkB, Bool.and_eq_true, decide_eq_true_eq] at h
  obtain ⟨⟨⟨h1, h2⟩, h3⟩, h4⟩ := h
  refine ⟨?_, kindB_ok h2, h3, fun F hF f hf => ?_⟩
  · split at h1
    · rename_i d hd
      simp only [Bool.and_eq_true, decide_eq_true_eq] at h1
      obtain ⟨⟨e1, e2⟩, e3⟩ := h1
      split at e3
      · rename_i z hz
        simp only [Bool.and_eq_true, Bool.or_eq_true, Bool.not_eq_true'] at e3
        refine ⟨d, hd, e1, e2, z, hz, zvsB_ok e3.1, fun ha => ?_⟩
        rcases e3.2 with e | e
        · rw [ha] at e; cases e
        · split at e
          · exact ⟨_, rfl⟩
          · cases e
      · cases e3
    · cases h1
  · rw [hF] at h4
    exact (List.all_eq_true.1 h4) f (by simpa using hf)

def look {α : Type} : List (Nat × α) → Nat → Option α
  | [], _ => none
  | (k, x) :: l, n => if k = n then some x else look l n
theorem look_mem {α : Type} : ∀ {l : List (Nat × α)} {n : Nat} {x : α}, look l n = some x → (n, x) ∈ l
  | (k, y) :: l, n, x, h => by
    simp only [look] at h
    split at h
    · rename_i e; subst e; cases h; exact List.mem_cons_self
    · exact List.mem_cons_of_mem _ (look_mem h)
structure Tables where
  tys : List (Nat × TI)
  fns : List (Nat × Func)
  given : List (Nat × (List BW → Option BV))
  inl : List Nat
  ro : List Nat
  eqs : List Nat
def envOf (T : Tables) : Env :=
  { ty := look T.tys, fn := look T.fns, given := look T.given, inl := fun f => T.inl.contains f, roImp := fun f => T.ro.contains f, eqOk := fun t => T.eqs.contains t }
theorem envOf_ok {P : Program} {T : Tables} (h1 : (T.tys.all fun p => tyOkB P p.1 p.2) = true) (h2 : ∀ p ∈ T.fns, P.funcs[p.1]? = some p.2) (h3 : (T.fns.all fun p => p.2.name != "runtime.NumGoroutine") = true) (h4 : P.follows .mixedOrders = true) : EnvOk P (envOf T) := by
  refine ⟨fun t i h => ?_, fun f c h => ?_, h4⟩
  · exact tyOkB_ok ((List.all_eq_true.1 h1) (t, i) (look_mem h))
  · have hm := look_mem h
    refine ⟨h2 (f, c) hm, ?_⟩
    have := (List.all_eq_true.1 h3) (f, c) hm
    simpa using this
end Go.Proofs.YtfokmnafgabdiaaGreatDoor.Eng
namespace Go.Proofs.YtfokmnafgabdiaaGreatDoor.Eng
open Go Go.RowKit
set_option linter.unusedVariables false
set_option linter.unusedSimpArgs false

def rnPt (g : Nat → Nat) : Pt → Pt
  | .ptr n i j => .ptr (g n) i j
  | .rp cells => .rp cells
def rnV1 (g : Nat → Nat) : V1 → V1
  | .ref n off len cap => .ref (g n) off len cap
  | .pt p => .pt (rnPt g p)
  | .clo f caps => .clo f (caps.map (rnPt g))
  | x => x
def rnW (g : Nat → Nat) : W → W
  | .one x => .one (rnV1 g x)
  | .agg xs => .agg (xs.map (rnV1 g))
def rnV (g : Nat → Nat) : V → V
  | .w x => .w (rnW g x)
  | .tup xs => .tup (xs.map (rnW g))
  | .dead => .dead
def rnRoot (g : Nat → Nat) : Root → Root
  | .var cells => .var (cells.map (rnV1 g))
  | r => r

section
variable {w : World} {A : Nat → Prop} {σ σ' : Sig} {h h' : List Root} {g : Nat → Nat}
def Rn (g : Nat → Nat) (σ σ' : Sig) (h h' : List Root) (n : Nat) : Prop := (rget h' (g n) = rnRoot g (rget h n) ∨ rget h' (g n) = .dead) ∧ σ' (g n) = σ n
theorem rn_rows {r : Root} {sz : Nat} {rs : List (List C)} : rnRoot g r = .rows sz rs ↔ r = .rows sz rs := by cases r <;> simp [rnRoot]
theorem rn_fro {r : Root} {sz : Nat} {rs : List (List C)} : rnRoot g r = .fro sz rs ↔ r = .fro sz rs := by cases r <;> simp [rnRoot]
theorem rn_own {r : Root} : (rnRoot g r).own = r.own := by cases r <;> rfl
theorem RPt.rn {p : Pt} {u : Value} (hs : ∀ n ∈ p.ids, Rn g σ σ' h h' n) (r : RPt w A σ h p u) : RPt w A σ' h' (rnPt g p) u := by
  cases p with
  | rp cells => exact r
  | ptr n i j =>
    obtain ⟨e1, e2⟩ := hs n (by simp [Pt.ids])
    obtain ⟨h1, h2, h3⟩ := r
    rcases e1 with e1 | e1
    · refine ⟨h1, fun cells hc => ?_, fun sz rs hc => ?_⟩
      · rw [e1] at hc
        cases hq : rget h n with
        | var c => obtain ⟨b, o, g1, g2⟩ := h2 c hq; exact ⟨b, o, e2.trans g1, g2⟩
        | dead => rw [hq] at hc; cases hc
        | rows _ _ => rw [hq] at hc; cases hc
        | fro _ _ => rw [hq] at hc; cases hc
      · rw [e1, rn_rows, rn_fro] at hc
        obtain ⟨b, o, g1, g2⟩ := h3 sz rs hc; exact ⟨b, o, e2.trans g1, g2⟩
    · exact ⟨h1, fun cells hc => (by rw [e1] at hc; cases hc), fun sz rs hc => (by rw [e1] at hc; rcases hc with hc | hc <;> cases hc)⟩
theorem RV1.rn {x : V1} {u : Value} (hs : ∀ n ∈ x.ids, Rn g σ σ' h h' n) (r : RV1 w A σ h x u) : RV1 w A σ' h' (rnV1 g x) u := by
  cases x with
  | c x => exact r
  | nil sz => exact r
  | ref n off len cap =>
    obtain ⟨e1, e2⟩ := hs n (by simp [V1.ids])
    refine ⟨r.1, fun sz rs hq => ?_⟩
    rcases e1 with e1 | e1
    · rw [e1, rn_rows, rn_fro] at hq
      obtain ⟨h1, a, q, h2, h3, h4, h5⟩ := r.2 sz rs hq
      refine ⟨h1, a, q, h2, h3, h4, ?_⟩
      rcases h5 with h5 | ⟨b, o, g1, g2, g3⟩
      · exact .inl h5
      · refine .inr ⟨b, o, e2.trans g1, g2, fun hr => g3 ?_⟩
        rw [e1, rn_rows] at hr; exact hr
    · rw [e1] at hq; rcases hq with hq | hq <;> cases hq
  | pt p => exact RPt.rn hs r
  | clo f caps =>
    obtain ⟨us, e, h2⟩ := r
    exact ⟨us, e, h2.map fun p v hp r => RPt.rn (fun n hn => hs n (by simp only [V1.ids, List.mem_flatMap]; exact ⟨p, hp, hn⟩)) r⟩
theorem RW.rn {x : W} {u : Value} (hs : ∀ n ∈ x.ids, Rn g σ σ' h h' n) (r : RW w A σ h x u) : RW w A σ' h' (rnW g x) u := by
  cases x with
  | one x => exact RV1.rn hs r
  | agg xs =>
    obtain ⟨us, e, h2⟩ := r
    exact ⟨us, e, h2.map fun p v hp r => RV1.rn (fun n hn => hs n (by simp only [W.ids, List.mem_flatMap]; exact ⟨p, hp, hn⟩)) r⟩
theorem RV.rn {x : V} {u : Value} (hs : ∀ n ∈ x.ids, Rn g σ σ' h h' n) (r : RV w A σ h x u) : RV w A σ' h' (rnV g x) u := by
  cases x with
  | w x => exact RW.rn hs r
  | tup xs =>
    obtain ⟨us, e, h2⟩ := r
    exact ⟨us, e, h2.map fun p v hp r => RW.rn (fun n hn => hs n (by simp only [V.ids, List.mem_flatMap]; exact ⟨p, hp, hn⟩)) r⟩
  | dead => trivial
theorem RRoot.rn {n : Nat} {r : Root} (hσ : σ' (g n) = σ n) (hs : ∀ m ∈ r.ids, Rn g σ σ' h h' m) (hr : RRoot w A σ h n r) : RRoot w A σ' h' (g n) (rnRoot g r) := by
  cases r with
  | dead => trivial
  | var cells =>
    obtain ⟨b, o, arr, T, e1, e2, e3, e4⟩ := hr
    refine ⟨b, o, arr, T, hσ.trans e1, e2, by simpa using e3, fun j x hx => ?_⟩
    simp only [List.getElem?_map, Option.map_eq_some_iff] at hx
    obtain ⟨y, hy, rfl⟩ := hx
    obtain ⟨v, hv, r⟩ := e4 j y hy
    exact ⟨v, hv, r.rn fun m hm => hs m (by simp only [Root.ids, List.mem_flatMap]; exact ⟨y, List.mem_of_getElem? hy, hm⟩)⟩
  | rows sz rs =>
    refine ⟨hr.1, ?_⟩
    rcases hr.2 with ⟨e1, e2⟩ | ⟨b, o, arr, T, e1, rest⟩
    · exact .inl ⟨hσ.trans e1, e2⟩
    · exact .inr ⟨b, o, arr, T, hσ.trans e1, rest⟩
  | fro sz rs =>
    refine ⟨hr.1, ?_⟩
    rcases hr.2 with ⟨e1, e2⟩ | ⟨b, o, e1, rest⟩
    · exact .inl ⟨hσ.trans e1, e2⟩
    · exact .inr ⟨b, o, hσ.trans e1, rest⟩
end
theorem rnPt_ids (g : Nat → Nat) (p : Pt) : (rnPt g p).ids = p.ids.map g := by cases p <;> rfl
theorem flatMap_ids {α : Type} (f : α → List Nat) (r : α → α) (g : Nat → Nat) (h : ∀ x, f (r x) = (f x).map g) (l : List α) : (l.map r).flatMap f = (l.flatMap f).map g := by
  induction l with
  | nil => rfl
  | cons x l ih => simp only [List.map_cons, List.flatMap_cons, h, ih, List.map_append]
theorem rnV1_ids (g : Nat → Nat) (x : V1) : (rnV1 g x).ids = x.ids.map g := by
  cases x with
  | pt p => exact rnPt_ids g p
  | clo f caps => exact flatMap_ids _ _ _ (rnPt_ids g) caps
  | _ => rfl
theorem rnW_ids (g : Nat → Nat) (x : W) : (rnW g x).ids = x.ids.map g := by
  cases x with
  | one x => exact rnV1_ids g x
  | agg xs => exact flatMap_ids _ _ _ (rnV1_ids g) xs
theorem rnV_ids (g : Nat → Nat) (x : V) : (rnV g x).ids = x.ids.map g := by
  cases x with
  | w x => exact rnW_ids g x
  | tup xs => exact flatMap_ids _ _ _ (rnW_ids g) xs
  | dead => rfl
theorem rnRoot_ids (g : Nat → Nat) (r : Root) : (rnRoot g r).ids = r.ids.map g := by
  cases r with
  | var cells => exact flatMap_ids _ _ _ (rnV1_ids g) cells
  | _ => rfl

def idx : List Nat → Nat → Nat
  | [], _ => 0
  | m :: l, n => if n = m then 0 else idx l n + 1
theorem idx_get : ∀ {l : List Nat} {n : Nat}, n ∈ l → l[idx l n]? = some n
  | [], n, h => by cases h
  | m :: l, n, h => by
    simp only [idx]
    split
    · rename_i e; rw [e]; rfl
    · rename_i e
      rcases List.mem_cons.1 h with rfl | h
      · exact absurd rfl e
      · simpa using idx_get h
theorem idx_lt {l : List Nat} {n : Nat} (h : n ∈ l) : idx l n < l.length := by
  have := idx_get h
  rcases Nat.lt_or_ge (idx l n) l.length with hh | hh
  · exact hh
  · simp [List.getElem?_eq_none hh] at this
def has (l : List Nat) (n : Nat) : Bool := l.any (· == n)
theorem has_iff {l : List Nat} {n : Nat} : has l n = true ↔ n ∈ l := by simp [has]
section
variable {P : Program} {E : Env} {B : Base} {K : Nat → Prop} {σ : Sig} {A : Nat → Prop} {S : St} {a : Act} {w : World}
def Ev (P : Program) (c : Code) (S : St) (nx : Nat) (ex : Ex) (S' : St) (nx' : Nat) : Prop :=
  ∀ (B : Base), (∀ n, ¬ B.K0 n) → ∀ (Q : Exit → Act → World → Prop) (K : Nat → Prop) (σ : Sig) (A : Nat → Prop) (a : Act) (w : World), RS B K σ A S a w → (∀ n, K n → n < nx) →
    (∀ a' w' σ' A' K', RS B K' σ' A' S' a' w' → (∀ n, K' n → n < nx') → Q (exitOf ex) a' w') → c.wp P Q a w
def EvL (P : Program) (m : Nat) (c : Code) (S : St) (nx : Nat) (ex : Ex) (S' : St) (nx' : Nat) : Prop :=
  ∀ (B : Base), (∀ n, ¬ B.K0 n) → ∀ (Q : Exit → Act → World → Prop) (K : Nat → Prop) (σ : Sig) (A : Nat → Prop) (a : Act) (w : World), RS B K σ A S a w → (∀ n, K n → n < nx) →
    (∀ a' w' σ' A' K', RS B K' σ' A' S' a' w' → (∀ n, K' n → n < nx') → Q (exitOf ex) a' w') → Code.rounds P c Q m a w

variable {call : CallF} {callH : CallH} {c d : Code} {S1 S' : St} {nx nx1 nx' : Nat} {ex : Ex}
theorem Ev.of_exec (O : Ok P E call callH) {n : Nat} (h : execC E call callH most n c S nx = some (ex, S', nx')) : Ev P c S nx ex S' nx' := by
  intro B h0 Q K σ A a w R hk hq
  obtain ⟨h1, h2, _⟩ := execC_ok (B := B) O n c S nx ex S' nx' h
  refine h2 Q K σ A a w R (fun n hn _ hh => by have := hk n hh; omega) fun a' w' σ' A' R' => hq a' w' σ' A' _ R' fun n hn => ?_
  rcases hn with hn | hn
  · have := hk n hn; omega
  · exact hn.2
theorem Ev.skip : Ev P .skip S nx .normal S nx := fun B h0 Q K σ A a w R hk hq => wp_skip (hq _ _ _ _ _ R hk)
theorem Ev.exit {id : Nat} : Ev P (.exit id) S nx (.exit id) S nx := fun B h0 Q K σ A a w R hk hq => wp_exit (hq _ _ _ _ _ R hk)
theorem Ev.ret : Ev P .ret S nx .ret S nx := fun B h0 Q K σ A a w R hk hq => wp_ret (hq _ _ _ _ _ R hk)
theorem Ev.region (O : Ok P E call callH) {id : Nat} {ops : Array Oper} {draw : Bool} (h : execRegion E call callH most ops draw S nx = some (S', nx')) : Ev P (.region id ops draw) S nx .normal S' nx' :=
  Ev.of_exec O (n := 1) (by simp [execC, h])
theorem Ev.seq (h1 : Ev P c S nx .normal S1 nx1) (h2 : Ev P d S1 nx1 ex S' nx') : Ev P (.seq c d) S nx ex S' nx' :=
  fun B h0 Q K σ A a w R hk hq => wp_seq (h1 B h0 _ K σ A a w R hk fun a1 w1 σ1 A1 K1 R1 hk1 => h2 B h0 Q K1 σ1 A1 a1 w1 R1 hk1 hq)
theorem Ev.cond_true {x : Operand} (hb : (opd E S.tmps 0 x).bind boolOf? = some true) (h : Ev P c S nx ex S' nx') : Ev P (.cond x c d) S nx ex S' nx' := by
  intro B h0 Q K σ A a w R hk hq
  simp only [Option.bind_eq_some_iff] at hb
  obtain ⟨v, hv, hb⟩ := hb
  exact wp_cond_true (boolOf_ok hb (opd_ok R hv).1) (h B h0 Q K σ A a w R hk hq)
theorem Ev.cond_false {x : Operand} (hb : (opd E S.tmps 0 x).bind boolOf? = some false) (h : Ev P d S nx ex S' nx') : Ev P (.cond x c d) S nx ex S' nx' := by
  intro B h0 Q K σ A a w R hk hq
  simp only [Option.bind_eq_some_iff] at hb
  obtain ⟨v, hv, hb⟩ := hb
  exact wp_cond_false (boolOf_ok hb (opd_ok R hv).1) (h B h0 Q K σ A a w R hk hq)
theorem Ev.cond {x : Operand} (b : Bool) (hb : (opd E S.tmps 0 x).bind boolOf? = some b) (h : Ev P (if b then c else d) S nx ex S' nx') : Ev P (.cond x c d) S nx ex S' nx' := by
  cases b with
  | true => exact Ev.cond_true hb h
  | false => exact Ev.cond_false hb h
def blockOut (id : Nat) : Ex → Ex
  | .exit k => if k = id then .normal else .exit k
  | x => x
theorem Ev.block {id : Nat} (h : Ev P c S nx ex S' nx') : Ev P (.block id c) S nx (blockOut id ex) S' nx' :=
  fun B h0 Q K σ A a w R hk hq => wp_block (h B h0 _ K σ A a w R hk fun a1 w1 σ1 A1 K1 R1 hk1 => by
    have := hq a1 w1 σ1 A1 K1 R1 hk1
    cases ex with
    | normal => exact this
    | exit k =>
      show (if k = id then _ else _)
      simp only [blockOut] at this
      split
      · rename_i e; rw [if_pos e] at this; exact this
      · rename_i e; rw [if_neg e] at this; exact this
    | ret => exact this)
theorem Ev.loop {m : Nat} (h : EvL P m c S nx ex S' nx') : Ev P (.loop c) S nx ex S' nx' :=
  fun B h0 Q K σ A a w R hk hq => wp_loop_rounds m (h B h0 Q K σ A a w R hk hq)
theorem EvL.step {m : Nat} (h1 : Ev P c S nx .normal S1 nx1) (h2 : EvL P m c S1 nx1 ex S' nx') : EvL P (m + 1) c S nx ex S' nx' :=
  fun B h0 Q K σ A a w R hk hq => h1 B h0 _ K σ A a w R hk fun a1 w1 σ1 A1 K1 R1 hk1 => h2 B h0 Q K1 σ1 A1 a1 w1 R1 hk1 hq
theorem EvL.out {m : Nat} (h1 : Ev P c S nx ex S' nx') (hne : ex ≠ .normal) : EvL P (m + 1) c S nx ex S' nx' :=
  fun B h0 Q K σ A a w R hk hq => h1 B h0 _ K σ A a w R hk fun a1 w1 σ1 A1 K1 R1 hk1 => by
    have := hq a1 w1 σ1 A1 K1 R1 hk1
    cases ex with
    | normal => exact absurd rfl hne
    | exit id => exact this
    | ret => exact this
def Ct (P : Program) (g : FuncId) (bs : List BW) (r : BV) : Prop :=
  (∃ fn, P.funcs[g]? = some fn ∧ fn.name ≠ "runtime.NumGoroutine" ∧ fn.body.isSome = true) ∧
  ∀ (w : World) (A : Nat → Prop) (cargs : Array Value), (takeWs 0 bs).2 = [] → (takeWs 0 bs).1.flatMap W.ids = [] → (∀ b, A b → b < w.heap.size) → Gl w A → All2 (RW w A (fun _ => none) []) (takeWs 0 bs).1 cargs.toList →
    Calls P g cargs w fun e w' => ∃ u σ' A', e = .returned u ∧ Ext w w' (fun _ => False) ∧ Back w w' A A' σ' r u
end
end Go.Proofs.YtfokmnafgabdiaaGreatDoor.Eng
