/- Merged: Eng48, Eng49, Eng50, Eng51, Eng52, Eng53, Eng54, Eng55, Eng56, Eng57, Eng58, Eng59, Eng60, Eng61, Eng62, Eng63. -/
import Derived.Test.YtfokmnafgabdiaaGreatDoorEc
import Derived.ChangeArms
import Derived.ChangeSlices
import Derived.DataElems
import Derived.Lib.LaidU8
import Derived.MakeChecks
import Derived.FnData
import Derived.Below
namespace Go.Proofs.YtfokmnafgabdiaaGreatDoor.Eng
open Go Go.RowKit
set_option linter.unusedVariables false
set_option linter.unusedSimpArgs false

structure IfB (b : Bool) (A B : Prop) : Prop where
  t : b = true → A
  f : b = false → B
structure Need (p A : Prop) : Prop where
  n : p
  go : A
inductive Calc {α : Type} (x : α) (K : α → Prop) : Prop where
  | mk (y : α) (e : x = y) (k : K y) : Calc x K
inductive Find {α : Type} (o : Option α) (K : α → Prop) : Prop where
  | mk (x : α) (h : o = some x) (k : K x) : Find o K
inductive EncAt (n : Int) (K : List UInt8 → Prop) : Prop where
  | mk (b : List UInt8) (h : Utf8.encode n = mk b) (k : K b) : EncAt n K
inductive CallW (P : Program) (f : FuncId) (bs : List BW) (K : BV → Prop) : Prop where
  | mk (r : BV) (h : Ct P f bs r) (k : K r) : CallW P f bs K
structure RawW (p : Prop) : Prop where
  of : p
structure EqB (a b : BV) : Prop where
  e : a = b
theorem IfB.T {b : Bool} {A B : Prop} (h : b = true) (a : A) : IfB b A B := ⟨fun _ => a, fun h2 => by rw [h] at h2; cases h2⟩
theorem IfB.F {b : Bool} {A B : Prop} (h : b = false) (a : B) : IfB b A B := ⟨fun h2 => (by rw [h] at h2; cases h2), fun _ => a⟩
theorem IfB.D {p : Prop} [Decidable p] {A B : Prop} (h1 : p → A) (h2 : ¬ p → B) : IfB (decide p) A B := ⟨fun h => h1 (of_decide_eq_true h), fun h => h2 (of_decide_eq_false h)⟩
theorem IfB.DT {p : Prop} [Decidable p] {A B : Prop} (h : p) (a : A) : IfB (decide p) A B := IfB.T (decide_eq_true h) a
theorem IfB.DF {p : Prop} [Decidable p] {A B : Prop} (h : ¬ p) (a : B) : IfB (decide p) A B := IfB.F (decide_eq_false h) a
theorem IfB.N {b : Bool} {A B : Prop} (h : IfB b B A) : IfB (!b) A B := by
  cases b with
  | false => exact IfB.T rfl (h.f rfl)
  | true => exact IfB.F rfl (h.t rfl)
theorem IfB.A2 {b c : Bool} {A B : Prop} (h : IfB b (IfB c A B) B) : IfB (b && c) A B := by
  cases b with
  | false => exact IfB.F rfl (h.f rfl)
  | true => cases c with
    | false => exact IfB.F rfl ((h.t rfl).f rfl)
    | true => exact IfB.T rfl ((h.t rfl).t rfl)
def onO {α : Type} (o : Option α) (K : α → Prop) : Prop := match o with | some x => K x | none => False
theorem onO_ok {α : Type} {o : Option α} {K : α → Prop} (h : onO o K) : ∃ x, o = some x ∧ K x := by cases o with | none => exact h.elim | some x => exact ⟨x, rfl, h⟩
def hasO {α : Type} (o : Option α) (A : Prop) : Prop := match o with | some _ => A | none => False
theorem hasO_ok {α : Type} {o : Option α} {A : Prop} (h : hasO o A) : (∃ x, o = some x) ∧ A := by cases o with | none => exact h.elim | some x => exact ⟨⟨x, rfl⟩, h⟩
def onT (b : Bool) (A : Prop) : Prop := match b with | true => A | false => False
theorem onT_ok {b : Bool} {A : Prop} (h : onT b A) : b = true ∧ A := by cases b with | true => exact ⟨rfl, h⟩ | false => exact h.elim
def onTy (E : Env) (t : TypeId) (K : TK → Nat → Nat → List V1 → Prop) : Prop := match E.ty t with | some ⟨kd, sz, by_, z⟩ => K kd sz by_ z | none => False
theorem onTy_ok {E : Env} {t : TypeId} {K : TK → Nat → Nat → List V1 → Prop} (h : onTy E t K) : ∃ kd sz by_ z, E.ty t = some ⟨kd, sz, by_, z⟩ ∧ K kd sz by_ z := by
  unfold onTy at h
  split at h
  · rename_i kd sz by_ z e; exact ⟨_, _, _, _, e, h⟩
  · exact h.elim
def onSl (k : TK) (K : TypeId → Prop) : Prop := match k with | .slice e => K e | _ => False
theorem onSl_ok {k : TK} {K : TypeId → Prop} (h : onSl k K) : ∃ e, k = .slice e ∧ K e := by cases k <;> first | exact h.elim | exact ⟨_, rfl, h⟩
def onSt (k : TK) (K : List (Nat × TypeId) → Prop) : Prop := match k with | .struct fs => K fs | _ => False
theorem onSt_ok {k : TK} {K : List (Nat × TypeId) → Prop} (h : onSt k K) : ∃ e, k = .struct e ∧ K e := by cases k <;> first | exact h.elim | exact ⟨_, rfl, h⟩
def isStrK (k : TK) : Bool := match k with | .string => true | _ => false
theorem isStrK_ok {k : TK} (h : isStrK k = true) : k = .string := by cases k <;> first | rfl | cases h
def onOne (v : V) (K : V1 → Prop) : Prop := match v with | .w (.one y) => K y | _ => False
theorem onOne_ok {v : V} {K : V1 → Prop} (h : onOne v K) : ∃ y, v = vone y ∧ K y := by
  unfold onOne at h; split at h
  · exact ⟨_, rfl, h⟩
  · exact h.elim
def onInt (v : V) (K : IntKind → Int → Prop) : Prop := match v with | .w (.one (.c (.lit (.int k a)))) => K k a | _ => False
theorem onInt_ok {v : V} {K : IntKind → Int → Prop} (h : onInt v K) : ∃ k a, v = vlit (.int k a) ∧ K k a := by
  unfold onInt at h; split at h
  · exact ⟨_, _, rfl, h⟩
  · exact h.elim
def onBool (v : V) (K : Bool → Prop) : Prop := match v with | .w (.one (.c (.lit (.bool a)))) => K a | _ => False
theorem onBool_ok {v : V} {K : Bool → Prop} (h : onBool v K) : ∃ a, v = vlit (.bool a) ∧ K a := by
  unfold onBool at h; split at h
  · exact ⟨_, rfl, h⟩
  · exact h.elim
def onStr (v : V) (K : List UInt8 → Prop) : Prop := match v with | .w (.one (.c (.lit (.string ⟨⟨a⟩⟩)))) => K a | _ => False
theorem onStr_ok {v : V} {K : List UInt8 → Prop} (h : onStr v K) : ∃ a, v = vlit (.string (mk a)) ∧ K a := by
  unfold onStr at h; split at h
  · exact ⟨_, rfl, h⟩
  · exact h.elim
def onPt (v : V) (K : Pt → Prop) : Prop := match v with | .w (.one (.pt (.ptr n i j))) => K (.ptr n i j) | .w (.one (.pt (.rp cs))) => K (.rp cs) | _ => False
theorem onPt_ok {v : V} {K : Pt → Prop} (h : onPt v K) : ∃ p, v = vone (.pt p) ∧ K p := by
  unfold onPt at h; split at h
  · exact ⟨_, rfl, h⟩
  · exact ⟨_, rfl, h⟩
  · exact h.elim
def onRows (hl : List (Nat × Root)) (y : V1) (K : Nat → List (List C) → Prop) : Prop := match y with
  | .c (.ro sz rows) => K sz rows
  | .nil sz => K sz []
  | .ref n off len _ => match lkR hl n with
    | .rows sz rs => Calc ((rs.drop off).take len) (K sz)
    | .fro sz rs => Calc ((rs.drop off).take len) (K sz)
    | _ => False
  | _ => False
theorem onRows_ok {hl : List (Nat × Root)} {y : V1} {K : Nat → List (List C) → Prop} (h : onRows hl y K) : ∃ sz rows, rowsL hl y = some (sz, rows) ∧ K sz rows := by
  unfold onRows at h
  split at h
  · exact ⟨_, _, rfl, h⟩
  · exact ⟨_, _, rfl, h⟩
  · split at h
    · rename_i e; obtain ⟨y, e2, k⟩ := h; exact ⟨_, y, by simp only [rowsL, e, e2], k⟩
    · rename_i e; obtain ⟨y, e2, k⟩ := h; exact ⟨_, y, by simp only [rowsL, e, e2], k⟩
    · exact h.elim
  · exact h.elim

def fVal (v : Value) (K : Value → Prop) : Prop := match v with
  | .int k a => K (.int k a)
  | .bool b => K (.bool b)
  | .string s => K (.string s)
  | v => K v
theorem fVal_ok {v : Value} {K : Value → Prop} (h : fVal v K) : K v := by unfold fVal at h; split at h <;> exact h
def fC (c : C) (K : C → Prop) : Prop := match c with
  | .lit v => fVal v fun v => K (.lit v)
  | .ro sz rows => K (.ro sz rows)
  | .any => K .any
  | .err => K .err
theorem fC_ok {c : C} {K : C → Prop} (h : fC c K) : K c := by cases c with | lit v => exact fVal_ok (K := fun v => K (.lit v)) h | ro s r => exact h | any => exact h | err => exact h
def fNat (n : Nat) (K : Nat → Prop) : Prop := match n with
  | 0 => K 0 | 1 => K 1 | 2 => K 2 | 3 => K 3 | 4 => K 4 | 5 => K 5 | 6 => K 6 | 7 => K 7 | 8 => K 8 | 9 => K 9 | 10 => K 10 | 11 => K 11 | 12 => K 12 | 13 => K 13 | 14 => K 14 | 15 => K 15 | 16 => K 16 | 17 => K 17 | 18 => K 18 | 19 => K 19 | 20 => K 20 | 21 => K 21 | 22 => K 22 | 23 => K 23 | 24 => K 24 | 25 => K 25 | 26 => K 26 | 27 => K 27 | 28 => K 28 | 29 => K 29 | 30 => K 30 | 31 => K 31 | 32 => K 32 | 33 => K 33 | 34 => K 34 | 35 => K 35 | 36 => K 36 | 37 => K 37 | 38 => K 38 | 39 => K 39
  | n => K n
theorem fNat_ok {n : Nat} {K : Nat → Prop} (h : fNat n K) : K n := by unfold fNat at h; split at h <;> exact h
def fPts : List Pt → (List Pt → Prop) → Prop
  | [], K => K []
  | .ptr n i j :: ps, K => fNat n fun n => fPts ps fun ps => K (.ptr n i j :: ps)
  | .rp cs :: ps, K => fPts ps fun ps => K (.rp cs :: ps)
theorem fPts_ok : ∀ {ps : List Pt} {K : List Pt → Prop}, fPts ps K → K ps
  | [], K, h => h
  | .ptr n i j :: ps, K, h => fPts_ok (K := fun ps => K (.ptr n i j :: ps)) (fNat_ok (K := fun n => fPts ps fun ps => K (.ptr n i j :: ps)) h)
  | .rp cs :: ps, K, h => fPts_ok (K := fun ps => K (.rp cs :: ps)) h
def fV1 (x : V1) (K : V1 → Prop) : Prop := match x with
  | .c c => fC c fun c => K (.c c)
  | .nil s => K (.nil s)
  | .ref n o l c => fNat n fun n => K (.ref n o l c)
  | .pt (.ptr n i j) => fNat n fun n => K (.pt (.ptr n i j))
  | .pt (.rp cs) => K (.pt (.rp cs))
  | .clo g cs => fPts cs fun cs => K (.clo g cs)
theorem fV1_ok {x : V1} {K : V1 → Prop} (h : fV1 x K) : K x := by
  cases x with
  | c c => exact fC_ok (K := fun c => K (.c c)) h
  | pt p => cases p with
    | ptr n i j => exact fNat_ok (K := fun n => K (.pt (.ptr n i j))) h
    | rp cs => exact h
  | ref n o l c => exact fNat_ok (K := fun n => K (.ref n o l c)) h
  | clo g cs => exact fPts_ok (K := fun cs => K (.clo g cs)) h
  | nil s => exact h
def fV1s : List V1 → (List V1 → Prop) → Prop
  | [], K => K []
  | x :: xs, K => fV1 x fun y => fV1s xs fun ys => K (y :: ys)
theorem fV1s_ok : ∀ {xs : List V1} {K : List V1 → Prop}, fV1s xs K → K xs
  | [], K, h => h
  | x :: xs, K, h => fV1s_ok (K := fun ys => K (x :: ys)) (fV1_ok (K := fun y => fV1s xs fun ys => K (y :: ys)) h)
def fW (x : W) (K : W → Prop) : Prop := match x with
  | .one y => fV1 y fun y => K (.one y)
  | .agg ys => fV1s ys fun ys => K (.agg ys)
theorem fW_ok {x : W} {K : W → Prop} (h : fW x K) : K x := by
  cases x with
  | one y => exact fV1_ok (K := fun y => K (.one y)) h
  | agg ys => exact fV1s_ok (K := fun ys => K (.agg ys)) h
def fWs : List W → (List W → Prop) → Prop
  | [], K => K []
  | x :: xs, K => fW x fun y => fWs xs fun ys => K (y :: ys)
theorem fWs_ok : ∀ {xs : List W} {K : List W → Prop}, fWs xs K → K xs
  | [], K, h => h
  | x :: xs, K, h => fWs_ok (K := fun ys => K (x :: ys)) (fW_ok (K := fun y => fWs xs fun ys => K (y :: ys)) h)
def fV (v : V) (K : V → Prop) : Prop := match v with
  | .w x => fW x fun x => K (.w x)
  | .tup xs => fWs xs fun xs => K (.tup xs)
  | .dead => K .dead
theorem fV_ok {v : V} {K : V → Prop} (h : fV v K) : K v := by
  cases v with
  | w x => exact fW_ok (K := fun x => K (.w x)) h
  | tup xs => exact fWs_ok (K := fun xs => K (.tup xs)) h
  | dead => exact h
def fRoots : List Root → (List Root → Prop) → Prop
  | [], K => K []
  | r :: rs, K => match r with
    | .var cells => fV1s cells fun cells => fRoots rs fun rs => K (.var cells :: rs)
    | .rows sz l => fRoots rs fun rs => K (.rows sz l :: rs)
    | .fro sz l => fRoots rs fun rs => K (.fro sz l :: rs)
    | .dead => fRoots rs fun rs => K (.dead :: rs)
theorem fRoots_ok : ∀ {rs : List Root} {K : List Root → Prop}, fRoots rs K → K rs
  | [], K, h => h
  | r :: rs, K, h => by
    cases r with
    | var cells => exact fRoots_ok (K := fun rs => K (.var cells :: rs)) (fV1s_ok (K := fun cells => fRoots rs fun rs => K (.var cells :: rs)) h)
    | rows sz l => exact fRoots_ok (K := fun rs => K (.rows sz l :: rs)) h
    | fro sz l => exact fRoots_ok (K := fun rs => K (.fro sz l :: rs)) h
    | dead => exact fRoots_ok (K := fun rs => K (.dead :: rs)) h

def intW (bo : BinOp) (k : IntKind) (a b : Int) (K : V → Prop) : Prop := match bo with
  | .lss => K (vlit (.bool (decide (a < b))))
  | .leq => K (vlit (.bool (decide (a ≤ b))))
  | .gtr => K (vlit (.bool (decide (a > b))))
  | .geq => K (vlit (.bool (decide (a ≥ b))))
  | .eql => K (vlit (.bool (decide (a = b))))
  | .neq => K (vlit (.bool (decide (a ≠ b))))
  | .add => match k with
    | .i64 => Need (-9223372036854775808 ≤ a + b ∧ a + b < 9223372036854775808) (K (vlit (.int .i64 (a + b))))
    | .i32 => Need (-2147483648 ≤ a + b ∧ a + b < 2147483648) (K (vlit (.int .i32 (a + b))))
    | .u8 => Need (0 ≤ a + b ∧ a + b < 256) (K (vlit (.int .u8 (a + b))))
    | k => K (vlit (.int k (k.wrap (a + b))))
  | .sub => match k with
    | .i64 => Need (-9223372036854775808 ≤ a - b ∧ a - b < 9223372036854775808) (K (vlit (.int .i64 (a - b))))
    | .i32 => Need (-2147483648 ≤ a - b ∧ a - b < 2147483648) (K (vlit (.int .i32 (a - b))))
    | .u8 => Need (0 ≤ a - b ∧ a - b < 256) (K (vlit (.int .u8 (a - b))))
    | k => K (vlit (.int k (k.wrap (a - b))))
  | .mul => match k with
    | .i64 => Need (-9223372036854775808 ≤ a * b ∧ a * b < 9223372036854775808) (K (vlit (.int .i64 (a * b))))
    | k => K (vlit (.int k (k.wrap (a * b))))
  | .quo => match k with
    | .i64 => Need (0 ≤ a ∧ a < 9223372036854775808 ∧ 0 < b) (K (vlit (.int .i64 (a / b))))
    | _ => False
  | .rem => Need (0 ≤ a ∧ 0 < b) (K (vlit (.int k (a % b))))
  | .xor => K (vlit (.int k (k.wrap ((BitVec.ofInt k.bits a ^^^ BitVec.ofInt k.bits b).toNat : Int))))
  | _ => False
theorem intW_ok {bo : BinOp} {k : IntKind} {a b : Int} {K : V → Prop} (h : intW bo k a b K) : ∃ r, intBin bo k a b = some r ∧ K (vlit r) := by
  unfold intW at h
  split at h
  · exact ⟨_, rfl, h⟩
  · exact ⟨_, rfl, h⟩
  · exact ⟨_, rfl, h⟩
  · exact ⟨_, rfl, h⟩
  · exact ⟨_, rfl, h⟩
  · exact ⟨_, rfl, by rw [show (a != b) = decide (a ≠ b) from by by_cases e : a = b <;> simp [e]]; exact h⟩
  · split at h
    · exact ⟨_, rfl, by rw [wrap_i64 h.n]; exact h.go⟩
    · exact ⟨_, rfl, by rw [wrap_i32 h.n]; exact h.go⟩
    · exact ⟨_, rfl, by rw [wrap_u8 h.n]; exact h.go⟩
    · exact ⟨_, rfl, h⟩
  · split at h
    · exact ⟨_, rfl, by rw [wrap_i64 h.n]; exact h.go⟩
    · exact ⟨_, rfl, by rw [wrap_i32 h.n]; exact h.go⟩
    · exact ⟨_, rfl, by rw [wrap_u8 h.n]; exact h.go⟩
    · exact ⟨_, rfl, h⟩
  · split at h
    · exact ⟨_, rfl, by rw [wrap_i64 h.n]; exact h.go⟩
    · exact ⟨_, rfl, h⟩
  · split at h
    · obtain ⟨hb, go⟩ := h
      have h1 : ¬ b = 0 := by omega
      have h2 : a.tdiv b = a / b := Int.tdiv_eq_ediv_of_nonneg hb.1
      have h3 : a / b ≤ a := Int.ediv_le_self b hb.1
      have h4 : 0 ≤ a / b := Int.ediv_nonneg hb.1 (by omega)
      exact ⟨.int .i64 (a / b), by simp only [intBin, h1, if_false, h2, wrap_i64 (n := a / b) (by omega)], go⟩
    · exact h.elim
  · obtain ⟨hb, go⟩ := h
    have h1 : ¬ b = 0 := by omega
    have h2 : a.tmod b = a % b := Int.tmod_eq_emod_of_nonneg hb.1
    exact ⟨_, by simp only [intBin, h1, if_false, h2], go⟩
  · exact ⟨_, rfl, h⟩
  · exact h.elim
def strW (bo : BinOp) (a b : List UInt8) (K : V → Prop) : Prop := match bo with
  | .add => Need (a.length + b.length ≤ strMost) (K (vlit (.string (mk (a ++ b)))))
  | .eql => K (vlit (.bool (decide (a = b))))
  | .neq => K (vlit (.bool (decide (a ≠ b))))
  | _ => False
theorem strW_ok {bo : BinOp} {a b : List UInt8} {K : V → Prop} (h : strW bo a b K) : ∃ r, strBin bo (mk a) (mk b) = some r ∧ K (vlit r) := by
  unfold strW at h
  split at h
  · exact ⟨_, by simp only [strBin, mk_size, h.n, if_true, mk_append], h.go⟩
  · exact ⟨.bool (decide (a = b)), by simp only [strBin, mk_toList]; rw [show (a == b) = decide (a = b) from by by_cases e : a = b <;> simp [e]], h⟩
  · exact ⟨.bool (decide (a ≠ b)), by simp only [strBin, mk_toList]; rw [show (!(a == b)) = decide (a ≠ b) from by by_cases e : a = b <;> simp [e]], h⟩
  · exact h.elim
def boolW (bo : BinOp) (a b : Bool) (K : V → Prop) : Prop := match bo with
  | .eql => K (vlit (.bool (a == b)))
  | .neq => K (vlit (.bool !(a == b)))
  | _ => False
def litEqW (u v : Value) (K : Bool → Prop) : Prop := match u, v with
  | .int k a, .int k' b => onT (decide (k = k')) (K (decide (a = b)))
  | .string ⟨⟨a⟩⟩, .string ⟨⟨b⟩⟩ => K (decide (a = b))
  | .bool a, .bool b => K (a == b)
  | _, _ => False
theorem litEqW_ok {u v : Value} {K : Bool → Prop} (h : litEqW u v K) : ∃ p, litEq u v = some p ∧ K p := by
  unfold litEqW at h
  split at h
  · obtain ⟨e, h⟩ := onT_ok h
    exact ⟨_, by simp only [litEq]; rw [if_pos (of_decide_eq_true e)]; rfl, h⟩
  · rename_i a b
    exact ⟨decide (a = b), by
      show some ((mk a).toList == (mk b).toList) = _
      rw [mk_toList, mk_toList, show (a == b) = decide (a = b) from by by_cases e : a = b <;> simp [e]], h⟩
  · exact ⟨_, rfl, h⟩
  · exact h.elim
def cellsEqW : List V1 → List V1 → (Bool → Prop) → Prop
  | [], [], K => K true
  | .c (.lit u) :: xs, .c (.lit v) :: ys, K => litEqW u v fun p => cellsEqW xs ys fun q => K (p && q)
  | _, _, _ => False
theorem cellsEqW_ok : ∀ {xs ys : List V1} {K : Bool → Prop}, cellsEqW xs ys K → ∃ p, cellsEq xs ys = some p ∧ K p
  | [], [], K, h => ⟨true, rfl, h⟩
  | .c (.lit u) :: xs, .c (.lit v) :: ys, K, h => by
    obtain ⟨p, h1, h⟩ := litEqW_ok h
    obtain ⟨q, h2, h⟩ := cellsEqW_ok h
    exact ⟨_, by simp only [cellsEq, h1, h2], h⟩
  | [], _ :: _, K, h => h.elim
  | x :: xs, [], K, h => by
    cases x with
    | c c => cases c <;> exact h.elim
    | _ => exact h.elim
  | .c (.ro _ _) :: _, _ :: _, K, h => h.elim
  | .c .any :: _, _ :: _, K, h => h.elim
  | .c .err :: _, _ :: _, K, h => h.elim
  | .nil _ :: _, _ :: _, K, h => h.elim
  | .ref _ _ _ _ :: _, _ :: _, K, h => h.elim
  | .pt _ :: _, _ :: _, K, h => h.elim
  | .clo _ _ :: _, _ :: _, K, h => h.elim
  | .c (.lit u) :: _, .c (.ro _ _) :: _, K, h => h.elim
  | .c (.lit u) :: _, .c .any :: _, K, h => h.elim
  | .c (.lit u) :: _, .c .err :: _, K, h => h.elim
  | .c (.lit u) :: _, .nil _ :: _, K, h => h.elim
  | .c (.lit u) :: _, .ref _ _ _ _ :: _, K, h => h.elim
  | .c (.lit u) :: _, .pt _ :: _, K, h => h.elim
  | .c (.lit u) :: _, .clo _ _ :: _, K, h => h.elim
def binW (E : Env) (bo : BinOp) (t : TypeId) (u v : V) (K : V → Prop) : Prop := match u, v with
  | .w (.one (.c (.lit (.int k a)))), .w (.one (.c (.lit (.int k' b)))) => onT (decide (k = k')) (intW bo k a b K)
  | .w (.one (.c (.lit (.bool a)))), .w (.one (.c (.lit (.bool b)))) => onT (isBoolT E t) (boolW bo a b K)
  | .w (.one (.c (.lit (.string ⟨⟨a⟩⟩)))), .w (.one (.c (.lit (.string ⟨⟨b⟩⟩)))) => strW bo a b K
  | .w (.agg xs), .w (.agg ys) => onT (E.eqOk t) (cellsEqW xs ys fun p => match bo with | .eql => K (vlit (.bool p)) | .neq => K (vlit (.bool !p)) | _ => False)
  | _, _ => False
theorem binW_ok {E : Env} {bo : BinOp} {t : TypeId} {u v : V} {K : V → Prop} (h : binW E bo t u v K) : ∃ r, binV bo (isBoolT E t) (E.eqOk t) u v = some r ∧ K r := by
  unfold binW at h
  split at h
  · obtain ⟨e, h⟩ := onT_ok h
    obtain ⟨r, h1, h2⟩ := intW_ok h
    exact ⟨_, by simp only [binV, litBin, of_decide_eq_true e, if_true]; rw [← of_decide_eq_true e, h1]; rfl, h2⟩
  · obtain ⟨e, h⟩ := onT_ok h
    unfold boolW at h
    split at h
    · exact ⟨_, by simp only [binV, e, if_true, boolBin, Option.map_some], h⟩
    · exact ⟨_, by simp only [binV, e, if_true, boolBin, Option.map_some], h⟩
    · exact h.elim
  · obtain ⟨r, h1, h2⟩ := strW_ok h
    exact ⟨_, by simp only [binV, litBin]; exact congrArg (Option.map vlit) h1, h2⟩
  · obtain ⟨e, h⟩ := onT_ok h
    obtain ⟨p, h1, h⟩ := cellsEqW_ok h
    split at h
    · exact ⟨_, by simp only [binV, e, if_true, h1, Option.map_some], h⟩
    · exact ⟨_, by simp only [binV, e, if_true, h1, Option.map_some], h⟩
    · exact h.elim
  · exact h.elim
def unW (uo : UnOp) (u : V) (K : V → Prop) : Prop := match u with
  | .w (.one (.c (.lit (.bool b)))) => match uo with
    | .not => K (vlit (.bool !b))
    | _ => False
  | .w (.one (.c (.lit (.int .i64 n)))) => match uo with
    | .neg => Need (-9223372036854775808 ≤ -n ∧ -n < 9223372036854775808) (K (vlit (.int .i64 (-n))))
    | _ => False
  | _ => False
theorem unW_ok {uo : UnOp} {u : V} {K : V → Prop} (h : unW uo u K) : ∃ r, unV uo u = some r ∧ K r := by
  unfold unW at h
  split at h
  · split at h
    · exact ⟨_, rfl, h⟩
    · exact h.elim
  · split at h
    · rename_i n _
      exact ⟨_, rfl, by rw [show (0 : Int) - n = -n from by omega, wrap_i64 h.n]; exact h.go⟩
    · exact h.elim
  · exact h.elim
end Go.Proofs.YtfokmnafgabdiaaGreatDoor.Eng
namespace Go.Proofs.YtfokmnafgabdiaaGreatDoor.Eng
open Go Go.RowKit
set_option linter.unusedVariables false
set_option linter.unusedSimpArgs false

def opInt (E : Env) (N : Nat) (l : List (Nat × V)) (x : Operand) (K : IntKind → Int → Prop) : Prop := onO (opdL E N l 0 x) fun v => onInt v K
theorem opInt_ok {E : Env} {N : Nat} {l : List (Nat × V)} {x : Operand} {K : IntKind → Int → Prop} (h : opInt E N l x K) : ∃ k a, opdL E N l 0 x = some (vlit (.int k a)) ∧ K k a := by
  obtain ⟨v, h1, h⟩ := onO_ok h
  obtain ⟨k, a, e0, h2⟩ := onInt_ok h
  clear h
  subst e0
  have h := h2
  clear h2
  exact ⟨k, a, h1, h⟩
def opPt (E : Env) (N : Nat) (l : List (Nat × V)) (x : Operand) (K : Pt → Prop) : Prop := onO (opdL E N l 0 x) fun v => onPt v K
theorem opPt_ok {E : Env} {N : Nat} {l : List (Nat × V)} {x : Operand} {K : Pt → Prop} (h : opPt E N l x K) : ∃ p, opdL E N l 0 x = some (vone (.pt p)) ∧ K p := by
  obtain ⟨v, h1, h⟩ := onO_ok h
  obtain ⟨p, e0, h2⟩ := onPt_ok h
  clear h
  subst e0
  have h := h2
  clear h2
  exact ⟨p, h1, h⟩

def loadW (hl : List (Nat × Root)) (kd : TK) (sz : Nat) (p : Pt) (K : V → Prop) : Prop := match p with
  | .rp cells => onO (cellsO hl (.rp cells)) fun cs => onO (asTypeO sz (aggK kd) cs 0) fun v => fV v K
  | .ptr n i j => match lkR hl n with
    | .rows s3 rs => Find (rs[i]?) fun r => onO (mapO (fun c => some (V1.c c)) r) fun cs => onO (dropO j cs) fun cs2 => onO (asTypeO sz (aggK kd) cs2 0) fun v => fV v K
    | _ => onO (cellsO hl (.ptr n i j)) fun cs => onO (asTypeO sz (aggK kd) cs 0) fun v => fV v K
def convW (E : Env) (hl : List (Nat × Root)) (ks kd : TK) (v : V) (K : V → Prop) : Prop := match kd with
  | .int k => onInt v fun _ n => match k with
    | .i64 => Need (-9223372036854775808 ≤ n ∧ n < 9223372036854775808) (K (vlit (.int .i64 n)))
    | .i32 => Need (-2147483648 ≤ n ∧ n < 2147483648) (K (vlit (.int .i32 n)))
    | .u8 => Need (0 ≤ n ∧ n < 256) (K (vlit (.int .u8 n)))
    | k => K (vlit (.int k (k.wrap n)))
  | .string => onOne v fun y => match y with
    | .c (.lit (.int _ n)) => EncAt n fun b => K (vlit (.string (mk b)))
    | .c (.lit _) => False
    | y => onSl ks fun e => onTy E e fun k3 _ _ _ => match k3 with
      | .int .u8 => onRows hl y fun s rows => onT (Nat.beq s 1) (Find (bytesOf rows) fun b => K (vlit (.string (mk b))))
      | _ => False
  | _ => False
def idxW (E : Env) (N : Nat) (l : List (Nat × V)) (hl : List (Nat × Root)) (e : TypeId) (y : V1) (ix : Operand) (K : V → Prop) : Prop := onTy E e fun _ sz2 _ _ => opInt E N l ix fun ik i => match y with
  | .c (.ro s3 rows) => onT (Nat.beq s3 sz2 && Nat.blt 0 sz2) (Need (0 ≤ i) (Find (rows[i.toNat]?) fun r => K (vone (.pt (.rp r)))))
  | .ref n off len _ => match lkR hl n with
    | .rows s3 rows => onT (Nat.beq s3 sz2) (Need (0 ≤ i ∧ i < len) (Calc (off + i.toNat) fun m => K (vone (.pt (.ptr n m 0)))))
    | _ => False
  | _ => False
def sliceW (E : Env) (N : Nat) (l : List (Nat × V)) (hl : List (Nat × Root)) (kd : TK) (y : V1) (lo hi mx : Option Operand) (K : V → Prop) : Prop := match kd with
  | .string => match y with
    | .c (.lit (.string ⟨⟨a⟩⟩)) => match lo, hi, mx with
      | some x, none, none => opInt E N l x fun _ i => Need (0 ≤ i ∧ i ≤ a.length) (Calc (a.drop i.toNat) fun b => K (vlit (.string (mk b))))
      | none, some x, none => opInt E N l x fun _ i => Need (0 ≤ i ∧ i ≤ a.length) (Calc (a.take i.toNat) fun b => K (vlit (.string (mk b))))
      | some x, some x2, none => opInt E N l x fun _ i => opInt E N l x2 fun _ j => Need (0 ≤ i ∧ i ≤ j ∧ j ≤ a.length) (Calc ((a.drop i.toNat).take (j.toNat - i.toNat)) fun b => K (vlit (.string (mk b))))
      | _, _, _ => False
    | _ => False
  | .slice e => onTy E e fun _ sz2 _ _ => match y with
    | .c (.ro s3 rows) => onT (Nat.beq s3 sz2) (match lo, hi, mx with
      | some x, none, none => opInt E N l x fun _ i => Need (0 ≤ i ∧ i ≤ rows.length) (Calc (rows.drop i.toNat) fun rs => K (vone (.c (.ro s3 rs))))
      | none, some x, none => opInt E N l x fun _ i => Need (0 ≤ i ∧ i ≤ rows.length) (Calc (rows.take i.toNat) fun rs => K (vone (.c (.ro s3 rs))))
      | some x, some x2, none => opInt E N l x fun _ i => opInt E N l x2 fun _ j => Need (0 ≤ i ∧ i ≤ j ∧ j ≤ rows.length) (Calc ((rows.drop i.toNat).take (j.toNat - i.toNat)) fun rs => K (vone (.c (.ro s3 rs))))
      | _, _, _ => False)
    | .nil s0 => match lo, hi, mx with
      | some x, none, none => opInt E N l x fun _ i => Need (i = 0) (K (vone (.nil s0)))
      | none, some x, none => opInt E N l x fun _ i => Need (i = 0) (K (vone (.nil s0)))
      | some x, some x2, none => opInt E N l x fun _ i => opInt E N l x2 fun _ j => Need (i = 0 ∧ j = 0) (K (vone (.nil s0)))
      | _, _, _ => False
    | .ref n off len cap => match lkR hl n with
      | .rows s3 rows => onT (Nat.beq s3 sz2) (match lo, hi, mx with
        | some x, none, none => opInt E N l x fun _ i => Need (0 ≤ i ∧ i ≤ len) (K (vone (.ref n (off + i.toNat) (len - i.toNat) (cap.map (· - i.toNat)))))
        | none, some x, none => opInt E N l x fun _ i => Need (0 ≤ i ∧ i ≤ len) (K (vone (.ref n off i.toNat cap)))
        | some x, some x2, none => opInt E N l x fun _ i => opInt E N l x2 fun _ j => Need (0 ≤ i ∧ i ≤ j ∧ j ≤ len) (K (vone (.ref n (off + i.toNat) (j.toNat - i.toNat) (cap.map (· - i.toNat)))))
        | _, _, _ => False)
      | _ => False
    | _ => False
  | _ => False
def lenW (hl : List (Nat × Root)) (kd : TK) (y : V1) (K : V → Prop) : Prop := match kd with
  | .string => match y with
    | .c (.lit (.string ⟨⟨a⟩⟩)) => K (vlit (.int .i64 (a.length : Int)))
    | _ => False
  | .slice _ => onRows hl y fun _ rows => Calc rows.length fun n => K (vlit (.int .i64 (n : Int)))
  | _ => False
def qW (E : Env) (N : Nat) (l : List (Nat × V)) (hl : List (Nat × Root)) (nx : Nat) (ty : TypeId) (op : Op) (K : V → List Root → Prop) : Prop := match op with
  | .move x => onO (opdL E N l ty x) fun v => K v []
  | .assign x => onO (opdL E N l ty x) fun v => K v []
  | .pick c a b => onO (opdL E N l 0 c) fun u => onBool u fun p => IfB p (onO (opdL E N l ty a) fun v => hasO (opdL E N l ty b) (K v [])) (onO (opdL E N l ty b) fun v => hasO (opdL E N l ty a) (K v []))
  | .alloc t => onTy E t fun _ _ _ z => K (vone (.pt (.ptr nx 0 0))) [.var z]
  | .box t x => onO (opdL E N l t x) fun v => onO v.cells fun xs => K (vone (.pt (.ptr nx 0 0))) [.var xs]
  | .build t ps => onTy E t fun kd _ _ z => onSt kd fun fs => onO (partsL E N l fs ps.toList) fun vs => onO (fillO E fs z vs) fun cs => fV1s cs fun cs => K (.w (.agg cs)) []
  | .load t x => onTy E t fun kd sz _ _ => opPt E N l x fun p => loadW hl kd sz p fun v => K v []
  | .binOp bo t x y _ => onO (opdL E N l t x) fun u => onO (opdL E N l t y) fun v => binW E bo t u v fun r => K r []
  | .unOp uo t x => onO (opdL E N l t x) fun u => unW uo u fun r => K r []
  | .convert s d x => onTy E s fun ks _ _ _ => onTy E d fun kd _ _ _ => onO (opdL E N l s x) fun v => convW E hl ks kd v fun r => K r []
  | .makeFunc (.func f) first cap => onT (Nat.beq first.size 0) (onO (opdsL E N l (cap.toList.map fun _ => 0) cap.toList) fun vs => onO (mapO ptrOf vs) fun ps => K (vone (.clo f ps)) [])
  | .makeSlice t x y => onTy E t fun kd _ _ _ => onSl kd fun e => onTy E e fun _ sz2 by2 z2 => opInt E N l x fun _ n => opInt E N l y fun _ m =>
      onT (Nat.ble by2 1024) (Need (0 ≤ n ∧ n ≤ m ∧ m ≤ mostRows) (onO (mapO quietC z2) fun zc => Calc n.toNat fun nn => Calc (List.replicate nn zc) fun rs => K (vone (.ref nx 0 nn none)) [.rows sz2 rs]))
  | .slice t x lo hi mx => onTy E t fun kd _ _ _ => onO (opdL E N l t x) fun v => onOne v fun y => sliceW E N l hl kd y lo hi mx fun r => K r []
  | .fieldAddr t x f => onTy E t fun kd _ _ _ => onSt kd fun fs => opPt E N l x fun p => onO (fs[f]?) fun q => onTy E q.2 fun _ sz2 _ _ => onT (!(Nat.beq sz2 0)) (match p with
      | .ptr n i j => K (vone (.pt (.ptr n i (j + q.1)))) []
      | .rp cs => onO (dropO q.1 cs) fun cs2 => K (vone (.pt (.rp cs2))) [])
  | .field t x f => onTy E t fun kd _ _ _ => onSt kd fun fs => onO (opdL E N l t x) fun v => match v with
      | .w (.agg cs) => onO (fs[f]?) fun q => onTy E q.2 fun kd2 sz2 _ _ => onO (asTypeO sz2 (aggK kd2) cs q.1) fun r => fV r fun r => K r []
      | _ => False
  | .indexAddr t x ix => onTy E t fun kd _ _ _ => onSl kd fun e => onO (opdL E N l t x) fun v => onOne v fun y => idxW E N l hl e y ix fun r => K r []
  | .index t x ix => onTy E t fun kd _ _ _ => onT (isStrK kd) (onO (opdL E N l t x) fun v => onStr v fun a => opInt E N l ix fun _ i => Need (0 ≤ i) (Find (a[i.toNat]?) fun b => K (vlit (.int .u8 (b.toNat : Int))) []))
  | .nilCheck x => onO (opdL E N l ty x) fun v => onPt v fun p => K (vone (.pt p)) []
  | .extract x i => onO (opdL E N l 0 x) fun v => match v with
      | .tup xs => onO (xs[i]?) fun y => fW y fun y => K (.w y) []
      | _ => False
  | .call ⟨.builtin .len, ⟨[x]⟩, ⟨[t]⟩⟩ => onTy E t fun kd _ _ _ => onO (opdL E N l t x) fun v => onOne v fun y => lenW hl kd y fun r => K r []
  | .call ⟨.builtin .max, ⟨[x, y]⟩, _⟩ => onO (opdL E N l ty x) fun u => onO (opdL E N l ty y) fun v => onInt u fun k a => onInt v fun _ b => Calc (if b > a then b else a) fun m => K (vlit (.int k m)) []
  | .call ⟨.builtin .min, ⟨[x, y]⟩, _⟩ => onO (opdL E N l ty x) fun u => onO (opdL E N l ty y) fun v => onInt u fun k a => onInt v fun _ b => Calc (if b < a then b else a) fun m => K (vlit (.int k m)) []
  | _ => False

section
variable {E : Env} {N : Nat} {l : List (Nat × V)} {hl : List (Nat × Root)} {nx : Nat} {ty : TypeId} {op : Op} {K : V → List Root → Prop}
theorem loadW_ok {t : TypeId} {kd : TK} {sz by_ : Nat} {z : List V1} {x : Operand} {p : Pt} {K : V → Prop} (hi : E.ty t = some ⟨kd, sz, by_, z⟩) (hx : opdL E N l 0 x = some (vone (.pt p))) (h : loadW hl kd sz p K) : ∃ v, (∀ call : CallF, evQ E call (T N l) (H hl) nx ty (.load t x) = some (v, [])) ∧ K v := by
  unfold loadW at h
  split at h
  · obtain ⟨cs, h1, h⟩ := onO_ok h
    obtain ⟨v, h2, h⟩ := onO_ok h
    exact ⟨v, fun _ => Q.load hi hx h1 h2, fV_ok h⟩
  · split at h
    · rename_i hr
      obtain ⟨r, h1, h⟩ := h
      obtain ⟨cs, h2, h⟩ := onO_ok h
      obtain ⟨cs2, h3, h⟩ := onO_ok h
      obtain ⟨v, h4, h⟩ := onO_ok h
      exact ⟨v, fun _ => Q.loadRow hi hx hr h1 h2 h3 h4, fV_ok h⟩
    · obtain ⟨cs, h1, h⟩ := onO_ok h
      obtain ⟨v, h2, h⟩ := onO_ok h
      exact ⟨v, fun _ => Q.load hi hx h1 h2, fV_ok h⟩
theorem beq_ok {a b : Nat} (h : Nat.beq a b = true) : a = b := Nat.eq_of_beq_eq_true h
theorem convW_ok {s d : TypeId} {ks kd : TK} {sz by_ sz2 by2 : Nat} {z z2 : List V1} {x : Operand} {v : V} {K : V → Prop} (hs : E.ty s = some ⟨ks, sz, by_, z⟩) (hd : E.ty d = some ⟨kd, sz2, by2, z2⟩) (hx : opdL E N l s x = some v) (h : convW E hl ks kd v K) : ∃ r, (∀ call : CallF, evQ E call (T N l) (H hl) nx ty (.convert s d x) = some (r, [])) ∧ K r := by
  unfold convW at h
  split at h
  · obtain ⟨k2, n, e0, h2⟩ := onInt_ok h
    clear h
    subst e0
    have h := h2
    clear h2
    have e := fun call : CallF => Q.convI (call := call) (hl := hl) (nx := nx) (ty := ty) hs hd hx
    split at h
    · rw [wrap_i64 h.n] at e; exact ⟨_, e, h.go⟩
    · rw [wrap_i32 h.n] at e; exact ⟨_, e, h.go⟩
    · rw [wrap_u8 h.n] at e; exact ⟨_, e, h.go⟩
    · exact ⟨_, e, h⟩
  · obtain ⟨y, e0, h2⟩ := onOne_ok h
    clear h
    subst e0
    have h := h2
    clear h2
    split at h
    · obtain ⟨b, hb, h⟩ := h
      exact ⟨_, fun _ => Q.convR hs hd hx hb, h⟩
    · exact h.elim
    · rename_i hne1 hne2
      obtain ⟨e, e0, h2⟩ := onSl_ok h
      clear h
      subst e0
      have h := h2
      clear h2
      obtain ⟨k3, _, _, _, he, h⟩ := onTy_ok h
      split at h
      · obtain ⟨s3, rows, hr, h⟩ := onRows_ok h
        obtain ⟨e1, h⟩ := onT_ok h
        obtain ⟨b, hb, h⟩ := h
        rw [beq_ok e1] at hr
        exact ⟨_, fun _ => Q.convB hs he hd hx hr hb (fun v e => hne2 v e), h⟩
      · exact h.elim
  · exact h.elim
theorem blt_ok {a b : Nat} (h : Nat.blt a b = true) : a < b := by simpa [Nat.blt_eq] using h
theorem idxW_ok {t e : TypeId} {sz by_ : Nat} {z : List V1} {x ix : Operand} {y : V1} {K : V → Prop} (hi : E.ty t = some ⟨.slice e, sz, by_, z⟩) (hx : opdL E N l t x = some (vone y)) (h : idxW E N l hl e y ix K) : ∃ r, (∀ call : CallF, evQ E call (T N l) (H hl) nx ty (.indexAddr t x ix) = some (r, [])) ∧ K r := by
  obtain ⟨_, sz2, _, _, hj, h⟩ := onTy_ok h
  obtain ⟨ik, i, hy, h⟩ := opInt_ok h
  split at h
  · obtain ⟨e1, h⟩ := onT_ok h
    obtain ⟨h0, r, hr, h⟩ := h
    simp only [Bool.and_eq_true] at e1
    exact ⟨_, fun _ => Q.idxRo hi hj hx hy (beq_ok e1.1) e1.2 h0 hr, h⟩
  · split at h
    · rename_i hr
      obtain ⟨e1, h⟩ := onT_ok h
      obtain ⟨h0, m, hm, h⟩ := h
      exact ⟨_, fun _ => Q.idxRef hi hj hx hr hy (beq_ok e1) h0.1 h0.2 hm, h⟩
    · exact h.elim
  · exact h.elim
theorem cut_nil1 : cutAt 0 (some 0) none none = some (0, 0) := rfl
theorem cut_nil2 : cutAt 0 none (some 0) none = some (0, 0) := rfl
theorem cut_nil3 : cutAt 0 (some 0) (some 0) none = some (0, 0) := rfl
theorem sliceW_ok {t : TypeId} {kd : TK} {sz by_ : Nat} {z : List V1} {x : Operand} {lo hi mx : Option Operand} {y : V1} {K : V → Prop} (hT : E.ty t = some ⟨kd, sz, by_, z⟩) (hx : opdL E N l t x = some (vone y)) (h : sliceW E N l hl kd y lo hi mx K) : ∃ r, (∀ call : CallF, evQ E call (T N l) (H hl) nx ty (.slice t x lo hi mx) = some (r, [])) ∧ K r := by
  unfold sliceW at h
  split at h
  · split at h
    · split at h
      · obtain ⟨_, i, hy, h0, b, hb, h⟩ := opInt_ok h
        exact ⟨_, fun _ => Q.subFrom hT hx hy h0.1 h0.2 hb, h⟩
      · obtain ⟨_, i, hy, h0, b, hb, h⟩ := opInt_ok h
        exact ⟨_, fun _ => Q.subTo hT hx hy h0.1 h0.2 hb, h⟩
      · obtain ⟨_, i, hy, h⟩ := opInt_ok h
        obtain ⟨_, j, hy2, h0, b, hb, h⟩ := opInt_ok h
        exact ⟨_, fun _ => Q.subMid hT hx hy hy2 h0.1 h0.2.1 h0.2.2 hb, h⟩
      · exact h.elim
    · exact h.elim
  · obtain ⟨_, sz2, _, _, hj, h⟩ := onTy_ok h
    split at h
    · obtain ⟨e1, h⟩ := onT_ok h
      have e1 := beq_ok e1
      split at h
      · obtain ⟨_, i, hy, h0, b, hb, h⟩ := opInt_ok h
        exact ⟨_, fun _ => Q.roFrom hT hj hx e1 hy h0.1 h0.2 hb, h⟩
      · obtain ⟨_, i, hy, h0, b, hb, h⟩ := opInt_ok h
        exact ⟨_, fun _ => Q.roTo hT hj hx e1 hy h0.1 h0.2 hb, h⟩
      · obtain ⟨_, i, hy, h⟩ := opInt_ok h
        obtain ⟨_, j, hy2, h0, b, hb, h⟩ := opInt_ok h
        exact ⟨_, fun _ => Q.subRo hT hj hx e1 (bound_some hy) (bound_some hy2) bound_none (cut_mid h0.1 h0.2.1 h0.2.2) hb, h⟩
      · exact h.elim
    · split at h
      · obtain ⟨_, i, hy, e0, h2⟩ := opInt_ok h
        clear h
        subst e0
        have h := h2
        clear h2
        exact ⟨_, fun _ => Q.sliceNil hT hj hx (bound_some hy) bound_none bound_none cut_nil1, h⟩
      · obtain ⟨_, i, hy, e0, h2⟩ := opInt_ok h
        clear h
        subst e0
        have h := h2
        clear h2
        exact ⟨_, fun _ => Q.sliceNil hT hj hx bound_none (bound_some hy) bound_none cut_nil2, h⟩
      · obtain ⟨_, i, hy, h⟩ := opInt_ok h
        obtain ⟨_, j, hy2, ⟨e1, e2⟩, h2⟩ := opInt_ok h
        clear h
        subst e1; subst e2
        have h := h2
        clear h2
        exact ⟨_, fun _ => Q.sliceNil hT hj hx (bound_some hy) (bound_some hy2) bound_none cut_nil3, h⟩
      · exact h.elim
    · split at h
      · rename_i hr
        obtain ⟨e1, h⟩ := onT_ok h
        have e1 := beq_ok e1
        split at h
        · obtain ⟨_, i, hy, h0, h⟩ := opInt_ok h
          exact ⟨_, fun _ => Q.refFrom hT hj hx hr e1 hy h0.1 h0.2 rfl, h⟩
        · obtain ⟨_, i, hy, h0, h⟩ := opInt_ok h
          refine ⟨_, fun _ => Q.clip hT hj hx hr e1 bound_none (bound_some hy) bound_none (cut_to h0.1 h0.2) rfl, ?_⟩
          simpa [capOf] using h
        · obtain ⟨_, i, hy, h⟩ := opInt_ok h
          obtain ⟨_, j, hy2, h0, h⟩ := opInt_ok h
          exact ⟨_, fun _ => Q.clip hT hj hx hr e1 (bound_some hy) (bound_some hy2) bound_none (cut_mid h0.1 h0.2.1 h0.2.2) rfl, h⟩
        · exact h.elim
      · exact h.elim
    · exact h.elim
  · exact h.elim
theorem lenW_ok {t : TypeId} {kd : TK} {sz by_ : Nat} {z : List V1} {x : Operand} {y : V1} {K : V → Prop} (hi : E.ty t = some ⟨kd, sz, by_, z⟩) (hx : opdL E N l t x = some (vone y)) (h : lenW hl kd y K) : ∃ r, (∀ call : CallF, evQ E call (T N l) (H hl) nx ty (.call ⟨.builtin .len, #[x], #[t]⟩) = some (r, [])) ∧ K r := by
  unfold lenW at h
  split at h
  · split at h
    · exact ⟨_, fun _ => Q.lenM hi hx, h⟩
    · exact h.elim
  · obtain ⟨s, rows, hr, n, hn, h⟩ := onRows_ok h
    exact ⟨_, fun _ => Q.len hi hx hr hn, h⟩
  · exact h.elim
theorem qW_ok (h : qW E N l hl nx ty op K) : loud E (T N l) op = false ∧ ∃ v rs, (∀ call : CallF, evQ E call (T N l) (H hl) nx ty op = some (v, rs)) ∧ K v rs := by
  unfold qW at h
  split at h
  · obtain ⟨v, hv, h⟩ := onO_ok h
    exact ⟨rfl, _, _, fun _ => Q.move hv, h⟩
  · obtain ⟨v, hv, h⟩ := onO_ok h
    exact ⟨rfl, _, _, fun _ => Q.assign hv, h⟩
  · obtain ⟨u, hu, h⟩ := onO_ok h
    obtain ⟨p, e0, h2⟩ := onBool_ok h
    clear h
    subst e0
    have h := h2
    clear h2
    cases p with
    | true =>
      obtain ⟨v, hv, h⟩ := onO_ok (h.t rfl)
      obtain ⟨⟨w, hw⟩, h⟩ := hasO_ok h
      exact ⟨rfl, _, _, fun _ => Q.pickT hu rfl hv ⟨w, opd_T hw⟩, h⟩
    | false =>
      obtain ⟨v, hv, h⟩ := onO_ok (h.f rfl)
      obtain ⟨⟨w, hw⟩, h⟩ := hasO_ok h
      exact ⟨rfl, _, _, fun _ => Q.pickF hu rfl ⟨w, opd_T hw⟩ hv, h⟩
  · obtain ⟨_, _, _, z, hi, h⟩ := onTy_ok h
    exact ⟨rfl, _, _, fun _ => Q.alloc hi, h⟩
  · obtain ⟨v, hv, h⟩ := onO_ok h
    obtain ⟨xs, hc, h⟩ := onO_ok h
    exact ⟨rfl, _, _, fun _ => Q.box hv hc, h⟩
  · obtain ⟨_, _, _, z, hi, h⟩ := onTy_ok h
    obtain ⟨fs, e0, h2⟩ := onSt_ok h
    clear h
    subst e0
    have h := h2
    clear h2
    obtain ⟨vs, hp, h⟩ := onO_ok h
    obtain ⟨cs, hf, h⟩ := onO_ok h
    exact ⟨rfl, _, _, fun _ => Q.build hi hp hf, fV1s_ok (K := fun cs => K (.w (.agg cs)) []) h⟩
  · obtain ⟨_, _, _, z, hi, h⟩ := onTy_ok h
    obtain ⟨p, hx, h⟩ := opPt_ok h
    obtain ⟨v, hv, h⟩ := loadW_ok hi hx h
    exact ⟨rfl, _, _, hv, h⟩
  · obtain ⟨u, hu, h⟩ := onO_ok h
    obtain ⟨v, hv, h⟩ := onO_ok h
    obtain ⟨r, hr, h⟩ := binW_ok h
    exact ⟨rfl, _, _, fun _ => Q.bin hu hv hr, h⟩
  · obtain ⟨u, hu, h⟩ := onO_ok h
    obtain ⟨r, hr, h⟩ := unW_ok h
    exact ⟨rfl, _, _, fun _ => Q.un hu hr, h⟩
  · obtain ⟨_, _, _, _, hs, h⟩ := onTy_ok h
    obtain ⟨_, _, _, _, hd, h⟩ := onTy_ok h
    obtain ⟨v, hv, h⟩ := onO_ok h
    obtain ⟨r, hr, h⟩ := convW_ok hs hd hv h
    exact ⟨rfl, _, _, hr, h⟩
  · rename_i f first cap
    obtain ⟨e, h⟩ := onT_ok h
    obtain ⟨vs, ho, h⟩ := onO_ok h
    obtain ⟨ps, hp, h⟩ := onO_ok h
    have e9 : first = #[] := Array.eq_empty_of_size_eq_zero (beq_ok e)
    rw [e9]
    exact ⟨rfl, _, _, fun _ => Q.mkFun ho hp, h⟩
  · obtain ⟨_, _, _, _, hi, h⟩ := onTy_ok h
    obtain ⟨e, e0, h2⟩ := onSl_ok h
    clear h
    subst e0
    have h := h2
    clear h2
    obtain ⟨_, _, _, _, hj, h⟩ := onTy_ok h
    obtain ⟨_, n, hx, h⟩ := opInt_ok h
    obtain ⟨_, m, hy, h⟩ := opInt_ok h
    obtain ⟨hb, h⟩ := onT_ok h
    obtain ⟨h0, h⟩ := h
    obtain ⟨zc, hz, h⟩ := onO_ok h
    obtain ⟨nn, hn, rs, hrs, h⟩ := h
    subst hrs
    exact ⟨rfl, _, _, fun _ => Q.makeS hi hj hx hy h0.1 h0.2.1 h0.2.2 hb hz hn, h⟩
  · obtain ⟨_, _, _, _, hi, h⟩ := onTy_ok h
    obtain ⟨v, hv, h⟩ := onO_ok h
    obtain ⟨y, e0, h2⟩ := onOne_ok h
    clear h
    subst e0
    have h := h2
    clear h2
    obtain ⟨r, hr, h⟩ := sliceW_ok hi hv h
    exact ⟨rfl, _, _, hr, h⟩
  · obtain ⟨_, _, _, _, hi, h⟩ := onTy_ok h
    obtain ⟨fs, e0, h2⟩ := onSt_ok h
    clear h
    subst e0
    have h := h2
    clear h2
    obtain ⟨p, hx, h⟩ := opPt_ok h
    obtain ⟨⟨off, u⟩, hf, h⟩ := onO_ok h
    obtain ⟨_, sz2, _, _, hj, h⟩ := onTy_ok h
    obtain ⟨hz, h⟩ := onT_ok h
    have hz : Nat.beq sz2 0 = false := by
      cases hh : Nat.beq sz2 0 with
      | false => rfl
      | true => rw [hh] at hz; cases hz
    cases p with
    | ptr n i j => exact ⟨rfl, _, _, fun _ => Q.fieldAddrV hi hx hf hj hz, h⟩
    | rp cs =>
      obtain ⟨cs2, hc, h⟩ := onO_ok h
      exact ⟨rfl, _, _, fun _ => Q.fieldAddrR hi hx hf hj hz hc, h⟩
  · obtain ⟨_, _, _, _, hi, h⟩ := onTy_ok h
    obtain ⟨fs, e0, h2⟩ := onSt_ok h
    clear h
    subst e0
    have h := h2
    clear h2
    obtain ⟨v, hv, h⟩ := onO_ok h
    split at h
    · obtain ⟨⟨off, u⟩, hf, h⟩ := onO_ok h
      obtain ⟨_, _, _, _, hj, h⟩ := onTy_ok h
      obtain ⟨r, hr, h⟩ := onO_ok h
      exact ⟨rfl, _, _, fun _ => Q.field hi hf hj hv hr, fV_ok (K := fun r => K r []) h⟩
    · exact h.elim
  · obtain ⟨_, _, _, _, hi, h⟩ := onTy_ok h
    obtain ⟨e, e0, h2⟩ := onSl_ok h
    clear h
    subst e0
    have h := h2
    clear h2
    obtain ⟨v, hv, h⟩ := onO_ok h
    obtain ⟨y, e0, h2⟩ := onOne_ok h
    clear h
    subst e0
    have h := h2
    clear h2
    obtain ⟨r, hr, h⟩ := idxW_ok hi hv h
    exact ⟨rfl, _, _, hr, h⟩
  · obtain ⟨_, _, _, _, hi, h⟩ := onTy_ok h
    obtain ⟨e, h2⟩ := onT_ok h
    clear h
    have e9 := isStrK_ok e
    subst e9
    obtain ⟨v, hv, h⟩ := onO_ok h2
    clear h2
    obtain ⟨a, e0, h2⟩ := onStr_ok h
    clear h
    subst e0
    have h := h2
    clear h2
    obtain ⟨_, i, hy, h0, b, hb, h⟩ := opInt_ok h
    exact ⟨rfl, _, _, fun _ => Q.idxS hi hv hy h0 hb, h⟩
  · obtain ⟨v, hv, h⟩ := onO_ok h
    obtain ⟨p, e0, h2⟩ := onPt_ok h
    clear h
    subst e0
    have h := h2
    clear h2
    exact ⟨rfl, _, _, fun _ => Q.nilC hv, h⟩
  · obtain ⟨v, hv, h⟩ := onO_ok h
    split at h
    · obtain ⟨y, hy, h⟩ := onO_ok h
      exact ⟨rfl, _, _, fun _ => Q.extract hv hy, fW_ok (K := fun y => K (.w y) []) h⟩
    · exact h.elim
  · obtain ⟨_, _, _, _, hi, h⟩ := onTy_ok h
    obtain ⟨v, hv, h⟩ := onO_ok h
    obtain ⟨y, e0, h2⟩ := onOne_ok h
    clear h
    subst e0
    have h := h2
    clear h2
    obtain ⟨r, hr, h⟩ := lenW_ok hi hv h
    exact ⟨rfl, _, _, hr, h⟩
  · obtain ⟨u, hu, h⟩ := onO_ok h
    obtain ⟨v, hv, h⟩ := onO_ok h
    obtain ⟨k, a, e0, h2⟩ := onInt_ok h
    clear h
    subst e0
    have h := h2
    clear h2
    obtain ⟨k2, b, e0, m, hm, h2⟩ := onInt_ok h
    clear h
    subst e0
    have h := h2
    clear h2
    exact ⟨rfl, _, _, fun _ => Q.maxI hu hv hm, h⟩
  · obtain ⟨u, hu, h⟩ := onO_ok h
    obtain ⟨v, hv, h⟩ := onO_ok h
    obtain ⟨k, a, e0, h2⟩ := onInt_ok h
    clear h
    subst e0
    have h := h2
    clear h2
    obtain ⟨k2, b, e0, m, hm, h2⟩ := onInt_ok h
    clear h
    subst e0
    have h := h2
    clear h2
    exact ⟨rfl, _, _, fun _ => Q.minI hu hv hm, h⟩
  · exact h.elim
end
end Go.Proofs.YtfokmnafgabdiaaGreatDoor.Eng
namespace Go.Proofs.YtfokmnafgabdiaaGreatDoor.Eng
open Go Go.RowKit
set_option linter.unusedVariables false
set_option linter.unusedSimpArgs false

def closeCW (hl : List (Nat × Root)) (x : V1) (K : C → Prop) : Prop := match x with
  | .c x => K x
  | .nil sz => K (.ro sz [])
  | .ref n off len _ => match lkR hl n with
    | .rows sz rs => Calc ((rs.drop off).take len) fun rs2 => K (.ro sz rs2)
    | .fro sz rs => Calc ((rs.drop off).take len) fun rs2 => K (.ro sz rs2)
    | _ => K .any
  | _ => K .any
theorem closeCW_ok {hl : List (Nat × Root)} {x : V1} {K : C → Prop} (h : closeCW hl x K) : K ((closeL hl x).getD .any) := by
  cases x with
  | c x => exact h
  | nil sz => exact h
  | ref n off len cap =>
    simp only [closeCW] at h
    simp only [closeL, roL]
    split at h
    · rename_i e; obtain ⟨y, e2, h⟩ := h; rw [e]; subst e2; exact h
    · rename_i e; obtain ⟨y, e2, h⟩ := h; rw [e]; subst e2; exact h
    · rename_i e1 e2
      cases hq : lkR hl n with
      | rows s r => exact absurd hq (e1 _ _)
      | fro s r => exact absurd hq (e2 _ _)
      | var c => exact h
      | dead => exact h
  | pt p => exact h
  | clo g c => exact h
def closeCsW (hl : List (Nat × Root)) : List V1 → (List C → Prop) → Prop
  | [], K => K []
  | x :: xs, K => closeCW hl x fun c => closeCsW hl xs fun cs => K (c :: cs)
theorem closeCsW_ok {hl : List (Nat × Root)} : ∀ {xs : List V1} {K : List C → Prop}, closeCsW hl xs K → K (xs.map fun x => (closeL hl x).getD .any)
  | [], K, h => h
  | x :: xs, K, h => closeCsW_ok (K := fun cs => K (_ :: cs)) (closeCW_ok (K := fun c => closeCsW hl xs fun cs => K (c :: cs)) h)
def closePtW (hl : List (Nat × Root)) (p : Pt) (K : List C → Prop) : Prop := match p with
  | .rp cells => K cells
  | .ptr n i j => match lkR hl n with
    | .var cells => onT (Nat.beq i 0) (onO (dropO j cells) fun cs => closeCsW hl cs K)
    | .rows _ rs => Find (rs[i]?) fun r => onO (dropO j r) K
    | _ => False
theorem closePtW_ok {hl : List (Nat × Root)} {p : Pt} {K : List C → Prop} (h : closePtW hl p K) : ∃ cs, closePL hl p = some cs ∧ K cs := by
  have hid : ∀ l : List C, l.map (fun x => (closeL hl (V1.c x)).getD .any) = l := fun l => by
    induction l with
    | nil => rfl
    | cons x l ih => simp only [List.map_cons, ih]; rfl
  cases p with
  | rp cells => exact ⟨_, by simp only [closePL, cellsL, Option.map_some, List.map_map]; exact congrArg some (hid cells), h⟩
  | ptr n i j =>
    simp only [closePtW] at h
    split at h
    · rename_i e
      obtain ⟨e1, h⟩ := onT_ok h
      obtain ⟨cs, hc, h⟩ := onO_ok h
      have e1 := beq_ok e1
      exact ⟨_, by simp only [closePL, cellsL, e, e1, if_true, Option.map_some, dropO_eq hc], closeCsW_ok h⟩
    · rename_i e
      obtain ⟨r, hr, h⟩ := h
      obtain ⟨cs, hc, h⟩ := onO_ok h
      exact ⟨cs, by simp only [closePL, cellsL, e, hr, Option.map_some, dropO_eq hc, List.map_map]; exact congrArg some (hid cs), h⟩
    · exact h.elim
def closePtsW (hl : List (Nat × Root)) : List Pt → (List (List C) → Prop) → Prop
  | [], K => K []
  | p :: ps, K => closePtW hl p fun c => closePtsW hl ps fun cs => K (c :: cs)
theorem closePtsW_ok {hl : List (Nat × Root)} : ∀ {ps : List Pt} {K : List (List C) → Prop}, closePtsW hl ps K → ∃ cs, mapO (closePL hl) ps = some cs ∧ K cs
  | [], K, h => ⟨[], rfl, h⟩
  | p :: ps, K, h => by
    obtain ⟨c, h1, h⟩ := closePtW_ok h
    obtain ⟨cs, h2, h⟩ := closePtsW_ok h
    exact ⟨c :: cs, by simp only [mapO, h1, h2], h⟩
def closeRoW1 (hl : List (Nat × Root)) (x : V1) (K : B1 → Prop) : Prop := match x with
  | .pt p => closePtW hl p fun cs => K (.rp cs)
  | .clo g caps => closePtsW hl caps fun cs => K (.clo g cs)
  | .c x => K (.b (.c x))
  | .nil sz => K (.b (.c (.ro sz [])))
  | .ref n off len _ => match lkR hl n with
    | .rows sz rs => Calc ((rs.drop off).take len) fun rs2 => K (.b (.c (.ro sz rs2)))
    | .fro sz rs => Calc ((rs.drop off).take len) fun rs2 => K (.b (.c (.ro sz rs2)))
    | _ => False
theorem closeRoW1_ok {hl : List (Nat × Root)} {x : V1} {K : B1 → Prop} (h : closeRoW1 hl x K) : ∃ b, closeRoL hl x = some b ∧ K b := by
  cases x with
  | pt p => obtain ⟨cs, h1, h⟩ := closePtW_ok h; exact ⟨_, by simp only [closeRoL, h1, Option.map_some], h⟩
  | clo g caps => obtain ⟨cs, h1, h⟩ := closePtsW_ok h; exact ⟨_, by simp only [closeRoL, h1], h⟩
  | c x => exact ⟨_, rfl, h⟩
  | nil sz => exact ⟨_, rfl, h⟩
  | ref n off len cap =>
    simp only [closeRoW1] at h
    split at h
    · rename_i e; obtain ⟨y, e2, h⟩ := h; exact ⟨_, by simp only [closeRoL, roL, e, e2], h⟩
    · rename_i e; obtain ⟨y, e2, h⟩ := h; exact ⟨_, by simp only [closeRoL, roL, e, e2], h⟩
    · exact h.elim
def closeRoWs1 (hl : List (Nat × Root)) : List V1 → (List B1 → Prop) → Prop
  | [], K => K []
  | x :: xs, K => closeRoW1 hl x fun c => closeRoWs1 hl xs fun cs => K (c :: cs)
theorem closeRoWs1_ok {hl : List (Nat × Root)} : ∀ {xs : List V1} {K : List B1 → Prop}, closeRoWs1 hl xs K → ∃ cs, mapO (closeRoL hl) xs = some cs ∧ K cs
  | [], K, h => ⟨[], rfl, h⟩
  | p :: ps, K, h => by
    obtain ⟨c, h1, h⟩ := closeRoW1_ok h
    obtain ⟨cs, h2, h⟩ := closeRoWs1_ok h
    exact ⟨c :: cs, by simp only [mapO, h1, h2], h⟩
def closeWsW (hl : List (Nat × Root)) : List W → (List BW → Prop) → Prop
  | [], K => K []
  | .one x :: xs, K => closeRoW1 hl x fun c => closeWsW hl xs fun cs => K (.one c :: cs)
  | .agg ys :: xs, K => closeRoWs1 hl ys fun c => closeWsW hl xs fun cs => K (.agg c :: cs)
theorem closeWsW_ok {hl : List (Nat × Root)} : ∀ {xs : List W} {K : List BW → Prop}, closeWsW hl xs K → ∃ cs, mapO (closeRoWL hl) xs = some cs ∧ K cs
  | [], K, h => ⟨[], rfl, h⟩
  | .one x :: xs, K, h => by
    obtain ⟨c, h1, h⟩ := closeRoW1_ok h
    obtain ⟨cs, h2, h⟩ := closeWsW_ok h
    exact ⟨_, by simp only [mapO, closeRoWL, h1, h2], h⟩
  | .agg ys :: xs, K, h => by
    obtain ⟨c, h1, h⟩ := closeRoWs1_ok h
    obtain ⟨cs, h2, h⟩ := closeWsW_ok h
    exact ⟨_, by simp only [mapO, closeRoWL, h1, h2], h⟩
def preW (E : Env) (N : Nat) (l : List (Nat × V)) (hl : List (Nat × Root)) (fo : Operand) (args : Array Operand) (tys : Array TypeId) (K : FuncId → List BW → Bool → Prop) : Prop :=
  onO (opdL E N l 0 fo) fun v => match v with
    | .w (.one (.clo f caps)) => onO (opdsL E N l tys.toList args.toList) fun vs => onO (wsOf vs) fun ws => onT (!(E.inl f) && !(E.roImp f)) (closeWsW hl (ws ++ caps.map (fun p => .one (.pt p))) fun bs => K f bs ((ws ++ caps.map (fun p => W.one (.pt p))).any wTouches))
    | _ => False
def backW (tch : Bool) (r : BV) (K : BV → Prop) : Prop := match tch with
  | false => K r
  | true => Need (r.untie = r ∧ r.tied = false) (K r)
theorem backW_ok {tch : Bool} {r : BV} {K : BV → Prop} (h : backW tch r K) : backV tch r = some r ∧ K r := by
  cases tch with
  | false => exact ⟨rfl, h⟩
  | true => exact ⟨backV_fix h.n.1 h.n.2, h.go⟩
def postW (tch : Bool) (r : BV) (nx : Nat) (K : V → List Root → Prop) : Prop := backW tch r fun r => match takeV nx r with
  | (v, rs) => fV v fun v => fRoots rs fun rs => K v rs
theorem callQ_ok {E : Env} {N : Nat} {l : List (Nat × V)} {hl : List (Nat × Root)} {nx : Nat} {ty : TypeId} {fo : Operand} {args : Array Operand} {tys : Array TypeId} {Qq : FuncId → List BW → Bool → Prop}
    (h : preW E N l hl fo args tys Qq) : loud E (T N l) (.call ⟨.value fo, args, tys⟩) = false ∧ ∃ f bs tch, Qq f bs tch ∧ ∀ (r : BV) (K : V → List Root → Prop), postW tch r nx K → ∃ v rs, (∀ call : CallF, call f bs = some r → evQ E call (T N l) (H hl) nx ty (.call ⟨.value fo, args, tys⟩) = some (v, rs)) ∧ K v rs := by
  obtain ⟨v, hf, h⟩ := onO_ok h
  split at h
  · rename_i f caps
    obtain ⟨vs, ha, h⟩ := onO_ok h
    obtain ⟨ws, hw, h⟩ := onO_ok h
    obtain ⟨e, h⟩ := onT_ok h
    obtain ⟨bs, hb, h⟩ := closeWsW_ok h
    simp only [Bool.and_eq_true, Bool.not_eq_true'] at e
    refine ⟨by rw [loud_T (fo := fo) (caps := caps) hf, e.1], f, bs, _, h, fun r K hp => ?_⟩
    obtain ⟨h1, h2⟩ := backW_ok hp
    generalize ht : takeV nx r = p at h2
    obtain ⟨v, rs⟩ := p
    have h2 := fRoots_ok (K := fun rs => K v rs) (fV_ok (K := fun v => fRoots rs fun rs => K v rs) h2)
    exact ⟨v, rs, fun call hc => Q.call_ hf ha hw rfl hb e.1 e.2 hc h1 (by simp only [takeL, cond_false, ht]), h2⟩
  · exact h.elim

def fCs : List C → (List C → Prop) → Prop
  | [], K => K []
  | c :: cs, K => fC c fun c => fCs cs fun cs => K (c :: cs)
theorem fCs_ok : ∀ {cs : List C} {K : List C → Prop}, fCs cs K → K cs
  | [], K, h => h
  | c :: cs, K, h => fCs_ok (K := fun cs => K (c :: cs)) (fC_ok (K := fun c => fCs cs fun cs => K (c :: cs)) h)
def fRows : List (List C) → (List (List C) → Prop) → Prop
  | [], K => K []
  | c :: cs, K => fCs c fun c => fRows cs fun cs => K (c :: cs)
theorem fRows_ok : ∀ {cs : List (List C)} {K : List (List C) → Prop}, fRows cs K → K cs
  | [], K, h => h
  | c :: cs, K, h => fRows_ok (K := fun cs => K (c :: cs)) (fCs_ok (K := fun c => fRows cs fun cs => K (c :: cs)) h)
def sealC (hl : List (Nat × Root)) (x : V1) (K : C → Prop) : Prop := match x with
  | .c x => K x
  | .nil sz => K (.ro sz [])
  | .ref n off len _ => match lkR hl n with
    | .rows sz rs => Calc ((rs.drop off).take len) fun rs2 => K (.ro sz rs2)
    | .fro sz rs => Calc ((rs.drop off).take len) fun rs2 => K (.ro sz rs2)
    | _ => False
  | _ => False
theorem sealC_ok {hl : List (Nat × Root)} {x : V1} {K : C → Prop} (h : sealC hl x K) : ∃ c, closeL hl x = some c ∧ K c := by
  cases x with
  | c x => exact ⟨_, rfl, h⟩
  | nil sz => exact ⟨_, rfl, h⟩
  | ref n off len cap =>
    simp only [sealC] at h
    split at h
    · rename_i e; obtain ⟨y, e2, h⟩ := h; exact ⟨_, by simp only [closeL, roL, e, e2], h⟩
    · rename_i e; obtain ⟨y, e2, h⟩ := h; exact ⟨_, by simp only [closeL, roL, e, e2], h⟩
    · exact h.elim
  | pt p => exact h.elim
  | clo g c => exact h.elim
def sealCs (hl : List (Nat × Root)) : List V1 → (List C → Prop) → Prop
  | [], K => K []
  | x :: xs, K => sealC hl x fun c => sealCs hl xs fun cs => K (c :: cs)
theorem sealCs_ok {hl : List (Nat × Root)} {h0 : List Root} (e : Lk h0 hl) : ∀ {xs : List V1} {K : List C → Prop}, sealCs hl xs K → ∃ cs, closeCs h0 xs = some cs ∧ K cs
  | [], K, h => ⟨[], rfl, h⟩
  | x :: xs, K, h => by
    obtain ⟨c, h1, h⟩ := sealC_ok h
    obtain ⟨cs, h2, h⟩ := sealCs_ok e h
    have h1' : closeC h0 x = some c := by
      rw [← h1]
      cases x with
      | ref n off len cap => simp only [closeC, closeL, roL, e n]; cases lkR hl n <;> rfl
      | _ => rfl
    exact ⟨c :: cs, by simp only [closeCs, mapO, h1'] at h2 ⊢; rw [h2], h⟩
def killL (hl : List (Nat × Root)) : List V1 → List (Nat × Root)
  | [] => hl
  | .ref n _ _ _ :: xs => killL ((n, .dead) :: hl) xs
  | .c _ :: xs => killL hl xs
  | .nil _ :: xs => killL hl xs
  | .pt _ :: xs => killL hl xs
  | .clo _ _ :: xs => killL hl xs
theorem killL_ok : ∀ {xs : List V1} {h0 : List Root} {hl : List (Nat × Root)}, Lk h0 hl → Lk (killV1s h0 xs) (killL hl xs)
  | [], h0, hl, e => e
  | x :: xs, h0, hl, e => by
    show Lk (killV1s (killV1 h0 x) xs) _
    cases x with
    | ref n off len cap => exact killL_ok (hl := (n, .dead) :: hl) fun m => by simp only [killV1, rget_put, lkR_cons, e m]
    | c _ => exact killL_ok e
    | nil _ => exact killL_ok e
    | pt _ => exact killL_ok e
    | clo _ _ => exact killL_ok e
def storeW (E : Env) (N : Nat) (l : List (Nat × V)) (hl : List (Nat × Root)) (t : TypeId) (x y : Operand) (K : List (Nat × Root) → Prop) : Prop :=
  onTy E t fun _ sz _ _ => opPt E N l x fun p => onO (opdL E N l t y) fun u => onO u.cells fun xs => onT (Nat.beq xs.length sz) (match p with
    | .ptr n i j => match lkR hl n with
      | .var cells => onT (Nat.beq i 0) (onO (splO cells j xs) fun cs2 => fV1s cs2 fun cs2 => K ((n, .var cs2) :: hl))
      | .rows s3 rs => sealCs hl xs fun cs => match lkR (killL hl xs) n with
        | .rows s4 rs4 => Find (rs4[i]?) fun row => onO (splO row j cs) fun row2 => fCs row2 fun row2 => Calc (rs4.set i row2) fun rs2 => K ((n, .rows s4 rs2) :: killL hl xs)
        | _ => False
      | _ => False
    | _ => False)
theorem storeW_ok {E : Env} {N : Nat} {l : List (Nat × V)} {hl : List (Nat × Root)} {nx lim : Nat} {t : TypeId} {x y : Operand} {K : List (Nat × Root) → Prop} {callH : CallH} (h : storeW E N l hl t x y K) :
    ∃ h2 hl2, evL E callH (T N l) (H hl) nx lim (.store t x y) = some (.tup [], h2, nx) ∧ Lk h2 hl2 ∧ K hl2 := by
  obtain ⟨_, sz, _, _, hi, h⟩ := onTy_ok h
  obtain ⟨p, hp, h⟩ := opPt_ok h
  obtain ⟨u, hu, h⟩ := onO_ok h
  obtain ⟨xs, hx, h⟩ := onO_ok h
  obtain ⟨e, h⟩ := onT_ok h
  have e := beq_ok e
  cases p with
  | rp cs => exact h.elim
  | ptr n i j =>
    simp only at h
    split at h
    · rename_i cells hr
      obtain ⟨e0, h⟩ := onT_ok h
      obtain ⟨cs2, hs, h⟩ := onO_ok h
      have h := fV1s_ok (K := fun cs2 => K ((n, .var cs2) :: hl)) h
      refine ⟨put (H hl) n (.var cs2), _, ?_, fun m => (like_put hl n _ m).trans (rget_H _ _), h⟩
      simp only [evL, hi, opd_T hp, opd_T hu, Option.bind_some, vone, ptrOf, hx, e, if_true, storeAt, rget_H, hr, splO_eq hs, Option.map_some, beq_ok e0]
    · rename_i s3 rs hr
      obtain ⟨cs, h1, h⟩ := sealCs_ok (rget_H hl) h
      have hk := killL_ok (xs := xs) (rget_H hl)
      split at h
      · rename_i s4 rs4 hr4
        obtain ⟨row, hrow, h⟩ := h
        obtain ⟨row2, hs, h⟩ := onO_ok h
        obtain ⟨rs2, hrs, h⟩ := fCs_ok (K := fun row2 => Calc (rs4.set i row2) fun rs2 => K ((n, .rows s4 rs2) :: killL hl xs)) h
        refine ⟨put (killV1s (H hl) xs) n (.rows s4 rs2), _, ?_, fun m => ?_, h⟩
        · simp only [evL, hi, opd_T hp, opd_T hu, Option.bind_some, vone, ptrOf, hx, e, if_true, storeAt, rget_H, hr, h1, hk n, hr4, hrow, splO_eq hs, Option.map_some, hrs]
        · rw [rget_put, lkR_cons, hk m]
      · exact h.elim
    · exact h.elim
def fillW (hl : List (Nat × Root)) (sz : Nat) (rows : List (List C)) : List (Nat × V) → (List (List C) → List (Nat × Root) → Prop) → Prop
  | [], K => K rows hl
  | (i, v) :: rest, K => onO v.cells fun xs => sealCs hl xs fun cs => onT (Nat.beq cs.length sz && Nat.blt i rows.length) (fillW (killL hl xs) sz (rows.set i cs) rest K)
theorem fillW_ok {sz : Nat} : ∀ {ps : List (Nat × V)} {hl : List (Nat × Root)} {h0 : List Root} {rows : List (List C)} {K : List (List C) → List (Nat × Root) → Prop}, Lk h0 hl → fillW hl sz rows ps K → ∃ rs h2 hl2, fillRowsL h0 sz rows ps = some (rs, h2) ∧ Lk h2 hl2 ∧ K rs hl2
  | [], hl, h0, rows, K, e, h => ⟨_, _, _, rfl, e, h⟩
  | (i, v) :: ps, hl, h0, rows, K, e, h => by
    obtain ⟨xs, hx, h⟩ := onO_ok h
    obtain ⟨cs, h1, h⟩ := sealCs_ok e h
    obtain ⟨e1, h⟩ := onT_ok h
    simp only [Bool.and_eq_true] at e1
    obtain ⟨rs, h2, hl2, g1, g2, g3⟩ := fillW_ok (killL_ok (xs := xs) e) h
    exact ⟨rs, h2, hl2, by simp only [fillRowsL, hx, h1, beq_ok e1.1, blt_ok e1.2, and_self, if_true, g1], g2, g3⟩
def refIn (l : List (Nat × V)) (x : Operand) : Bool := match x with
  | .tmp t => hasRef (lk l t)
  | _ => false
def bsliceW (E : Env) (N : Nat) (l : List (Nat × V)) (hl : List (Nat × Root)) (nx : Nat) (t : TypeId) (len : Nat) (parts : Array (Nat × Operand)) (K : V → List (Nat × Root) → Prop) : Prop :=
  onTy E t fun kd _ _ _ => onSl kd fun e => onTy E e fun _ sz _ z => onT (Nat.ble (len * sz) (2 ^ 24) && parts.toList.all fun p => match p.2 with | .tmp t => Nat.blt t N | _ => true) (onO (mapO quietC z) fun zc => onO (opdsL E N l (parts.toList.map fun _ => e) (parts.toList.map (·.2))) fun vs =>
    match parts.toList.any fun p => refIn l p.2 with
    | true => fillW hl sz (List.replicate len zc) ((parts.toList.map (·.1)).zip vs) fun rows hl2 => fRows rows fun rows => K (vone (.ref nx 0 len none)) ((nx, .rows sz rows) :: hl2)
    | false => onO (fillRows sz (List.replicate len zc) ((parts.toList.map (·.1)).zip vs)) fun rows => fRows rows fun rows => K (vone (.ref nx 0 len none)) ((nx, .rows sz rows) :: hl))
theorem zip_map2 {α β γ : Type} (f : α → β) (g : α → γ) : ∀ l : List α, (l.map f).zip (l.map g) = l.map fun x => (f x, g x)
  | [] => rfl
  | x :: l => by simp [zip_map2 f g l]
section
variable {P : Program} {E : Env} {cx : Cx} {k k' : List Fr} {nx nx1 nx2 : Nat} {φ : St → Nat → Prop} {c d : Code}
  {N : Nat} {l : List (Nat × V)} {hl : List (Nat × Root)} {ops : Array Oper} {j : Nat} {rest : List Oper} {op : Op} {ty : TypeId} {pos : String} {aft : Array Edge} {g : Option (Nat × Bool)} {t : TypeId} {v : V}
theorem RestO.qd {call : CallF} {callH : CallH} (O : Ok P E call callH) {dst : Option Nat} {rs : List Root} (hg : gdL ops N l g = some true) (hnl : loud E (T N l) op = false) (he : evQ E call (T N l) (H hl) nx ty op = some (v, rs)) (hlim : nx + rs.length ≤ cx.lim) (h : RestO P cx ops (j + 1) rest k (X N (addT dst v l) (putsL hl nx rs)) (nx + rs.length) φ) :
    RestO P cx ops j (⟨dst, op, ty, pos, aft, g⟩ :: rest) k (X N l hl) nx φ := by
  refine RestO.cons O (S1 := ⟨setTmp (T N l) dst v, puts (H hl) nx rs⟩) (nx1 := nx + rs.length) ?_ (RestO.like (S1 := X N (addT dst v l) (putsL hl nx rs)) ⟨?_, fun n => like_puts rs _ hl nx n fun _ => rfl⟩ h)
  · unfold guarded
    rw [show (X N l hl).tmps = T N l from rfl, gd_T (o := ⟨dst, op, ty, pos, aft, g⟩) hg]
    simp only [opStep]
    rw [show (X N l hl).tmps = T N l from rfl, show (X N l hl).heap = H hl from rfl, hnl, he]
    simp only [Bool.false_eq_true, if_false, hlim, if_true]
  · cases dst with
    | none => rfl
    | some d => exact T_set N l d v
theorem loud_any {t : TypeId} {len : Nat} {parts : Array (Nat × Operand)} (hp : (parts.toList.all fun p => match p.2 with | .tmp t => Nat.blt t N | _ => true) = true) : loud E (T N l) (.buildSlice t len parts) = parts.toList.any fun p => refIn l p.2 := by
  simp only [loud]
  generalize parts.toList = ps at hp ⊢
  induction ps with
  | nil => rfl
  | cons p ps ih =>
    simp only [List.all_cons, Bool.and_eq_true] at hp
    simp only [List.any_cons, ih hp.2]
    congr 1
    obtain ⟨i, x⟩ := p
    cases x with
    | tmp m =>
      have hlt := blt_ok hp.1
      simp only [refIn, List.getD, T_get hlt, Option.getD_some]
    | _ => rfl
theorem bsliceW_ok {dst : Option Nat} {len : Nat} {parts : Array (Nat × Operand)} {K : V → List (Nat × Root) → Prop} (W : Wd P E) (hg : gdL ops N l g = some true) (hlim : nx + 1 ≤ cx.lim)
    (h : bsliceW E N l hl nx t len parts K) (go : ∀ v hl2, K v hl2 → RestO P cx ops (j + 1) rest k (X N (addT dst v l) hl2) (nx + 1) φ) : RestO P cx ops j (⟨dst, .buildSlice t len parts, ty, pos, aft, g⟩ :: rest) k (X N l hl) nx φ := by
  obtain ⟨_, _, _, _, hi, h⟩ := onTy_ok h
  obtain ⟨e, e0, h2⟩ := onSl_ok h
  clear h
  subst e0
  obtain ⟨_, sz, _, z, hj, h⟩ := onTy_ok h2
  clear h2
  obtain ⟨e1, h⟩ := onT_ok h
  obtain ⟨zc, hz, h⟩ := onO_ok h
  obtain ⟨vs, ho, h⟩ := onO_ok h
  simp only [Bool.and_eq_true] at e1
  have hle : len * sz ≤ 2 ^ 24 := Nat.le_of_ble_eq_true e1.1
  obtain ⟨_, ho⟩ := opds_T ho
  rw [zip_map2] at ho
  have hl1 := loud_any (E := E) (l := l) (t := t) (len := len) e1.2
  split at h
  · rename_i hr
    rw [hr] at hl1
    obtain ⟨rs, h2, hl2, g1, g2, g3⟩ := fillW_ok (rget_H hl) h
    have g3 := fRows_ok (K := fun rows => K (vone (.ref nx 0 len none)) ((nx, .rows sz rows) :: hl2)) g3
    refine RestO.w W.ok (v := vone (.ref nx 0 len none)) (h2 := put h2 nx (.rows sz rs)) (hl2 := (nx, .rows sz rs) :: hl2) hg hl1 ?_ (Nat.le_succ _) hlim (fun m => by rw [rget_put, lkR_cons, g2 m]) (go _ _ g3)
    simp only [evL, hi, hj, hz]
    rw [if_pos hle, ho]
    simp only [g1, Option.map_some]
  · rename_i hr
    rw [hr] at hl1
    obtain ⟨rs, h1, h⟩ := onO_ok h
    have g3 := fRows_ok (K := fun rows => K (vone (.ref nx 0 len none)) ((nx, .rows sz rows) :: hl)) h
    refine RestO.qd W.ok (v := vone (.ref nx 0 len none)) (rs := [.rows sz rs]) hg hl1 ?_ hlim (go _ _ g3)
    simp only [evQ, hi, hj, hz]
    rw [if_pos hle, ho]
    simp only [h1, Option.map_some]
theorem appAny (W : Wd P E) {x y : Operand} {dst : Nat} {sz by_ sz2 by2 : Nat} {z zu z2 : List V1} {kd2 : TK} {u e e2 : TypeId} {r0 n0 : Nat} {cap : Option Nat} {y1 : V1} {s3 s4 n : Nat} {rs new : List (List C)} (hg : gdL ops N l g = some true) (hi : E.ty t = some ⟨.slice e, sz, by_, z⟩) (hu : E.ty u = some ⟨.slice e2, sz, by_, zu⟩) (hj : E.ty e = some ⟨kd2, sz2, by2, z2⟩) (hx : opdL E N l t x = some (vone (.ref r0 0 n0 cap))) (hq : lkR hl r0 = .rows s4 rs) (hy : opdL E N l u y = some (vone y1)) (hr : rowsL hl y1 = some (s3, new)) (hs : s3 = sz2) (hs4 : s4 = sz2) (hb : Nat.ble by2 1024 = true) (hn0 : rs.length = n0) (hlen : n0 + new.length ≤ mostRows) (hn : n0 + new.length = n) (hlim : nx + 1 ≤ cx.lim)
    (h : RestO P cx ops (j + 1) rest k (X N ((dst, vone (.ref nx 0 n none)) :: l) ((nx, .rows sz2 (rs ++ new)) :: (r0, .dead) :: hl)) (nx + 1) φ) : RestO P cx ops j (⟨some dst, .call ⟨.builtin .append, #[x, y], #[t, u]⟩, ty, pos, aft, g⟩ :: rest) k (X N l hl) nx φ := by
  have hb := Nat.le_of_ble_eq_true hb
  subst hs hn hn0 hs4
  have key : ∃ h2, appendTo E (H hl) nx e (.ref r0 0 rs.length cap) y1 = some (vone (.ref nx 0 (rs.length + new.length) none), h2) ∧ ∃ hl2, Lk h2 hl2 ∧ ∀ m, lkR hl2 m = lkR ((nx, .rows s4 (rs ++ new)) :: (r0, .dead) :: hl) m ∨ lkR ((nx, .rows s4 (rs ++ new)) :: (r0, .dead) :: hl) m = .dead := by
    refine ⟨put (grownFrom (H hl) r0 cap (rs.length + new.length)) nx (.rows s4 (rs ++ new)), ?_, ?_⟩
    · simp only [appendTo, hj, rows_H, hr, true_or, if_true, appendRows, hb, rget_H, hq, hlen, and_self, List.drop_zero, List.take_length]
    · refine ⟨(nx, .rows s4 (rs ++ new)) :: (match cap with | some q => if q < rs.length + new.length then hl else (r0, .dead) :: hl | none => (r0, .dead) :: hl), fun m => ?_, fun m => ?_⟩
      · unfold grownFrom
        cases cap with
        | none => simp only [rget_put, lkR_cons, rget_H]
        | some q =>
          simp only
          split <;> simp only [rget_put, lkR_cons, rget_H]
      · cases cap with
        | none => exact .inl rfl
        | some q =>
          simp only
          split
          · simp only [lkR_cons]; split
            · exact .inl rfl
            · split
              · exact .inr rfl
              · exact .inl rfl
          · exact .inl rfl
  obtain ⟨h2, hap, hl2, hk, hd⟩ := key
  refine RestO.w W.ok (dst := some dst) (v := vone (.ref nx 0 (rs.length + new.length) none)) (h2 := h2) (hl2 := hl2) hg rfl ?_ (Nat.le_succ _) hlim hk ?_
  · simp only [evL, hi, hu, opd_T hx, opd_T hy, vone, hap, Option.map_some]
  · refine fun hd' B hB Q K σ A a w R hkk hqq => ?_
    have R2 : ∃ A2, RS B K σ A2 (X N ((dst, vone (.ref nx 0 (rs.length + new.length) none)) :: l) ((nx, .rows s4 (rs ++ new)) :: (r0, .dead) :: hl)) a w := by
      have := R.shutBy (L := fun m => lkR hl2 m ≠ lkR ((nx, .rows s4 (rs ++ new)) :: (r0, .dead) :: hl) m) (h' := H ((nx, .rows s4 (rs ++ new)) :: (r0, .dead) :: hl)) fun m => by
        by_cases e0 : lkR hl2 m = lkR ((nx, .rows s4 (rs ++ new)) :: (r0, .dead) :: hl) m
        · exact .inl ⟨fun h => h e0, by rw [rget_H]; exact e0.symm.trans (rget_H hl2 m).symm⟩
        · rcases hd m with e | e
          · exact absurd e e0
          · exact .inr ⟨e0, by rw [rget_H]; exact e⟩
      exact ⟨_, this⟩
    obtain ⟨A2, R2⟩ := R2
    exact h hd' B hB Q K σ A2 a w R2 hkk hqq
def appW (E : Env) (N : Nat) (l : List (Nat × V)) (hl : List (Nat × Root)) (nx : Nat) (x y : Operand) (t u : TypeId) (K : V → List (Nat × Root) → Prop) : Prop :=
  onTy E t fun kd sz by_ z => onSl kd fun e => onTy E u fun kd2 sz2 by2 z2 => onSl kd2 fun e2 => onTy E e fun _ se be _ => onT (Nat.ble be 1024 && Nat.beq sz sz2 && Nat.beq by_ by2) (onO (opdL E N l t x) fun v => onOne v fun y0 => onO (opdL E N l u y) fun v1 => onOne v1 fun y1 => onRows hl y1 fun s3 new => onT (Nat.beq s3 se) (match y0 with
    | .nil _ => Need (new.length ≤ mostRows) (K (vone (.ref nx 0 new.length none)) ((nx, .rows se new) :: hl))
    | .ref r0 off n0 _ => match lkR hl r0 with
      | .rows s4 rs => onT (Nat.beq s4 se && Nat.beq off 0) (Need (rs.length = n0 ∧ n0 + new.length ≤ mostRows) (Calc (rs ++ new) fun rs2 => K (vone (.ref nx 0 rs2.length none)) ((nx, .rows se rs2) :: (r0, .dead) :: hl)))
      | _ => False
    | _ => False))
theorem appW_ok {dst : Nat} {x y : Operand} {t u : TypeId} {K : V → List (Nat × Root) → Prop} (W : Wd P E) (hg : gdL ops N l g = some true) (hlim : nx + 1 ≤ cx.lim)
    (h : appW E N l hl nx x y t u K) (go : ∀ v hl2, K v hl2 → RestO P cx ops (j + 1) rest k (X N ((dst, v) :: l) hl2) (nx + 1) φ) : RestO P cx ops j (⟨some dst, .call ⟨.builtin .append, #[x, y], #[t, u]⟩, ty, pos, aft, g⟩ :: rest) k (X N l hl) nx φ := by
  obtain ⟨_, sz, by_, z, hi, h⟩ := onTy_ok h
  obtain ⟨e, e0, h2⟩ := onSl_ok h
  clear h
  subst e0
  obtain ⟨_, sz2, by2, z2, hu, h⟩ := onTy_ok h2
  clear h2
  obtain ⟨e2, e0, h2⟩ := onSl_ok h
  clear h
  subst e0
  obtain ⟨_, se, be, ze, hj, h⟩ := onTy_ok h2
  clear h2
  obtain ⟨e1, h⟩ := onT_ok h
  simp only [Bool.and_eq_true] at e1
  have q1 := beq_ok e1.1.2
  have q2 := beq_ok e1.2
  rw [← q1, ← q2] at hu
  obtain ⟨v, hv, h⟩ := onO_ok h
  obtain ⟨y0, e0, h2⟩ := onOne_ok h
  clear h
  subst e0
  obtain ⟨v1, hv1, h⟩ := onO_ok h2
  clear h2
  obtain ⟨y1, e0, h2⟩ := onOne_ok h
  clear h
  subst e0
  obtain ⟨s3, new, hr, h⟩ := onRows_ok h2
  clear h2
  obtain ⟨e3, h⟩ := onT_ok h
  have e3 := beq_ok e3
  split at h
  · obtain ⟨hn, h⟩ := h
    have := go _ _ h
    subst e3
    have hb := Nat.le_of_ble_eq_true e1.1.1
    refine RestO.w W.ok (dst := some dst) (h2 := put (H hl) nx (.rows s3 new)) hg rfl ?_ (Nat.le_succ _) hlim (fun m => (like_put hl nx _ m).trans (rget_H _ _)) this
    simp only [evL, hi, hu, opd_T hv, opd_T hv1, vone, appendTo, hj, rows_H, hr, true_or, if_true, appendRows, hb, hn, Option.map_some]
  · split at h
    · rename_i hq
      obtain ⟨e4, h⟩ := onT_ok h
      simp only [Bool.and_eq_true] at e4
      have q4 := beq_ok e4.2
      rw [q4] at hv
      obtain ⟨hn, rs2, hrs, h⟩ := h
      have hg0 := go _ _ h
      subst hrs
      have e5 := beq_ok e4.1
      rw [List.length_append, hn.1] at hg0
      exact appAny W hg hi hu hj hv hq hv1 hr e3 e5 e1.1.1 hn.1 hn.2 rfl hlim hg0
    · exact h.elim
  · exact h.elim
end
end Go.Proofs.YtfokmnafgabdiaaGreatDoor.Eng
namespace Go.Proofs.YtfokmnafgabdiaaGreatDoor.Eng
open Go Go.RowKit
set_option linter.unusedVariables false
set_option linter.unusedSimpArgs false

abbrev SP := List (Nat × V) → List (Nat × Root) → Nat → Prop
def gW (ops : Array Oper) (N : Nat) (l : List (Nat × V)) (g : Option (Nat × Bool)) (yes no : List (Nat × V) → Prop) : Prop := match g with
  | none => yes l
  | some (j, want) => match (ops[j]?).bind (·.dst) with
    | none => no l
    | some d => onT (Nat.blt d N) (match lk l d with
      | .w (.one (.c (.lit (.bool b)))) => IfB b (match want with | true => yes ((d, vlit (.bool true)) :: l) | false => no ((d, vlit (.bool true)) :: l)) (match want with | true => no ((d, vlit (.bool false)) :: l) | false => yes ((d, vlit (.bool false)) :: l))
      | .tup [] => no l
      | _ => False)
theorem T_same {N : Nat} {l : List (Nat × V)} {d : Nat} {v : V} (h : lk l d = v) : T N ((d, v) :: l) = T N l := by
  subst h
  simp only [T]
  apply List.map_congr_left
  intro n _
  simp only [lk]
  cases hb : Nat.beq d n with
  | true => rw [Nat.eq_of_beq_eq_true hb]; rfl
  | false => rfl
theorem gW_ok {ops : Array Oper} {N : Nat} {l : List (Nat × V)} {g : Option (Nat × Bool)} {yes no : List (Nat × V) → Prop} (h : gW ops N l g yes no) :
    ∃ l', T N l' = T N l ∧ ((gdL ops N l' g = some true ∧ yes l') ∨ (gdL ops N l' g = some false ∧ no l')) := by
  unfold gW at h
  split at h
  · exact ⟨l, rfl, .inl ⟨rfl, h⟩⟩
  · rename_i j want
    split at h
    · rename_i hd; exact ⟨l, rfl, .inr ⟨by simp only [gdL, hd], h⟩⟩
    · rename_i d hd
      obtain ⟨e, h⟩ := onT_ok h
      split at h
      · rename_i b hb
        have hk : ∀ p, lk ((d, vlit (.bool p)) :: l) d = vlit (.bool p) := fun p => by simp [lk, Nat.beq_refl]
        cases b with
        | true =>
          have h := h.t rfl
          refine ⟨_, T_same hb, ?_⟩
          cases want with
          | true => exact .inl ⟨by simp only [gdL, hd, e, cond_true]; simp [lk, Nat.beq_refl], h⟩
          | false => exact .inr ⟨by simp only [gdL, hd, e, cond_true]; simp [lk, Nat.beq_refl], h⟩
        | false =>
          have h := h.f rfl
          refine ⟨_, T_same hb, ?_⟩
          cases want with
          | true => exact .inr ⟨by simp only [gdL, hd, e, cond_true]; simp [lk, Nat.beq_refl], h⟩
          | false => exact .inl ⟨by simp only [gdL, hd, e, cond_true]; simp [lk, Nat.beq_refl], h⟩
      · rename_i hb; exact ⟨l, rfl, .inr ⟨by simp only [gdL, hd, e, cond_true, hb], h⟩⟩
      · exact h.elim
def errW (P : Program) (v : V) (bo : BinOp) (t : TypeId) (K : V → Prop) : Prop := match v with
  | .w (.one (.c (.lit .nilIface))) => Need (∃ ms, P.underlying t = some (.interface ms)) (match bo with | .eql => K (vlit (.bool true)) | .neq => K (vlit (.bool false)) | _ => False)
  | .w (.one (.c .err)) => Need (∃ ms, P.underlying t = some (.interface ms)) (match bo with | .eql => K (vlit (.bool false)) | .neq => K (vlit (.bool true)) | _ => False)
  | _ => False
def addK (dst : Option Nat) (v : V) (l : List (Nat × V)) (K : List (Nat × V) → Prop) : Prop := match dst with
  | some d => K ((d, v) :: l)
  | none => K l
theorem addK_ok {dst : Option Nat} {v : V} {l : List (Nat × V)} {K : List (Nat × V) → Prop} (h : addK dst v l K) : K (addT dst v l) := by cases dst <;> exact h
def bump (rs : List Root) (nx lim : Nat) (hl : List (Nat × Root)) (K : List (Nat × Root) → Nat → Prop) : Prop := match rs with
  | [] => onT (Nat.ble nx lim) (K hl nx)
  | [r] => onT (Nat.ble (nx + 1) lim) (fNat (nx + 1) fun m => K ((nx, r) :: hl) m)
  | rs => onT (Nat.ble (nx + rs.length) lim) (fNat (nx + rs.length) fun m => K (putsL hl nx rs) m)
theorem bump_ok {rs : List Root} {nx lim : Nat} {hl : List (Nat × Root)} {K : List (Nat × Root) → Nat → Prop} (h : bump rs nx lim hl K) : nx + rs.length ≤ lim ∧ K (putsL hl nx rs) (nx + rs.length) := by
  unfold bump at h
  split at h
  · obtain ⟨h1, h⟩ := onT_ok h; exact ⟨Nat.le_of_ble_eq_true h1, h⟩
  · rename_i r
    obtain ⟨h1, h⟩ := onT_ok h; exact ⟨Nat.le_of_ble_eq_true h1, fNat_ok (K := fun m => K ((nx, r) :: hl) m) h⟩
  · obtain ⟨h1, h⟩ := onT_ok h; exact ⟨Nat.le_of_ble_eq_true h1, fNat_ok (K := fun m => K (putsL hl nx _) m) h⟩
def stepW (P : Program) (E : Env) (cx : Cx) (N : Nat) (l : List (Nat × V)) (hl : List (Nat × Root)) (nx : Nat) (dst : Option Nat) (ty : TypeId) (op : Op) (Raw : Prop) (K : SP) : Prop := match op with
  | .store t x y => onT (Nat.ble nx cx.lim) (storeW E N l hl t x y fun hl2 => addK dst (.tup []) l fun l => K l hl2 nx)
  | .buildSlice t len parts => onT (Nat.ble (nx + 1) cx.lim) (bsliceW E N l hl nx t len parts fun v hl2 => fNat (nx + 1) fun m => addK dst v l fun l => K l hl2 m)
  | .call ⟨.builtin .append, ⟨[x, y]⟩, ⟨[t, u]⟩⟩ => match dst with
    | some d => onT (Nat.ble (nx + 1) cx.lim) (appW E N l hl nx x y t u fun v hl2 => fNat (nx + 1) fun m => K ((d, v) :: l) hl2 m)
    | none => False
  | .call ⟨.value fo, args, tys⟩ => onO (opdL E N l 0 fo) fun v => match v with
    | .w (.one (.clo f _)) => match E.inl f with
      | true => RawW Raw
      | false => preW E N l hl fo args tys fun f bs tch => CallW P f bs fun r => postW tch r nx fun v rs => bump rs nx cx.lim hl fun hl nx => addK dst v l fun l => K l hl nx
    | _ => False
  | .binOp bo t x (.const .nilIface) yt => match dst with
    | some d => onO (opdL E N l t x) fun v => errW P v bo t fun r => K ((d, r) :: l) hl nx
    | none => False
  | .call ⟨.builtin .copy, _, _⟩ => RawW Raw
  | .call ⟨.builtin .clear, _, _⟩ => RawW Raw
  | .call ⟨.builtin .append, _, _⟩ => RawW Raw
  | op => qW E N l hl nx ty op fun v rs => bump rs nx cx.lim hl fun hl nx => addK dst v l fun l => K l hl nx
section
variable {P : Program} {E : Env} {cx : Cx} {k k' : List Fr} {nx nx1 nx2 : Nat} {φ : St → Nat → Prop} {c d : Code}
  {N : Nat} {l : List (Nat × V)} {hl : List (Nat × Root)} {ops : Array Oper} {j : Nat} {rest : List Oper} {op : Op} {ty : TypeId} {pos : String} {aft : Array Edge} {g : Option (Nat × Bool)} {t : TypeId} {v : V}
theorem errW_ok {dst : Nat} {bo : BinOp} {x : Operand} {yt : TypeId} {K : SP} (hg : gdL ops N l g = some true) (hv : opdL E N l t x = some v) (h : errW P v bo t fun r => K ((dst, r) :: l) hl nx)
    (go : ∀ l hl nx, K l hl nx → RestO P cx ops (j + 1) rest k (X N l hl) nx φ) : RestO P cx ops j (⟨some dst, .binOp bo t x (.const .nilIface) yt, ty, pos, aft, g⟩ :: rest) k (X N l hl) nx φ := by
  unfold errW at h
  split at h
  · obtain ⟨⟨ms, hu⟩, h⟩ := h
    cases bo with
    | eql => exact O.noErr (E := E) hu hg hv rfl (go _ _ _ h)
    | neq => exact O.noErr (E := E) hu hg hv rfl (go _ _ _ h)
    | _ => exact h.elim
  · obtain ⟨⟨ms, hu⟩, h⟩ := h
    have hx : ∀ B K σ A a w, RS B K σ A (X N l hl) a w → ∃ te ve, a.eval x = .iface te ve := fun B K σ A a w R => RC.err_iff.1 (opd_val R hv)
    cases bo with
    | eql => exact O.anErr hu hg hx rfl (go _ _ _ h)
    | neq => exact O.anErr hu hg hx rfl (go _ _ _ h)
    | _ => exact h.elim
  · exact h.elim
theorem stepW_ok {dst : Option Nat} {K : SP} (W : Wd P E) (hg : gdL ops N l g = some true) (h : stepW P E cx N l hl nx dst ty op (RestO P cx ops j (⟨dst, op, ty, pos, aft, g⟩ :: rest) k (X N l hl) nx φ) K)
    (go : ∀ l hl nx, K l hl nx → RestO P cx ops (j + 1) rest k (X N l hl) nx φ) : RestO P cx ops j (⟨dst, op, ty, pos, aft, g⟩ :: rest) k (X N l hl) nx φ := by
  have quiet : (qW E N l hl nx ty op fun v rs => bump rs nx cx.lim hl fun hl nx => addK dst v l fun l => K l hl nx) → RestO P cx ops j (⟨dst, op, ty, pos, aft, g⟩ :: rest) k (X N l hl) nx φ := fun h => by
    obtain ⟨h1, v, rs, h2, h3⟩ := qW_ok h
    obtain ⟨h3, h4⟩ := bump_ok h3
    exact RestO.qd W.ok hg h1 (h2 _) h3 (go _ _ _ (addK_ok (K := fun l => K l _ _) h4))
  unfold stepW at h
  split at h
  · obtain ⟨h1, h⟩ := onT_ok h
    obtain ⟨h2, hl2, g1, g2, g3⟩ := storeW_ok (nx := nx) (lim := cx.lim) (callH := callH0) h
    exact RestO.w W.ok hg rfl g1 (Nat.le_refl _) (Nat.le_of_ble_eq_true h1) g2 (go _ _ _ (addK_ok (K := fun l => K l _ _) g3))
  · obtain ⟨h1, h⟩ := onT_ok h
    exact bsliceW_ok W hg (Nat.le_of_ble_eq_true h1) h fun v hl2 hk => go _ _ _ (addK_ok (K := fun l => K l hl2 _) (fNat_ok (K := fun m => addK dst v l fun l => K l hl2 m) hk))
  · split at h
    · obtain ⟨h1, h⟩ := onT_ok h
      exact appW_ok W hg (Nat.le_of_ble_eq_true h1) h fun v hl2 hk => go _ _ _ (fNat_ok (K := fun m => K _ hl2 m) hk)
    · exact h.elim
  · obtain ⟨v, hv, h⟩ := onO_ok h
    split at h
    · split at h
      · exact h.of
      · obtain ⟨h1, f, bs, tch, h2, h3⟩ := callQ_ok (ty := ty) (nx := nx) h
        obtain ⟨r, hr, h⟩ := h2
        obtain ⟨v, rs, h4, h5⟩ := h3 r _ h
        obtain ⟨h5, h6⟩ := bump_ok h5
        exact RestO.qd (W.ok1 hr) hg h1 (h4 _ (one_self f bs r)) h5 (go _ _ _ (addK_ok (K := fun l => K l _ _) h6))
    · exact h.elim
  · split at h
    · obtain ⟨v, hv, h⟩ := onO_ok h
      exact errW_ok hg hv h go
    · exact h.elim
  · exact h.of
  · exact h.of
  · exact h.of
  · exact quiet h
noncomputable def opsW (P : Program) (E : Env) (cx : Cx) (k : List Fr) (φ : St → Nat → Prop) (ops : Array Oper) (N : Nat) (K : SP) (os : List Oper) : Nat → SP :=
  @List.rec Oper (fun _ => Nat → SP) (fun _ => K) (fun o rest ih j l hl nx => gW ops N l o.guard (fun l => stepW P E cx N l hl nx o.dst o.type o.op (RestO P cx ops j (o :: rest) k (X N l hl) nx φ) (ih (j + 1)))
      (fun l => addK o.dst (.tup []) l fun l => ih (j + 1) l hl nx)) os
theorem X_eq {l' : List (Nat × V)} (e : T N l' = T N l) : X N l' hl = X N l hl := by unfold X; rw [e]
theorem opsW_ok {K : SP} (W : Wd P E) (hK : ∀ l hl nx, K l hl nx → Rest P cx k (X N l hl) nx φ) : ∀ (os : List Oper) (j : Nat) (l : List (Nat × V)) (hl : List (Nat × Root)) (nx : Nat), opsW P E cx k φ ops N K os j l hl nx → RestO P cx ops j os k (X N l hl) nx φ := by
  intro os
  induction os with
  | nil => intro j l hl nx h; exact RestO.nil (hK _ _ _ h)
  | cons o rest ih =>
    intro j l hl nx h
    obtain ⟨dst, op, ty, pos, aft, g⟩ := o
    have h : gW ops N l g (fun l => stepW P E cx N l hl nx dst ty op (RestO P cx ops j (⟨dst, op, ty, pos, aft, g⟩ :: rest) k (X N l hl) nx φ) (opsW P E cx k φ ops N K rest (j + 1))) (fun l => addK dst (.tup []) l fun l => opsW P E cx k φ ops N K rest (j + 1) l hl nx) := h
    obtain ⟨l', e, h⟩ := gW_ok h
    rw [← X_eq (hl := hl) e]
    rcases h with ⟨hg, h⟩ | ⟨hg, h⟩
    · exact stepW_ok W hg h (ih (j + 1))
    · have := ih (j + 1) _ _ _ (addK_ok (K := fun l => opsW P E cx k φ ops N K rest (j + 1) l hl nx) h)
      cases dst with
      | none => exact RestO.noN W hg this
      | some d => exact RestO.no W hg this
end
end Go.Proofs.YtfokmnafgabdiaaGreatDoor.Eng
namespace Go.Proofs.YtfokmnafgabdiaaGreatDoor.Eng
open Go Go.RowKit
set_option linter.unusedVariables false
set_option linter.unusedSimpArgs false

abbrev Fact := FuncId × List BW × BV
open Classical in
/-- What the calls of a region give. -/
noncomputable def callF : List Fact → CallF
  | [], _, _ => none
  | (f, bs, r) :: F, f', bs' => if f = f' ∧ bs = bs' then some r else callF F f' bs'
def Fresh : List Fact → FuncId → List BW → BV → Prop
  | [], _, _, _ => True
  | (f', bs', r') :: F, f, bs, r => (match Nat.beq f' f with | true => (bs' = bs → r' = r) | false => True) ∧ Fresh F f bs r
theorem callF_ok {P : Program} : ∀ {F : List Fact}, (∀ p ∈ F, Ct P p.1 p.2.1 p.2.2) → CallOk P (callF F)
  | [], _ => fun g bs r h => by cases h
  | (f, bs, r) :: F, hF => fun g bs' r' h => by
    simp only [callF] at h
    split at h
    · rename_i e; cases h; obtain ⟨rfl, rfl⟩ := e; exact hF (f, bs, r) List.mem_cons_self
    · exact callF_ok (fun p hp => hF p (List.mem_cons_of_mem _ hp)) g bs' r' h
theorem fresh_get : ∀ {F G : List Fact} {f : FuncId} {bs : List BW} {r : BV}, Fresh F f bs r → callF (F ++ (f, bs, r) :: G) f bs = some r
  | [], G, f, bs, r, _ => by simp [callF]
  | (f', bs', r') :: F, G, f, bs, r, h => by
    simp only [List.cons_append, callF]
    split
    · rename_i e
      obtain ⟨rfl, rfl⟩ := e
      have := h.1
      rw [Nat.beq_refl] at this
      rw [this rfl]
    · exact fresh_get h.2
inductive CallD (P : Program) (F : List Fact) (f : FuncId) (bs : List BW) (K : BV → Prop) : Prop where
  | mk (r : BV) (h : Ct P f bs r) (fr : Fresh F f bs r) (k : K r) : CallD P F f bs K
def chkB (ops : Array Oper) (base : Nat) (done : List Piece) (y : Piece) : Bool := (done.all fun x => y.b.testBit x.i || apart ops x y) && (y.ft.all fun n => n < base || y.b.testBit ((n - base) / zone))
def storeB (N : Nat) (l : List (Nat × V)) (hl : List (Nat × Root)) (o : Oper) (start n : Nat) : Bool :=
  let S := X N l hl; let hs := trim (sub S.heap 0 (foot S o))
  closedIn hs (foot S o) && (o.op.operands.toList.all fun y => (tmpOf S.tmps y).ids.all (foot S o).contains) && (foot S o).all (fun n => n < start || start + zone ≤ n) && (foot S o).contains n
def dstepW (P : Program) (E : Env) (N : Nat) (l : List (Nat × V)) (hl : List (Nat × Root)) (o : Oper) (start : Nat) (F : List Fact) (K : List Fact → List (Nat × V) → List (Nat × Root) → Prop) : Prop := match o with
  | ⟨none, .store t x y, ty, pos, aft, g⟩ => onTy E t fun _ sz _ _ => opPt E N l x fun p => onO (opdL E N l t y) fun u => onO u.cells fun xs => onT (Nat.beq xs.length sz) (match p with
    | .ptr n i j => match lkR hl n with
      | .var cells => onT (Nat.beq i 0) (onO (splO cells j xs) fun cs2 => Need (storeB N l hl o start n = true) (fV1s cs2 fun cs2 => K F l ((n, .var cs2) :: hl)))
      | .rows s3 rs => onO (mapO quietC xs) fun cs => Find (rs[i]?) fun row => onO (splO row j cs) fun row2 => fCs row2 fun row2 => Calc (rs.set i row2) fun rs2 => Need (aloneB N l hl o start = true ∧ (foot (X N l hl) o).contains n = true) (K F l ((n, .rows s3 rs2) :: hl))
      | _ => False
    | _ => False)
  | ⟨some dst, .call ⟨.builtin .append, ⟨[x, y]⟩, ⟨[t, u]⟩⟩, ty, pos, aft, g⟩ =>
    onTy E t fun kd sz by_ z => onSl kd fun e => onTy E u fun kd2 sz2 by2 z2 => onSl kd2 fun e2 => onTy E e fun _ se be _ => onT (Nat.ble be 1024 && Nat.beq sz sz2 && Nat.beq by_ by2) (onO (opdL E N l t x) fun v => onOne v fun y0 => onO (opdL E N l u y) fun v1 => onOne v1 fun y1 => onRows hl y1 fun s3 new => onT (Nat.beq s3 se) (match y0 with
    | .ref r0 off n0 none => match lkR hl r0 with
      | .rows s4 rs => onT (Nat.beq s4 se && Nat.beq off 0) (Need (rs.length = n0 ∧ n0 + new.length ≤ mostRows) (Need (aloneB N l hl o start = true ∧ (foot (X N l hl) o).contains r0 = true ∧ inF (foot (X N l hl) o) y1 = true) (Calc (rs ++ new) fun rs2 => K F ((dst, vone (.ref start 0 rs2.length none)) :: l) ((start, .rows se rs2) :: (r0, .dead) :: hl))))
      | _ => False
    | _ => False))
  | ⟨some dst, .call ⟨.value fo, args, tys⟩, ty, pos, aft, g⟩ => preW E N l hl fo args tys fun f bs tch => CallD P F f bs fun r => postW tch r start fun v rs => onT (Nat.ble rs.length zone) (K (F ++ [(f, bs, r)]) ((dst, v) :: l) (putsL hl start rs))
  | ⟨some dst, op, ty, pos, aft, g⟩ => qW E N l hl start ty op fun v rs => onT (Nat.ble rs.length zone) (K F ((dst, v) :: l) (putsL hl start rs))
  | _ => False
noncomputable def drawW (P : Program) (E : Env) (ops : Array Oper) (N base nxE : Nat) (K : SP) (os : List (Oper × Nat)) : List Piece → List Fact → List (Nat × V) → List (Nat × Root) → Prop :=
  @List.rec (Oper × Nat) (fun _ => List Piece → List Fact → List (Nat × V) → List (Nat × Root) → Prop) (fun _ _ l hl => K l hl nxE) (fun o todo ih done F l hl => gW ops N l o.1.guard
      (fun l => onO (itemOf E (X N l hl) done o.1 o.2) fun y => Need (chkB ops base done y = true) (dstepW P E N l hl o.1 (base + zone * o.2) F fun F l hl => ih (y :: done) F l hl))
      (fun l => onO (itemOf E (X N l hl) done o.1 o.2) fun y => Need (chkB ops base done y = true) (addK o.1.dst (.tup []) l fun l => ih (y :: done) F l hl))) os
section
variable {P : Program} {E : Env} {cx : Cx} {k k' : List Fr} {nx nx1 nx2 : Nat} {φ : St → Nat → Prop} {c d : Code} {call : CallF} {callH : CallH}
  {N : Nat} {l : List (Nat × V)} {hl : List (Nat × Root)} {ops : Array Oper} {j : Nat} {rest : List Oper} {op : Op} {ty : TypeId} {pos : String} {aft : Array Edge} {g : Option (Nat × Bool)} {t : TypeId} {v : V}
theorem D.no {base : Nat} {done : List Piece} {todo : List (Oper × Nat)} {i : Nat} {y : Piece} {o : Oper} (hy : itemOf E (X N l hl) done o i = some y) (hc : chkB ops base done y = true) (hg : gdL ops N l o.guard = some false)
    (h : RestD P E call callH cx ops base todo (y :: done) k (X N (addT o.dst (.tup []) l) hl) nx φ) : RestD P E call callH cx ops base ((o, i) :: todo) done k (X N l hl) nx φ := by
  obtain ⟨h1, h2, h3, h4⟩ := item_o hy
  refine RestD.step hy hc (S2 := { X N l hl with tmps := setTmp (X N l hl).tmps o.dst (.tup []) }) ?_ ⟨?_, fun n => rfl⟩ h
  · unfold actOf
    rw [h1, show (X N l hl).tmps = T N l from rfl, gd_T (o := o) hg]
  · cases hd : o.dst with
    | none => rfl
    | some d => exact T_set N l d (.tup [])
theorem D.app2 {base dst : Nat} {done : List Piece} {todo : List (Oper × Nat)} {i : Nat} {y : Piece} {x x2 : Operand} {u e e2 : TypeId} {sz by_ sz2 by2 : Nat} {z zu z2 : List V1} {kd2 : TK} {r0 n0 : Nat} {y1 : V1} {s3 s4 n : Nat} {rs new : List (List C)} (hy : itemOf E (X N l hl) done ⟨some dst, .call ⟨.builtin .append, #[x, x2], #[t, u]⟩, ty, pos, aft, g⟩ i = some y) (hc : chkB ops base done y = true)
    (hg : gdL ops N l g = some true) (hi : E.ty t = some ⟨.slice e, sz, by_, z⟩) (hu : E.ty u = some ⟨.slice e2, sz, by_, zu⟩) (hj : E.ty e = some ⟨kd2, sz2, by2, z2⟩) (hx : opdL E N l t x = some (vone (.ref r0 0 n0 none))) (hq : lkR hl r0 = .rows s4 rs) (hx2 : opdL E N l u x2 = some (vone y1)) (hr : rowsL hl y1 = some (s3, new)) (hs : s3 = sz2) (hs4 : s4 = sz2) (hb : Nat.ble by2 1024 = true) (hn0 : rs.length = n0) (hlen : n0 + new.length ≤ mostRows) (hnn : n0 + new.length = n)
    (hk : aloneB N l hl ⟨some dst, .call ⟨.builtin .append, #[x, x2], #[t, u]⟩, ty, pos, aft, g⟩ (base + zone * i) = true) (hf : (foot (X N l hl) ⟨some dst, .call ⟨.builtin .append, #[x, x2], #[t, u]⟩, ty, pos, aft, g⟩).contains r0 = true) (hf2 : inF (foot (X N l hl) ⟨some dst, .call ⟨.builtin .append, #[x, x2], #[t, u]⟩, ty, pos, aft, g⟩) y1 = true)
    (h : RestD P E call callH cx ops base todo (y :: done) k (X N ((dst, vone (.ref (base + zone * i) 0 n none)) :: l) ((base + zone * i, .rows sz2 (rs ++ new)) :: (r0, .dead) :: hl)) nx φ) : RestD P E call callH cx ops base ((⟨some dst, .call ⟨.builtin .append, #[x, x2], #[t, u]⟩, ty, pos, aft, g⟩, i) :: todo) done k (X N l hl) nx φ := by
  have hb := Nat.le_of_ble_eq_true hb
  subst hs hs4 hnn hn0
  have m1 : ∀ m, x = .tmp m → _ := slot_in (o := ⟨some dst, .call ⟨.builtin .append, #[x, x2], #[t, u]⟩, ty, pos, aft, g⟩) (x := x) (by simp [Op.operands, Call.operands])
  have m2 : ∀ m, x2 = .tmp m → _ := slot_in (o := ⟨some dst, .call ⟨.builtin .append, #[x, x2], #[t, u]⟩, ty, pos, aft, g⟩) (x := x2) (by simp [Op.operands, Call.operands])
  generalize hF : foot (X N l hl) ⟨some dst, .call ⟨.builtin .append, #[x, x2], #[t, u]⟩, ty, pos, aft, g⟩ = F at *
  have hrow : rowsOf (trim (sub (H hl) 0 F)) y1 = some (s4, new) := by
    rw [← hr]
    cases y1 with
    | ref m off len cap =>
      have hm : F.contains m = true := hf2
      simp only [rowsOf, rowsL, sub_get hm]
      cases lkR hl m <;> rfl
    | c x => cases x <;> rfl
    | nil s => rfl
    | pt p => rfl
    | clo a b => rfl
  refine D.loud (o := ⟨some dst, .call ⟨.builtin .append, #[x, x2], #[t, u]⟩, ty, pos, aft, g⟩) (next := base + zone * i + 1) hy hc hg rfl hk (h' := put (put (trim (sub (H hl) 0 F)) r0 .dead) (base + zone * i) (.rows s4 (rs ++ new))) (v := vone (.ref (base + zone * i) 0 (rs.length + new.length) none)) ?_ (by simp [zone]) ?_ h
  · rw [hF]
    simp only [evL, hi, hu, opd_mask hx m1, opd_mask hx2 m2, vone, appendTo, hj, hrow, true_or, if_true, appendRows, hb, sub_get hf, hq, hlen, and_self, List.drop_zero, List.take_length, grownFrom, Option.map_some]
  · intro m
    rw [hF, lkR_cons, lkR_cons]
    by_cases e1 : m = base + zone * i
    · subst e1
      rw [if_pos (by simp), rget_put_self, if_pos rfl]
    · rw [if_neg e1]
      by_cases e2 : m = r0
      · subst e2
        rw [if_pos (by rw [hf]; rfl), rget_put_ne _ _ e1, rget_put_self, if_pos rfl]
      · rw [if_neg e2]
        split
        · rename_i hq2
          rw [rget_put_ne _ _ e1, rget_put_ne _ _ e2]
          simp only [Bool.or_eq_true, Bool.and_eq_true, decide_eq_true_eq] at hq2
          rcases hq2 with hq2 | hq2
          · exact sub_get hq2
          · omega
        · rfl
theorem dstepW_ok {base : Nat} {done : List Piece} {todo : List (Oper × Nat)} {o : Oper} {i : Nat} {y : Piece} {F : List Fact} {K : List Fact → List (Nat × V) → List (Nat × Root) → Prop} (hF : ∀ p ∈ F, Ct P p.1 p.2.1 p.2.2)
    (hy : itemOf E (X N l hl) done o i = some y) (hc : chkB ops base done y = true) (hg : gdL ops N l o.guard = some true) (h : dstepW P E N l hl o (base + zone * i) F K)
    (go : ∀ F l hl, (∀ p ∈ F, Ct P p.1 p.2.1 p.2.2) → K F l hl → ∃ G, (∃ G', G = F ++ G') ∧ (∀ p ∈ G, Ct P p.1 p.2.1 p.2.2) ∧ RestD P E (callF G) callH0 cx ops base todo (y :: done) k (X N l hl) nx φ) :
    ∃ G, (∃ G', G = F ++ G') ∧ (∀ p ∈ G, Ct P p.1 p.2.1 p.2.2) ∧ RestD P E (callF G) callH0 cx ops base ((o, i) :: todo) done k (X N l hl) nx φ := by
  unfold dstepW at h
  split at h
  · obtain ⟨_, sz, _, _, hi, h⟩ := onTy_ok h
    obtain ⟨p, hp, h⟩ := opPt_ok h
    obtain ⟨u, hu, h⟩ := onO_ok h
    obtain ⟨xs, hx, h⟩ := onO_ok h
    obtain ⟨e, h⟩ := onT_ok h
    cases p with
    | rp cs => exact h.elim
    | ptr n i2 j2 =>
      simp only at h
      split at h
      · rename_i cells hr
        obtain ⟨e0, h⟩ := onT_ok h
        obtain ⟨cs2, hs, hk, h⟩ := onO_ok h
        have h := fV1s_ok (K := fun cs2 => K F l ((n, .var cs2) :: hl)) h
        obtain ⟨G, g1, g2, g3⟩ := go _ _ _ hF h
        rw [beq_ok e0] at hp
        exact ⟨G, g1, g2, D.store hy hc hg hi hp hu hx e hr hs hk g3⟩
      · rename_i s3 rs hr
        obtain ⟨cs, hq, h⟩ := onO_ok h
        obtain ⟨row, hrow, h⟩ := h
        obtain ⟨row2, hs, h⟩ := onO_ok h
        obtain ⟨rs2, hrs, h⟩ := fCs_ok (K := fun row2 => Calc (rs.set i2 row2) fun rs2 => Need (aloneB N l hl _ (base + zone * i) = true ∧ (foot (X N l hl) _).contains n = true) (K F l ((n, .rows s3 rs2) :: hl))) h
        obtain ⟨G, g1, g2, g3⟩ := go _ _ _ hF h.go
        exact ⟨G, g1, g2, D.storeRow hy hc hg hi hp hu hx e hr hq hrow hs hrs h.n.1 h.n.2 g3⟩
      · exact h.elim
  · obtain ⟨_, sz, by_, z, hi, h⟩ := onTy_ok h
    obtain ⟨e, e0, h2⟩ := onSl_ok h
    clear h
    subst e0
    obtain ⟨_, sz2, by2, z2, hu, h⟩ := onTy_ok h2
    clear h2
    obtain ⟨e2, e0, h2⟩ := onSl_ok h
    clear h
    subst e0
    obtain ⟨_, se, be, ze, hj, h⟩ := onTy_ok h2
    clear h2
    obtain ⟨e1, h⟩ := onT_ok h
    simp only [Bool.and_eq_true] at e1
    have q1 := beq_ok e1.1.2
    have q2 := beq_ok e1.2
    rw [← q1, ← q2] at hu
    obtain ⟨v, hv, h⟩ := onO_ok h
    obtain ⟨y0, e0, h2⟩ := onOne_ok h
    clear h
    subst e0
    obtain ⟨v1, hv1, h⟩ := onO_ok h2
    clear h2
    obtain ⟨y1, e0, h2⟩ := onOne_ok h
    clear h
    subst e0
    obtain ⟨s3, new, hr, h⟩ := onRows_ok h2
    clear h2
    obtain ⟨e3, h⟩ := onT_ok h
    have e3 := beq_ok e3
    split at h
    · split at h
      · rename_i hq
        obtain ⟨e4, h⟩ := onT_ok h
        simp only [Bool.and_eq_true] at e4
        have q4 := beq_ok e4.2
        rw [q4] at hv
        obtain ⟨hn, hk, rs2, hrs, h⟩ := h
        subst hrs
        obtain ⟨G, g1, g2, g3⟩ := go _ _ _ hF h
        rw [List.length_append, hn.1] at g3
        exact ⟨G, g1, g2, D.app2 hy hc hg hi hu hj hv hq hv1 hr e3 (beq_ok e4.1) e1.1.1 hn.1 hn.2 rfl hk.1 hk.2.1 hk.2.2 g3⟩
      · exact h.elim
    · exact h.elim
  · rename_i dst fo args tys ty pos aft g
    obtain ⟨h1, f, bs, tch, h2, h3⟩ := callQ_ok (ty := ty) (nx := base + zone * i) h
    obtain ⟨r, hr, hfr, h⟩ := h2
    have hF2 : ∀ p ∈ F ++ [(f, bs, r)], Ct P p.1 p.2.1 p.2.2 := fun p hp => by
      rcases List.mem_append.1 hp with hp | hp
      · exact hF p hp
      · rw [List.mem_singleton.1 hp]; exact hr
    obtain ⟨v, rs, h4, h5⟩ := h3 r _ h
    obtain ⟨h5, h6⟩ := onT_ok h5
    obtain ⟨G, ⟨G', g1⟩, g2, g3⟩ := go _ _ _ hF2 h6
    have hcall : callF G f bs = some r := by rw [g1, List.append_assoc]; exact fresh_get hfr
    exact ⟨G, ⟨[(f, bs, r)] ++ G', by rw [g1, List.append_assoc]⟩, g2, D.q hy hc hg h1 (h4 _ hcall) h5 rfl g3⟩
  · obtain ⟨h1, v, rs, h2, h3⟩ := qW_ok h
    obtain ⟨h3, h4⟩ := onT_ok h3
    obtain ⟨G, g1, g2, g3⟩ := go _ _ _ hF h4
    exact ⟨G, g1, g2, D.q hy hc hg h1 (h2 _) h3 rfl g3⟩
  · exact h.elim
theorem drawW_ok {base nxE : Nat} {K : SP} (hK : ∀ l hl nx, K l hl nx → Rest P cx k (X N l hl) nx φ) : ∀ (todo : List (Oper × Nat)) (done : List Piece) (F : List Fact) (l : List (Nat × V)) (hl : List (Nat × Root)), (∀ p ∈ F, Ct P p.1 p.2.1 p.2.2) → drawW P E ops N base nxE K todo done F l hl →
    ∃ G, (∃ G', G = F ++ G') ∧ (∀ p ∈ G, Ct P p.1 p.2.1 p.2.2) ∧ RestD P E (callF G) callH0 cx ops base todo done k (X N l hl) nxE φ := by
  intro todo
  induction todo with
  | nil => intro done F l hl hF h; exact ⟨F, ⟨[], by simp⟩, hF, RestD.nil (hK _ _ _ h)⟩
  | cons o todo ih =>
    intro done F l hl hF h
    obtain ⟨o, i⟩ := o
    have h : gW ops N l o.guard (fun l => onO (itemOf E (X N l hl) done o i) fun y => Need (chkB ops base done y = true) (dstepW P E N l hl o (base + zone * i) F fun F l hl => drawW P E ops N base nxE K todo (y :: done) F l hl))
      (fun l => onO (itemOf E (X N l hl) done o i) fun y => Need (chkB ops base done y = true) (addK o.dst (.tup []) l fun l => drawW P E ops N base nxE K todo (y :: done) F l hl)) := h
    obtain ⟨l', e, h⟩ := gW_ok h
    rw [← X_eq (hl := hl) e]
    rcases h with ⟨hg, h⟩ | ⟨hg, h⟩
    · obtain ⟨y, hy, hc, h⟩ := onO_ok h
      exact dstepW_ok hF hy hc hg h fun F l hl hF h => ih (y :: done) F l hl hF h
    · obtain ⟨y, hy, hc, h⟩ := onO_ok h
      obtain ⟨G, g1, g2, g3⟩ := ih (y :: done) F _ hl hF (addK_ok (K := fun l => drawW P E ops N base nxE K todo (y :: done) F l hl) h)
      exact ⟨G, g1, g2, D.no hy hc hg g3⟩
theorem Rest.drawVc {K : SP} (W : Wd P E) {id : Nat} (hK : ∀ l hl nx, K l hl nx → Rest P cx k (X N l hl) nx φ) (hlim : nx + zone * ops.size ≤ cx.lim) (h : drawW P E ops N nx (nx + zone * ops.size) K ops.toList.zipIdx [] [] l hl) : Rest P cx (.code (.region id ops true) :: k) (X N l hl) nx φ := by
  obtain ⟨G, _, g2, g3⟩ := drawW_ok (cx := cx) (φ := φ) hK _ [] [] l hl (fun p hp => by cases hp) h
  exact Rest.draw (W.okC (callF_ok g2)) hlim g3
end
end Go.Proofs.YtfokmnafgabdiaaGreatDoor.Eng
namespace Go.Proofs.YtfokmnafgabdiaaGreatDoor.Eng
open Go Go.RowKit
set_option linter.unusedVariables false
set_option linter.unusedSimpArgs false

section
variable {P : Program} {E : Env} {cx : Cx} {k k' : List Fr} {nx nx1 nx2 : Nat} {φ : St → Nat → Prop} {c d : Code}
  {N : Nat} {l : List (Nat × V)} {hl : List (Nat × Root)} {ops : Array Oper} {j : Nat} {rest : List Oper} {op : Op} {ty : TypeId} {pos : String} {aft : Array Edge} {g : Option (Nat × Bool)} {t : TypeId} {v : V}
def setB (x : Operand) (b : Bool) (l : List (Nat × V)) : List (Nat × V) := match x with
  | .tmp n => (n, vlit (.bool b)) :: l
  | _ => l
theorem setB_ok {x : Operand} {b : Bool} {t : TypeId} (h : opdL E N l t x = some (vlit (.bool b))) : T N (setB x b l) = T N l := by
  cases x with
  | tmp n =>
    simp only [opdL] at h
    cases hb : Nat.blt n N with
    | false => rw [hb] at h; cases h
    | true => rw [hb] at h; exact T_same (lkO_lk h).1
  | _ => rfl
theorem Rest.condW {x : Operand} (h : onO (opdL E N l 0 x) fun v => onBool v fun b => IfB b (Rest P cx (.code c :: k) (X N (setB x true l) hl) nx φ) (Rest P cx (.code d :: k) (X N (setB x false l) hl) nx φ)) : Rest P cx (.code (.cond x c d) :: k) (X N l hl) nx φ := by
  obtain ⟨v, hv, h⟩ := onO_ok h
  obtain ⟨b, e0, h2⟩ := onBool_ok h
  clear h
  subst e0
  have hset : ∀ b : Bool, opdL E N l 0 x = some (vlit (.bool b)) → opdL E N (setB x b l) 0 x = some (vlit (.bool b)) := fun b hv => by
    cases x with
    | tmp n =>
      simp only [opdL] at hv ⊢
      cases hb : Nat.blt n N with
      | false => rw [hb] at hv; cases hv
      | true => simp [setB, lkO, Nat.beq_refl]; rfl
    | _ => exact hv
  cases b with
  | true =>
    rw [← X_eq (hl := hl) (setB_ok hv)]
    exact Rest.ifT (E := E) (b := true) (hset true hv) rfl (h2.t rfl)
  | false =>
    rw [← X_eq (hl := hl) (setB_ok hv)]
    exact Rest.ifF (E := E) (b := false) (hset false hv) rfl (h2.f rfl)
theorem Rest.regW (W : Wd P E) {id : Nat} (h : ∀ K : SP, (∀ l hl nx, Rest P cx k (X N l hl) nx φ → K l hl nx) → opsW P E cx k φ ops N K ops.toList 0 l hl nx) : Rest P cx (.code (.region id ops false) :: k) (X N l hl) nx φ :=
  Rest.region (opsW_ok W (fun _ _ _ h => h) ops.toList 0 l hl nx (h (fun l hl nx => Rest P cx k (X N l hl) nx φ) fun _ _ _ h => h))
theorem RestO.regW (W : Wd P E) (h : ∀ K : SP, (∀ l hl nx, Rest P cx k (X N l hl) nx φ → K l hl nx) → opsW P E cx k φ ops N K rest j l hl nx) : RestO P cx ops j rest k (X N l hl) nx φ :=
  opsW_ok W (fun _ _ _ h => h) rest j l hl nx (h (fun l hl nx => Rest P cx k (X N l hl) nx φ) fun _ _ _ h => h)
theorem Rest.drawRegW (W : Wd P E) {id : Nat} (hlim : Nat.ble (nx + zone * ops.size) cx.lim = true) (h : ∀ K : SP, (∀ l hl nx, Rest P cx k (X N l hl) nx φ → K l hl nx) → drawW P E ops N nx (nx + zone * ops.size) K ops.toList.zipIdx [] [] l hl) : Rest P cx (.code (.region id ops true) :: k) (X N l hl) nx φ :=
  Rest.drawVc W (fun _ _ _ h => h) (Nat.le_of_ble_eq_true hlim) (h (fun l hl nx => Rest P cx k (X N l hl) nx φ) fun _ _ _ h => h)

def giveB (hl : List (Nat × Root)) (x : V1) (K : B1 → List (Nat × Root) → Prop) : Prop := match x with
  | .pt (.rp cells) => K (.rp cells) hl
  | .clo g [] => K (.clo g []) hl
  | .c x => K (.b (.c x)) hl
  | .nil sz => K (.b (.own sz [] none)) hl
  | .ref n off len cap => match lkR hl n with
    | .rows sz rs => Calc ((rs.drop off).take len) fun rs2 => K (.b (.own sz rs2 cap)) ((n, .dead) :: hl)
    | .fro sz rs => Calc ((rs.drop off).take len) fun rs2 => K (.b (.c (.ro sz rs2))) hl
    | _ => False
  | _ => False
theorem giveB_ok {x : V1} {K : B1 → List (Nat × Root) → Prop} (h : giveB hl x K) : ∃ b hl2, giveL hl x = some (b, hl2) ∧ K b hl2 := by
  unfold giveB at h
  split at h
  · exact ⟨_, _, rfl, h⟩
  · exact ⟨_, _, rfl, h⟩
  · exact ⟨_, _, rfl, h⟩
  · exact ⟨_, _, rfl, h⟩
  · split at h
    · rename_i e; obtain ⟨y, e2, h⟩ := h; exact ⟨_, _, by simp only [giveL, e, e2], h⟩
    · rename_i e; obtain ⟨y, e2, h⟩ := h; exact ⟨_, _, by simp only [giveL, e, e2], h⟩
    · exact h.elim
  · exact h.elim
def givesB (hl : List (Nat × Root)) : List V1 → (List B1 → List (Nat × Root) → Prop) → Prop
  | [], K => K [] hl
  | x :: xs, K => giveB hl x fun b hl => givesB hl xs fun bs hl => K (b :: bs) hl
theorem givesB_ok : ∀ {xs : List V1} {hl : List (Nat × Root)} {K : List B1 → List (Nat × Root) → Prop}, givesB hl xs K → ∃ bs hl2, givesL hl xs = some (bs, hl2) ∧ K bs hl2
  | [], hl, K, h => ⟨_, _, rfl, h⟩
  | x :: xs, hl, K, h => by
    obtain ⟨b, hl2, h1, h⟩ := giveB_ok h
    obtain ⟨bs, hl3, h2, h⟩ := givesB_ok h
    exact ⟨_, _, by simp only [givesL, h1, h2], h⟩
def giveWB (hl : List (Nat × Root)) (x : W) (K : BW → List (Nat × Root) → Prop) : Prop := match x with
  | .one x => giveB hl x fun b hl => K (.one b) hl
  | .agg xs => givesB hl xs fun b hl => K (.agg b) hl
theorem giveWB_ok {x : W} {hl : List (Nat × Root)} {K : BW → List (Nat × Root) → Prop} (h : giveWB hl x K) : ∃ b hl2, giveWL hl x = some (b, hl2) ∧ K b hl2 := by
  cases x with
  | one x => obtain ⟨b, hl2, h1, h⟩ := giveB_ok (show giveB hl x (fun b hl => K (.one b) hl) from h); exact ⟨.one b, hl2, by simp only [giveWL, h1], h⟩
  | agg xs => obtain ⟨b, hl2, h1, h⟩ := givesB_ok (show givesB hl xs (fun b hl => K (.agg b) hl) from h); exact ⟨.agg b, hl2, by simp only [giveWL, h1], h⟩
def giveWsB (hl : List (Nat × Root)) : List W → (List BW → Prop) → Prop
  | [], K => K []
  | x :: xs, K => giveWB hl x fun b hl => giveWsB hl xs fun bs => K (b :: bs)
theorem giveWsB_ok : ∀ {xs : List W} {hl : List (Nat × Root)} {K : List BW → Prop}, giveWsB hl xs K → ∃ bs hl2, giveWsL hl xs = some (bs, hl2) ∧ K bs
  | [], hl, K, h => ⟨_, _, rfl, h⟩
  | x :: xs, hl, K, h => by
    obtain ⟨b, hl2, h1, h⟩ := giveWB_ok h
    obtain ⟨bs, hl3, h2, h⟩ := giveWsB_ok h
    exact ⟨b :: bs, hl3, by simp only [giveWsL, h1, h2], h⟩
def giveVB (hl : List (Nat × Root)) (xs : List W) (K : BV → Prop) : Prop := match xs with
  | [x] => giveWB hl x fun b _ => K (.w b)
  | xs => giveWsB hl xs fun bs => K (.tup bs)
theorem giveVB_ok {xs : List W} {K : BV → Prop} (h : giveVB hl xs K) : ∃ r, giveVL hl xs = some r ∧ K r := by
  unfold giveVB at h
  split at h
  · obtain ⟨b, hl2, h1, h⟩ := giveWB_ok h
    exact ⟨_, by simp only [giveVL, h1], h⟩
  · rename_i hne
    obtain ⟨bs, hl2, h1, h⟩ := giveWsB_ok h
    refine ⟨_, ?_, h⟩
    unfold giveVL
    split
    · exact absurd rfl (hne _)
    · simp only [h1]
def finW (E : Env) (res : List ResultVar) (N : Nat) (r : BV) : SP := fun l hl _ => onO (resL E N l hl res) fun xs => fWs xs fun xs => giveVB hl xs fun r' => EqB r' r
theorem finW_ok {fn : Func} {r : BV} {l : List (Nat × V)} {hl : List (Nat × Root)} {nx : Nat} (h : finW E fn.results.toList N r l hl nx) : Gives E fn r (X N l hl) nx := by
  obtain ⟨xs, h1, h⟩ := onO_ok h
  have h := fWs_ok (K := fun xs => giveVB hl xs fun r' => EqB r' r) h
  obtain ⟨r', h2, h⟩ := giveVB_ok h
  have e := h.e
  subst e
  exact gives_fin h1 h2
theorem Rest.retW {fn : Func} {r : BV} {res : List ResultVar} (hres : fn.results.toList = res) (h : finW E res N r l hl nx) : Rest P cx (.code .ret :: k) (X N l hl) nx (Gives E fn r) := by
  subst hres; exact Rest.ret (finW_ok h)
end
end Go.Proofs.YtfokmnafgabdiaaGreatDoor.Eng
namespace Go.Proofs.YtfokmnafgabdiaaGreatDoor.Eng
open Go Go.RowKit
set_option linter.unusedVariables false
set_option linter.unusedSimpArgs false

def dd : List Nat → List Nat → List Nat
  | _, [] => []
  | seen, n :: l => match has seen n with
    | true => dd seen l
    | false => n :: dd (n :: seen) l
def valsK (l : List (Nat × V)) : List Nat → List (Nat × V)
  | [] => []
  | n :: ns => match lk l n with
    | .dead => valsK l ns
    | .w x => (n, .w x) :: valsK l ns
    | .tup xs => (n, .tup xs) :: valsK l ns
def reachK (hl : List (Nat × Root)) : Nat → List Nat → List Nat
  | 0, F => F
  | k + 1, F => match dd F (F.flatMap fun n => (lkR hl n).ids) with
    | [] => F
    | n :: G => reachK hl k (F ++ n :: G)
def idsK (st0 : Nat) (l : List (Nat × V)) (hl : List (Nat × Root)) (keep : List Nat) : List Nat := reachK hl 8 (dd [] (List.range st0 ++ (valsK l keep).flatMap fun p => p.2.ids))
def okL (st0 : Nat) (vs : List (Nat × V)) (hl : List (Nat × Root)) (L : List Nat) : Bool :=
  nodupB L && (vs.all fun p => p.2.ids.all (has L)) && (L.all fun n => (lkR hl n).ids.all (has L)) && startB st0 0 L && Nat.ble st0 L.length
def stL (L : List Nat) : List (Nat × V) → List (Nat × V)
  | [] => []
  | (n, v) :: vs => (n, rnV (idx L) v) :: stL L vs
def hpL (L : List Nat) (hl : List (Nat × Root)) : List Nat → List Root
  | [] => []
  | n :: ns => rnRoot (idx L) (lkR hl n) :: hpL L hl ns
theorem stL_map (L : List Nat) (vs : List (Nat × V)) : stL L vs = vs.map fun p => (p.1, rnV (idx L) p.2) := by
  induction vs with
  | nil => rfl
  | cons p vs ih => simp only [stL, List.map_cons, ih]
theorem hpL_map (L : List Nat) (hl : List (Nat × Root)) (ns : List Nat) : hpL L hl ns = ns.map fun n => rnRoot (idx L) (lkR hl n) := by
  induction ns with
  | nil => rfl
  | cons p vs ih => simp only [hpL, List.map_cons, ih]
theorem selO_all (hl : List (Nat × Root)) : ∀ F : List Nat, selO hl F = some (F.map (lkR hl))
  | [] => rfl
  | n :: F => by
    simp only [selO, selO_all hl F, List.map_cons]
    cases lkR hl n <;> rfl
theorem slotsO_vals (l : List (Nat × V)) : ∀ keep : List Nat, slotsO l ((valsK l keep).map (·.1)) = some ((valsK l keep).map (·.2))
  | [] => rfl
  | n :: ns => by
    have hO : ∀ {l : List (Nat × V)} {n : Nat} {v : V}, lk l n = v → v ≠ .dead → lkO l n = some v := by
      intro l n v
      induction l with
      | nil => intro h hne; exact absurd h.symm hne
      | cons p l ih =>
        obtain ⟨k, u⟩ := p
        simp only [lk, lkO]
        cases Nat.beq k n with
        | true =>
          simp only [cond_true]
          intro h hne
          subst h
          cases u with
          | dead => exact absurd rfl hne
          | _ => rfl
        | false => simpa using ih
    simp only [valsK]
    cases hq : lk l n with
    | dead => exact slotsO_vals l ns
    | w x => simp only [List.map_cons, slotsO, slotsO_vals l ns, hO hq (by simp)]
    | tup xs => simp only [List.map_cons, slotsO, slotsO_vals l ns, hO hq (by simp)]
theorem rnV_comp {f g : Nat → Nat} {x : V} (h : ∀ n ∈ x.ids, f (g n) = n) : rnV f (rnV g x) = x := by
  cases x with
  | w x => simp only [rnV]; rw [rnW_comp h]
  | tup xs => simp only [rnV]; rw [map_comp (ids := W.ids) (Q := fun n => f (g n) = n) (fun p hp => rnW_comp hp) h]
  | dead => rfl
section
variable {P : Program} {E : Env} {cx : Cx} {k : List Fr} {nx : Nat} {φ : St → Nat → Prop} {c : Code} {N : Nat} {l : List (Nat × V)} {hl : List (Nat × Root)}
theorem Rest.gcL {vs : List (Nat × V)} {L : List Nat} (hs : slotsO l (vs.map (·.1)) = some (vs.map (·.2))) (hc : okL cx.st0 vs hl L = true) (hlim : Nat.ble L.length cx.lim = true) {st : List (Nat × V)} {hp : List Root} (e1 : stL L vs = st) (e2 : hpL L hl L = hp) {m : Nat} (em : L.length = m)
    (h : Rest P cx k (X N st (nb 0 hp)) m φ) : Rest P cx k (X N l hl) nx φ := by
  subst e1 e2 em
  simp only [okL, Bool.and_eq_true] at hc
  obtain ⟨⟨⟨⟨h1, h2⟩, h3⟩, h4⟩, h5⟩ := hc
  have hnd := nodupB_ok h1
  have hg : ∀ n, n ∈ L → gL L 0 (idx L n) = n := fun n hn => by
    rw [gL_lt (idx_lt hn)]
    exact Option.some.inj ((List.getElem?_eq_getElem (idx_lt hn)).symm.trans (idx_get hn))
  have hid : ∀ {ids : List Nat}, ids.all (has L) = true → ∀ n ∈ ids, n ∈ L := fun h n hn => has_iff.1 (List.all_eq_true.1 h n hn)
  have hlt : ∀ {ids : List Nat}, ids.all (has L) = true → idsLt L.length (ids.map (idx L)) = true := fun h => by
    simp only [idsLt, List.all_map, List.all_eq_true]
    intro n hn
    have := idx_lt (hid h n hn)
    simpa [Nat.blt_eq] using this
  refine Rest.gcX L (st := stL L vs) (hp := hpL L hl L) (us := vs.map (·.2)) (rts := L.map (lkR hl)) ?_ ?_ (selO_all hl L) ?_ h1 ?_ ?_ h4 h5 (Nat.le_of_ble_eq_true hlim) h
  · rw [stL_map]
    simp only [keysOf, List.map_map]
    exact hs
  · rw [stL_map, List.map_map]
    refine List.map_congr_left fun p hp => ?_
    exact (rnV_comp fun n hn => hg n (hid (List.all_eq_true.1 h2 p hp) n hn)).symm
  · rw [hpL_map, List.map_map]
    refine List.map_congr_left fun n hn => ?_
    exact (rnRoot_comp fun q hq => hg q (hid (List.all_eq_true.1 h3 n hn) q hq)).symm
  · rw [stL_map, List.all_map, List.all_eq_true]
    intro p hp
    simp only [Function.comp, rnV_ids]
    exact hlt (List.all_eq_true.1 h2 p hp)
  · rw [hpL_map, List.all_map, List.all_eq_true]
    intro n hn
    simp only [Function.comp, rnRoot_ids]
    exact hlt (List.all_eq_true.1 h3 n hn)

def ovS (f : List (Nat × V)) : List (Nat × V) → List (Nat × V)
  | [] => []
  | (n, v) :: S => (match lk f n with
    | .dead => (n, v)
    | .w x => (n, .w x)
    | .tup xs => (n, .tup xs)) :: ovS f S
def ovR (g : List (Nat × Root)) : Nat → List Root → List Root
  | _, [] => []
  | i, r :: rs => (match lkR g i with
    | .dead => r
    | .var c => .var c
    | .rows s l => .rows s l
    | .fro s l => .fro s l) :: ovR g (i + 1) rs
inductive LoopV (P : Program) (cx : Cx) (k : List Fr) (c : Code) (N : Nat) (φ : St → Nat → Prop) (S : List (Nat × V)) (Hp : List Root) (m : Nat) : Prop where
  | mk {α : Type} (f : α → List (Nat × V)) (g : α → List (Nat × Root)) (I : α → Prop) (μ : α → Nat) (x0 : α) (h1 : ovS (f x0) S = S) (h2 : ovR (g x0) 0 Hp = Hp) (hI : I x0)
    (step : ∀ n x, I x → (∀ y, I y → μ y < μ x → Rest P cx (.loop n c :: k) (X N (ovS (f y) S) (nb 0 (ovR (g y) 0 Hp))) m φ) → Rest P cx (.code c :: .loop n c :: k) (X N (ovS (f x) S) (nb 0 (ovR (g x) 0 Hp))) m φ) : LoopV P cx k c N φ S Hp m
theorem LoopV.ok {S : List (Nat × V)} {Hp : List Root} {m : Nat} (h : LoopV P cx k c N φ S Hp m) : Rest P cx (.code (.loop c) :: k) (X N S (nb 0 Hp)) m φ := by
  obtain ⟨f, g, I, μ, x0, h1, h2, hI, step⟩ := h
  refine Rest.loopI (st := fun x => ovS (f x) S) (hp := fun x => nb 0 (ovR (g x) 0 Hp)) (nx0 := fun _ => m) I μ x0 hI (fun h => ?_) step
  simp only [h1, h2] at h
  exact h
def fSt : List (Nat × V) → (List (Nat × V) → Prop) → Prop
  | [], K => K []
  | (n, v) :: S, K => fV v fun v => fSt S fun S => K ((n, v) :: S)
theorem fSt_ok : ∀ {S : List (Nat × V)} {K : List (Nat × V) → Prop}, fSt S K → K S
  | [], K, h => h
  | (n, v) :: S, K, h => fSt_ok (K := fun S => K ((n, v) :: S)) (fV_ok (K := fun v => fSt S fun S => K ((n, v) :: S)) h)
def keepW (keep : List Nat) (st0 lim : Nat) (l : List (Nat × V)) (hl : List (Nat × Root)) (K : List (Nat × V) → List Root → Nat → Prop) : Prop :=
  let L := idsK st0 l hl keep
  onT (okL st0 (valsK l keep) hl L && Nat.ble L.length lim) (fSt (stL L (valsK l keep)) fun S => fRoots (hpL L hl L) fun Hp => fNat L.length fun m => K S Hp m)
theorem Rest.nextK {st : List (Nat × V)} {hp : List Root} {m : Nat} (h : Rest P cx k (X N st (nb 0 hp)) m φ) {L : List Nat} (eL : idsK cx.st0 l hl (keysOf st) = L) (hc : (okL cx.st0 (valsK l (keysOf st)) hl L && Nat.ble L.length cx.lim) = true) (e1 : stL L (valsK l (keysOf st)) = st) (e2 : hpL L hl L = hp) (em : L.length = m) : Rest P cx k (X N l hl) nx φ := by
  simp only [Bool.and_eq_true] at hc
  exact Rest.gcL (slotsO_vals l (keysOf st)) hc.1 hc.2 e1 e2 em h
end
end Go.Proofs.YtfokmnafgabdiaaGreatDoor.Eng
namespace Go.Proofs.YtfokmnafgabdiaaGreatDoor.Eng
open Go Go.RowKit
set_option linter.unusedVariables false
set_option linter.unusedSimpArgs false

structure Z (P : Program) (cx : Cx) (k : List Fr) (N : Nat) (l : List (Nat × V)) (hl : List (Nat × Root)) (nx : Nat) (φ : St → Nat → Prop) : Prop where
  of : Rest P cx k (X N l hl) nx φ
section
variable {P : Program} {E : Env} {cx : Cx} {k k' : List Fr} {nx nx1 nx2 : Nat} {φ : St → Nat → Prop} {c d : Code}
  {N : Nat} {l : List (Nat × V)} {hl : List (Nat × Root)} {ops : Array Oper} {j : Nat} {rest : List Oper}
theorem Z.seq (h : Z P cx (.code c :: .code d :: k) N l hl nx φ) : Z P cx (.code (.seq c d) :: k) N l hl nx φ := ⟨Rest.seq h.of⟩
theorem Z.skip (h : Z P cx k N l hl nx φ) : Z P cx (.code .skip :: k) N l hl nx φ := ⟨Rest.skip h.of⟩
theorem Z.block {id : Nat} (h : Z P cx (.code c :: .block id :: k) N l hl nx φ) : Z P cx (.code (.block id c) :: k) N l hl nx φ := ⟨Rest.block h.of⟩
theorem Z.blockEnd {id : Nat} (h : Z P cx k N l hl nx φ) : Z P cx (.block id :: k) N l hl nx φ := ⟨Rest.blockEnd h.of⟩
theorem Z.exit {id : Nat} (hp : popTo id k = some k') (h : Z P cx k' N l hl nx φ) : Z P cx (.code (.exit id) :: k) N l hl nx φ := ⟨Rest.exit hp h.of⟩
theorem Z.again {m : Nat} (h : Z P cx (.code c :: .loop m c :: k) N l hl nx φ) : Z P cx (.loop (m + 1) c :: k) N l hl nx φ := ⟨Rest.again h.of⟩
theorem Z.loop (m : Nat) (h : Z P cx (.loop m c :: k) N l hl nx φ) : Z P cx (.code (.loop c) :: k) N l hl nx φ := ⟨Rest.loop m h.of⟩
theorem Z.cond {x : Operand} (h : onO (opdL E N l 0 x) fun v => onBool v fun b => IfB b (Z P cx (.code c :: k) N (setB x true l) hl nx φ) (Z P cx (.code d :: k) N (setB x false l) hl nx φ)) : Z P cx (.code (.cond x c d) :: k) N l hl nx φ := by
  refine ⟨Rest.condW (E := E) ?_⟩
  obtain ⟨v, hv, h⟩ := onO_ok h
  obtain ⟨b, e0, h2⟩ := onBool_ok h
  subst e0
  rw [hv]
  exact ⟨fun e => (h2.t e).of, fun e => (h2.f e).of⟩
theorem Z.reg (W : Wd P E) {id : Nat} (h : ∀ K : SP, (∀ l hl nx, Z P cx k N l hl nx φ → K l hl nx) → opsW P E cx k φ ops N K ops.toList 0 l hl nx) : Z P cx (.code (.region id ops false) :: k) N l hl nx φ :=
  ⟨Rest.regW W fun K hK => h K fun l hl nx z => hK l hl nx z.of⟩
theorem Z.opsF (W : Wd P E) (h : ∀ K : SP, (∀ l hl nx, Z P cx k N l hl nx φ → K l hl nx) → opsW P E cx k φ ops N K rest j l hl nx) : RestO P cx ops j rest k (X N l hl) nx φ :=
  RestO.regW W fun K hK => h K fun l hl nx z => hK l hl nx z.of
theorem Z.draw (W : Wd P E) {id : Nat} (hlim : Nat.ble (nx + zone * ops.size) cx.lim = true) (h : ∀ K : SP, (∀ l hl nx, Z P cx k N l hl nx φ → K l hl nx) → drawW P E ops N nx (nx + zone * ops.size) K ops.toList.zipIdx [] [] l hl) : Z P cx (.code (.region id ops true) :: k) N l hl nx φ :=
  ⟨Rest.drawRegW W hlim fun K hK => h K fun l hl nx z => hK l hl nx z.of⟩
theorem Z.ret {fn : Func} {r : BV} {res : List ResultVar} (hres : fn.results.toList = res) (h : finW E res N r l hl nx) : Z P cx (.code .ret :: k) N l hl nx (Gives E fn r) := ⟨Rest.retW hres h⟩
theorem Ct.z (D : Wd P E) {f : FuncId} {fn : Func} {code : Code} {args : List BW} {ws : List Eng.W} {r : BV} (hf : P.funcs[f]? = some fn) (hnm : (fn.name == "runtime.NumGoroutine") = false) (hcode : fn.body = some code) (hN : fn.ntmps = N) (hargs : takeWs 0 args = (ws, [])) (hids : ws.flatMap Eng.W.ids = []) (hle : Nat.ble ws.length N = true) {l0 : List (Nat × V)} (h0 : initO ws 0 = some l0)
    (h : Z P pure0 [.code code] N l0 [] 0 (Gives E fn r)) : Ct P f args r := Ct.enter D hf hnm hcode hN hargs hids hle h0 h.of
inductive LoopZ (P : Program) (cx : Cx) (k : List Fr) (c : Code) (N : Nat) (φ : St → Nat → Prop) (S : List (Nat × V)) (Hp : List Root) (m : Nat) : Prop where
  | mk {α : Type} (f : α → List (Nat × V)) (g : α → List (Nat × Root)) (I : α → Prop) (μ : α → Nat) (x0 : α) (h1 : ovS (f x0) S = S) (h2 : ovR (g x0) 0 Hp = Hp) (hI : I x0)
    (step : ∀ n x, I x → (∀ y, I y → μ y < μ x → Z P cx (.loop n c :: k) N (ovS (f y) S) (nb 0 (ovR (g y) 0 Hp)) m φ) → Z P cx (.code c :: .loop n c :: k) N (ovS (f x) S) (nb 0 (ovR (g x) 0 Hp)) m φ) : LoopZ P cx k c N φ S Hp m
theorem LoopZ.v {S : List (Nat × V)} {Hp : List Root} {m : Nat} (h : LoopZ P cx k c N φ S Hp m) : LoopV P cx k c N φ S Hp m := by
  obtain ⟨f, g, I, μ, x0, h1, h2, hI, step⟩ := h
  exact ⟨f, g, I, μ, x0, h1, h2, hI, fun n x hx next => (step n x hx fun y hy hm => ⟨next y hy hm⟩).of⟩
theorem keepW_go {keep : List Nat} {st0 lim : Nat} {K : List (Nat × V) → List Root → Nat → Prop} (h : keepW keep st0 lim l hl K) : (okL st0 (valsK l keep) hl (idsK st0 l hl keep) && Nat.ble (idsK st0 l hl keep).length lim) = true ∧ K (stL (idsK st0 l hl keep) (valsK l keep)) (hpL (idsK st0 l hl keep) hl (idsK st0 l hl keep)) (idsK st0 l hl keep).length := by
  obtain ⟨hc, h⟩ := onT_ok h
  exact ⟨hc, fNat_ok (K := fun m => K _ _ m) (fRoots_ok (K := fun Hp => fNat _ fun m => K _ Hp m) (fSt_ok (K := fun S => fRoots _ fun Hp => fNat _ fun m => K S Hp m) h))⟩
theorem Z.loopK (keep : List Nat) (h : keepW keep cx.st0 cx.lim l hl fun S Hp m => LoopZ P cx k c N φ S Hp m) : Z P cx (.code (.loop c) :: k) N l hl nx φ := by
  obtain ⟨hc, h⟩ := keepW_go h
  simp only [Bool.and_eq_true] at hc
  exact ⟨Rest.gcL (slotsO_vals l keep) hc.1 hc.2 rfl rfl rfl h.v.ok⟩
theorem Z.keep (keep : List Nat) (h : keepW keep cx.st0 cx.lim l hl fun S Hp m => Z P cx k N S (nb 0 Hp) m φ) : Z P cx k N l hl nx φ := by
  obtain ⟨hc, h⟩ := keepW_go h
  simp only [Bool.and_eq_true] at hc
  exact ⟨Rest.gcL (slotsO_vals l keep) hc.1 hc.2 rfl rfl rfl h.of⟩
theorem Z.next {st : List (Nat × V)} {hp : List Root} {m : Nat} (h : Z P cx k N st (nb 0 hp) m φ) {L : List Nat} (eL : idsK cx.st0 l hl (keysOf st) = L) (hc : (okL cx.st0 (valsK l (keysOf st)) hl L && Nat.ble L.length cx.lim) = true) (e1 : stL L (valsK l (keysOf st)) = st) (e2 : hpL L hl L = hp) (em : L.length = m) : Z P cx k N l hl nx φ :=
  ⟨Rest.nextK h.of eL hc e1 e2 em⟩
theorem Z.force {rs : List Root} (h : fSt l fun l => fRoots rs fun rs => Z P cx k N l (nb 0 rs) nx φ) : Z P cx k N l (nb 0 rs) nx φ :=
  fRoots_ok (K := fun rs => Z P cx k N l (nb 0 rs) nx φ) (fSt_ok (K := fun l => fRoots rs fun rs => Z P cx k N l (nb 0 rs) nx φ) h)
end
end Go.Proofs.YtfokmnafgabdiaaGreatDoor.Eng
namespace Go.Proofs.YtfokmnafgabdiaaGreatDoor.Eng
open Go Go.RowKit
set_option linter.unusedVariables false
set_option linter.unusedSimpArgs false

structure EqH (a b : V) (x y : List Root) : Prop where
  e : a = b ∧ x = y
theorem EqH.mk2 {a b : V} {x y : List Root} (h1 : a = b) (h2 : x = y) : EqH a b x y := ⟨⟨h1, h2⟩⟩
def HGives (E : Env) (fn : Func) (v : V) (h' : List Root) (next : Nat) : St → Nat → Prop := fun S' nx' => nx' ≤ next ∧ (∃ xs, mapO (resultOf E S') fn.results.toList = some xs ∧ packW xs = v) ∧ ∀ n, rget S'.heap n = rget h' n
def finH (E : Env) (res : List ResultVar) (N : Nat) (v : V) (h' : List Root) (next st0 lim : Nat) (keep : List Nat) : SP := fun l hl _ =>
  keepW keep st0 lim l hl fun S Hp m => onT (Nat.ble m next) (onO (resL E N S (nb 0 Hp) res) fun xs => fWs xs fun xs => EqH (packW xs) v Hp h')
theorem rget_H_nb (Hp : List Root) (n : Nat) : rget (H (nb 0 Hp)) n = rget Hp n := by rw [rget_H, lkR_nb]; simp
theorem HCt.z {P : Program} {E : Env} (D : Wd P E) {f : FuncId} {fn : Func} {code : Code} {ws : List Eng.W} {N m lim next : Nat} {hs h' : List Root} {v : V} (hf : P.funcs[f]? = some fn) (hnm : (fn.name == "runtime.NumGoroutine") = false) (hcode : fn.body = some code) (hN : fn.ntmps = N) (hle : Nat.ble ws.length N = true) {l0 : List (Nat × V)} (h0 : initO ws 0 = some l0)
    (h : Z P ⟨false, m, lim⟩ [.code code] N l0 (nb 0 hs) m (HGives E fn v h' next)) : HCt P f m lim hs ws v h' next :=
  HCt.enter D hf hnm hcode hN hle h0 (fun n => by rw [lkR_nb]; simp) h.of
section
variable {P : Program} {E : Env} {cx : Cx} {k k' : List Fr} {nx nx1 nx2 : Nat} {φ : St → Nat → Prop} {c d : Code}
  {N : Nat} {l : List (Nat × V)} {hl : List (Nat × Root)} {ops : Array Oper} {j : Nat} {rest : List Oper}
theorem finH_go {fn : Func} {v : V} {h' : List Root} {next : Nat} {keep : List Nat} (h : finH E fn.results.toList N v h' next cx.st0 cx.lim keep l hl nx) (kk : ∀ S Hp m, HGives E fn v h' next (X N S (nb 0 Hp)) m → Z P cx k N S (nb 0 Hp) m (HGives E fn v h' next)) : Z P cx k N l hl nx (HGives E fn v h' next) := by
  unfold finH at h
  obtain ⟨hc, h⟩ := keepW_go h
  obtain ⟨h1, h⟩ := onT_ok h
  obtain ⟨xs, h2, h⟩ := onO_ok h
  have h := fWs_ok (K := fun xs => EqH (packW xs) v _ h') h
  obtain ⟨⟨e1, e2⟩⟩ := h
  simp only [Bool.and_eq_true] at hc
  refine ⟨Rest.gcL (slotsO_vals l keep) hc.1 hc.2 rfl rfl rfl (kk _ _ _ ⟨Nat.le_of_ble_eq_true h1, ⟨xs, res_T h2, e1⟩, fun n => ?_⟩).of⟩
  rw [← e2]; exact rget_H_nb _ n
theorem Z.hret {fn : Func} {v : V} {h' : List Root} {next : Nat} {res : List ResultVar} (keep : List Nat) (hres : fn.results.toList = res) (h : finH E res N v h' next cx.st0 cx.lim keep l hl nx) : Z P cx (.code .ret :: k) N l hl nx (HGives E fn v h' next) := by
  subst hres
  exact finH_go h fun S Hp m g => ⟨Rest.ret g⟩
end
end Go.Proofs.YtfokmnafgabdiaaGreatDoor.Eng
namespace Go.Proofs.YtfokmnafgabdiaaGreatDoor.Eng
open Go Go.RowKit
set_option linter.unusedVariables false
set_option linter.unusedSimpArgs false

section
variable {H : Type} {enc : TypeId × Value → H} {P : Program} {w : World} {spare : Nat → Bool} {held : Bool}
abbrev AllB (w : World) : Nat → Prop := fun b => b < w.heap.size
end
end Go.Proofs.YtfokmnafgabdiaaGreatDoor.Eng
namespace Go.Proofs.YtfokmnafgabdiaaGreatDoor.Eng
open Go Go.RowKit
set_option linter.unusedVariables false
set_option linter.unusedSimpArgs false

theorem trod_ifaceN {H : Type} {enc : TypeId × Value → H} {P : Program} {w : World} {spare : Nat → Bool} {held : Bool} {fuel : Nat} {t : TypeId} {cs : List Value} {ms : Array (String × TypeId)} {nm : String} {x : DataW H} {p : List MemPlace}
    (ht : P.underlying t = some (.interface ms)) (h : DataW.trod enc P w 0 spare held fuel t cs = some (.iface nm x, p)) : ∃ u v, cs = [.iface u v] := by
  cases fuel with
  | zero => simp [DataW.trod] at h
  | succ n =>
    unfold DataW.trod at h
    rw [ht] at h
    split at h <;> simp_all
theorem gl_of {P : Program} {W : World} {laid : List (String × DataW Unit)} {n nm : String} {x : DataW Unit} {g : Nat} {ti : TypeId} {ms : Array (String × TypeId)} (h : laidMetH P laid W) (hh : (laid.all fun x => x.2.handleName?.isNone) = true) (hm : (n, .iface nm x) ∈ laid)
    (hg : P.globalNamed n = some g) (ht : (P.globals[g]?).map (·.type) = some ti) (hi : P.underlying ti = some (.interface ms)) (hv : gvars = [g]) : Gl W (AllB W) := by
  rw [Go.MakeChecks.laidMetH_plain _ _ _ hh] at h
  obtain ⟨g0, t0, cs, fuel, p, h1, h2, h3, h4⟩ := Go.Lib.laidMet.reads h hm
  obtain rfl := Option.some.inj (hg.symm.trans h1)
  obtain rfl := Option.some.inj (ht.symm.trans h2)
  obtain ⟨u, v, hc⟩ := trod_ifaceN hi h4
  have hcell := World.var?_cell hg h3 0
  have h0 : cs[0]? = some (.iface u v) := by
    rw [← Array.getElem?_toList, hc]; rfl
  rw [h0] at hcell
  intro q hq
  rw [hv] at hq
  obtain rfl : q = g := by simpa using hq
  have hlt : q < W.heap.size := by
    simp only [World.cell?] at hcell
    split at hcell
    · rename_i hb; exact lt_of_block hb
    · cases hcell
  exact ⟨hlt, hlt, u, v, hcell⟩
theorem law_of {P : Program} {f : FuncId} {w : World} {args : Array Value} {bs : List BW} {ws : List Eng.W} (hc : Ct P f bs (.w (.one (.b (.c (.lit (.bool true))))))) (ht : takeWs 0 bs = (ws, [])) (hi : ws.flatMap W.ids = []) (hg : Gl w (AllB w))
    (ha : All2 (RW w (AllB w) (fun _ => none) []) ws args.toList) : Calls P f args w fun e w' => e = .returned (.bool true) ∧ Below w.heap.size w w' := by
  obtain ⟨_, hc⟩ := hc
  refine (hc w (AllB w) args (by rw [ht]) (by rw [ht]; exact hi) (fun _ h => h) hg (by rw [ht]; exact ha)).mono ?_
  rintro e w' ⟨u, σ', A', rfl, hx, hb⟩
  have : u = .bool true := (RC.lit_iff.1 hb.val).1
  exact ⟨by rw [this], ⟨hx.os, hx.tape, hx.output, hx.size, fun k hk => hx.block k hk fun h => h⟩⟩
end Go.Proofs.YtfokmnafgabdiaaGreatDoor.Eng
namespace Go.Proofs.YtfokmnafgabdiaaGreatDoor.Eng
open Go Go.RowKit
set_option linter.unusedVariables false
set_option linter.unusedSimpArgs false

def fNats : List Nat → (List Nat → Prop) → Prop
  | [], K => K []
  | n :: ns, K => fNat n fun n => fNats ns fun ns => K (n :: ns)
theorem fNats_ok : ∀ {ns : List Nat} {K : List Nat → Prop}, fNats ns K → K ns
  | [], K, h => h
  | n :: ns, K, h => fNats_ok (K := fun ns => K (n :: ns)) (fNat_ok (K := fun n => fNats ns fun ns => K (n :: ns)) h)
def fR (r : Root) (K : Root → Prop) : Prop := match r with
  | .var cells => fV1s cells fun cells => K (.var cells)
  | .rows s l => K (.rows s l)
  | .fro s l => K (.fro s l)
  | .dead => K .dead
theorem fR_ok {r : Root} {K : Root → Prop} (h : fR r K) : K r := by
  cases r with
  | var cells => exact fV1s_ok (K := fun cells => K (.var cells)) h
  | rows s l => exact h
  | fro s l => exact h
  | dead => exact h
def outW (F : List Nat) (nx : Nat) : Nat → List Root → List (Nat × Root) → (List (Nat × Root) → Prop) → Prop
  | _, [], hl, K => K hl
  | i, r :: rs, hl, K => outW F nx (Nat.succ i) rs hl fun o => fNat (gL F nx i) fun n => fR (rnRoot (gL F nx) r) fun r => K ((n, r) :: o)
theorem outW_ok {F : List Nat} {nx : Nat} : ∀ {rs : List Root} {i : Nat} {hl : List (Nat × Root)} {K : List (Nat × Root) → Prop}, outW F nx i rs hl K → ∃ o, outO F nx i rs hl = some o ∧ K o
  | [], i, hl, K, h => ⟨_, rfl, h⟩
  | r :: rs, i, hl, K, h => by
    obtain ⟨o, h1, h2⟩ := outW_ok (rs := rs) h
    have h2 := fR_ok (K := fun r => K ((gL F nx i, r) :: o)) (fNat_ok (K := fun n => fR (rnRoot (gL F nx) r) fun r => K ((n, r) :: o)) h2)
    exact ⟨_, by simp only [outO, h1], h2⟩
def hchk (F : List Nat) (m nx lim next0 : Nat) (hs0 h0 : List Root) (ws0 : List W) : Bool :=
  Nat.beq F.length m && (nodupB F && ((F.all fun n => Nat.blt n nx) && ((hs0.all fun r => r.ids.all fun q => Nat.blt q m) && (((ws0.flatMap W.ids).all fun q => Nat.blt q m) && (Nat.beq h0.length next0 && (Nat.ble m next0 && Nat.ble (nx + (next0 - m)) lim))))))
section
variable {P : Program} {E : Env} {cx : Cx} {k k' : List Fr} {nx nx1 nx2 : Nat} {φ : St → Nat → Prop} {c d : Code}
  {N : Nat} {l : List (Nat × V)} {hl : List (Nat × Root)} {ops : Array Oper} {j : Nat} {rest : List Oper} {op : Op} {ty : TypeId} {pos : String} {aft : Array Edge} {g : Option (Nat × Bool)} {t : TypeId} {v : V} {dst : Option Nat}
theorem O.hcallG (D : Wd P E) {f : FuncId} {args : Array Operand} {tys : Array TypeId} {fo : Operand} {vs : List V} {ws cws ws0 : List Eng.W} {caps : List Pt} {v0 : V} {F : List Nat} {rts hs0 h0 : List Root} {m next0 lim0 : Nat} (hg : gdL ops N l g = some true) (hf : opdL E N l 0 fo = some (vone (.clo f caps))) (hi : E.inl f = true) (hro : E.roImp f = false) (ha : opdsL E N l tys.toList args.toList = some vs) (hw : wsOf vs = some ws) (hcw : ws ++ caps.map (fun p => .one (.pt p)) = cws)
    (hF : reachL hl 8 (cws.flatMap W.ids) = F) (hsel : selO hl F = some rts) (hct : HCt P f m lim0 hs0 ws0 v0 h0 next0) (hrts : rts = hs0.map (rnRoot (gL F nx))) (hws : cws = ws0.map (rnW (gL F nx))) (hk : hchk F m nx cx.lim next0 hs0 h0 ws0 = true)
    (h : fNats F fun F => fV (rnV (gL F nx) v0) fun v => fNat (nx + (next0 - m)) fun nx2 => outW F nx 0 h0 hl fun hl2 => addK dst v l fun l => RestO P cx ops (j + 1) rest k (X N l hl2) nx2 φ) :
    RestO P cx ops j (⟨dst, .call ⟨.value fo, args, tys⟩, ty, pos, aft, g⟩ :: rest) k (X N l hl) nx φ := by
  have h := fNats_ok (K := fun F => fV (rnV (gL F nx) v0) fun v => fNat (nx + (next0 - m)) fun nx2 => outW F nx 0 h0 hl fun hl2 => addK dst v l fun l => RestO P cx ops (j + 1) rest k (X N l hl2) nx2 φ) h
  have h := fV_ok (K := fun v => fNat (nx + (next0 - m)) fun nx2 => outW _ nx 0 h0 hl fun hl2 => addK dst v l fun l => RestO P cx ops (j + 1) rest k (X N l hl2) nx2 φ) h
  have h := fNat_ok (K := fun nx2 => outW _ nx 0 h0 hl fun hl2 => addK dst _ l fun l => RestO P cx ops (j + 1) rest k (X N l hl2) nx2 φ) h
  obtain ⟨o, h2, h⟩ := outW_ok h
  have h := addK_ok (K := fun l => RestO P cx ops (j + 1) rest k (X N l o) _ φ) h
  simp only [hchk, Bool.and_eq_true] at hk
  obtain ⟨a1, a2, a3, a4, a5, a6, a7, a8⟩ := hk
  exact O.hcall D hg hf hi hro ha hw hcw hF hsel hct (beq_ok a1) hrts hws a2 a3 a4 a5 (beq_ok a6) a7 (Nat.le_of_ble_eq_true a8) rfl h2 h
def keepW2 (keep : List Nat) (st0 lim : Nat) (l : List (Nat × V)) (hl : List (Nat × Root)) (K : List (Nat × V) → List Root → Nat → Prop) : Prop :=
  fNats (idsK st0 l hl keep) fun L => fSt (valsK l keep) fun vs => onT (okL st0 vs hl L && Nat.ble L.length lim) (fSt (stL L vs) fun S => fRoots (hpL L hl L) fun Hp => fNat L.length fun m => K S Hp m)
theorem keepW_of {keep : List Nat} {st0 lim : Nat} {K : List (Nat × V) → List Root → Nat → Prop} (h : keepW2 keep st0 lim l hl K) : keepW keep st0 lim l hl K := by
  have h := fNats_ok (K := fun L => fSt (valsK l keep) fun vs => onT (okL st0 vs hl L && Nat.ble L.length lim) (fSt (stL L vs) fun S => fRoots (hpL L hl L) fun Hp => fNat L.length fun m => K S Hp m)) h
  exact fSt_ok (K := fun vs => onT (okL st0 vs hl _ && Nat.ble _ lim) (fSt (stL _ vs) fun S => fRoots (hpL _ hl _) fun Hp => fNat _ fun m => K S Hp m)) h
theorem Z.loopK2 (keep : List Nat) (h : keepW2 keep cx.st0 cx.lim l hl fun S Hp m => LoopZ P cx k c N φ S Hp m) : Z P cx (.code (.loop c) :: k) N l hl nx φ := Z.loopK keep (keepW_of h)
theorem Z.next2 {st : List (Nat × V)} {hp : List Root} {m : Nat} (h : Z P cx k N st (nb 0 hp) m φ) (h2 : fNats (idsK cx.st0 l hl (keysOf st)) fun L => fSt (valsK l (keysOf st)) fun vs => onT (okL cx.st0 vs hl L && Nat.ble L.length cx.lim) (stL L vs = st ∧ hpL L hl L = hp ∧ L.length = m)) : Z P cx k N l hl nx φ := by
  have h2 := fNats_ok (K := fun L => fSt (valsK l (keysOf st)) fun vs => onT (okL cx.st0 vs hl L && Nat.ble L.length cx.lim) (stL L vs = st ∧ hpL L hl L = hp ∧ L.length = m)) h2
  have h2 := fSt_ok (K := fun vs => onT (okL cx.st0 vs hl _ && Nat.ble _ cx.lim) (stL _ vs = st ∧ hpL _ hl _ = hp ∧ _ = m)) h2
  obtain ⟨h3, e1, e2, e3⟩ := onT_ok h2
  exact Z.next h rfl h3 e1 e2 e3
def finH2 (E : Env) (res : List ResultVar) (N : Nat) (v : V) (h' : List Root) (next st0 lim : Nat) (keep : List Nat) : SP := fun l hl _ =>
  keepW2 keep st0 lim l hl fun S Hp m => onT (Nat.ble m next) (onO (resL E N S (nb 0 Hp) res) fun xs => fWs xs fun xs => EqH (packW xs) v Hp h')
theorem Z.hret2 {fn : Func} {v : V} {h' : List Root} {next : Nat} {res : List ResultVar} (keep : List Nat) (hres : fn.results.toList = res) (h : finH2 E res N v h' next cx.st0 cx.lim keep l hl nx) : Z P cx (.code .ret :: k) N l hl nx (HGives E fn v h' next) := Z.hret keep hres (keepW_of h)
end
end Go.Proofs.YtfokmnafgabdiaaGreatDoor.Eng
namespace Go.Proofs.YtfokmnafgabdiaaGreatDoor.Eng
open Go Go.RowKit
set_option linter.unusedVariables false
set_option linter.unusedSimpArgs false

def outL (F : List Nat) (nx : Nat) : Nat → List Root → List (Nat × Root)
  | _, [] => []
  | i, r :: rs => (gL F nx i, rnRoot (gL F nx) r) :: outL F nx (Nat.succ i) rs
theorem outO_eq (F : List Nat) (nx : Nat) : ∀ (rs : List Root) (i : Nat) (hl : List (Nat × Root)), outO F nx i rs hl = some (outL F nx i rs ++ hl)
  | [], i, hl => rfl
  | r :: rs, i, hl => by simp only [outO, outO_eq F nx rs, outL, List.cons_append]
theorem outL_0 (F : List Nat) (nx : Nat) (rs : List Root) : outO F nx 0 rs [] = some (outL F nx 0 rs) := by rw [outO_eq, List.append_nil]
structure HFact where
  g : FuncId
  s : Nat
  m : Nat
  hs : List Root
  ws : List W
  v : V
  h : List Root
  nx : Nat
open Classical in
noncomputable def callHF : List HFact → CallH
  | [], _, _, _, _, _ => none
  | p :: F, g, s, m, hs, ws => if p.g = g ∧ p.s = s ∧ p.m = m ∧ p.hs = hs ∧ p.ws = ws then some (p.v, p.h, p.nx) else callHF F g s m hs ws
def HFact.Ok (P : Program) (p : HFact) : Prop := HCt P p.g p.s p.m p.hs p.ws p.v p.h p.nx
theorem callHF_ok {P : Program} : ∀ {F : List HFact}, (∀ p ∈ F, p.Ok P) → HOk P (callHF F)
  | [], _ => fun g a b c d e f i h => by cases h
  | p :: F, hF => fun g s m hs ws v h' nx h => by
    simp only [callHF] at h
    split at h
    · rename_i e
      obtain ⟨rfl, rfl, rfl, rfl, rfl⟩ := e
      simp only [Option.some.injEq, Prod.mk.injEq] at h
      obtain ⟨rfl, rfl, rfl⟩ := h
      exact hF p List.mem_cons_self
    · exact callHF_ok (fun p hp => hF p (List.mem_cons_of_mem _ hp)) g s m hs ws v h' nx h
def freshH (s : Nat) (F : List HFact) : Bool := F.all fun p => !(Nat.beq p.s s)
theorem callHF_get : ∀ {F G : List HFact} {p : HFact}, freshH p.s F = true → callHF (F ++ p :: G) p.g p.s p.m p.hs p.ws = some (p.v, p.h, p.nx)
  | [], G, p, _ => by simp [callHF]
  | q :: F, G, p, h => by
    simp only [freshH, List.all_cons, Bool.and_eq_true, Bool.not_eq_true'] at h
    simp only [List.cons_append, callHF]
    rw [if_neg, callHF_get (F := F) (by simpa [freshH] using h.2)]
    rintro ⟨_, e, _⟩
    rw [e, Nat.beq_refl] at h
    cases h.1
theorem Wd.okCH {P : Program} {E : Env} (D : Wd P E) {F : List Fact} {G : List HFact} (h1 : ∀ p ∈ F, Ct P p.1 p.2.1 p.2.2) (h2 : ∀ p ∈ G, p.Ok P) : Ok P E (callF F) (callHF G) := ⟨D.env, D.eq, callF_ok h1, callHF_ok h2⟩

section
variable {P : Program} {E : Env} {cx : Cx} {k k' : List Fr} {nx nx1 nx2 : Nat} {φ : St → Nat → Prop} {c d : Code}
  {N : Nat} {l : List (Nat × V)} {hl : List (Nat × Root)} {ops : Array Oper} {j : Nat} {rest : List Oper} {op : Op} {ty : TypeId} {pos : String} {aft : Array Edge} {g : Option (Nat × Bool)} {t : TypeId} {v : V} {dst : Nat}
theorem HCt.at {f : FuncId} {cws ws0 : List Eng.W} {v0 : V} {F : List Nat} {rts hs0 h0 hs : List Root} {m next0 lim0 lim : Nat} (hct : HCt P f m lim0 hs0 ws0 v0 h0 next0) (hsel : selO hl F = some rts) (hrts : rts = hs0.map (rnRoot (gL F nx))) (hws : cws = ws0.map (rnW (gL F nx))) (hk : hchk F m nx lim next0 hs0 h0 ws0 = true)
    (hget : ∀ n, F.contains n = true → rget hs n = lkR hl n) :
    HCt P f nx lim (sub hs 0 F) cws (rnV (gL F nx) v0) (H (outL F nx 0 h0)) (nx + (next0 - m)) ∧ (∀ n, (∃ a, a < h0.length ∧ n = gL F nx a) ↔ (n ∈ F ∨ (nx ≤ n ∧ n < nx + (h0.length - F.length)))) ∧ (∀ a b, a < h0.length → b < h0.length → gL F nx a = gL F nx b → a = b) ∧ F.length = m ∧ h0.length = next0 ∧ F.Nodup ∧ (∀ n ∈ F, n < nx) ∧
      (∀ i, i < F.length → lkR hl (gL F nx i) = rnRoot (gL F nx) (rget hs0 i)) ∧ (∀ i, ∀ q ∈ (rget hs0 i).ids, q < F.length) ∧ (∀ q ∈ ws0.flatMap W.ids, q < F.length) ∧ nx + (next0 - m) ≤ lim := by
  simp only [hchk, Bool.and_eq_true] at hk
  obtain ⟨a1, a2, a3, a4, a5, a6, a7, a8⟩ := hk
  have hm := beq_ok a1
  have hn0 := beq_ok a6
  subst hm hn0
  have hnd := nodupB_ok a2
  have hmn := Nat.le_of_ble_eq_true a7
  have hlim := Nat.le_of_ble_eq_true a8
  have hlt : ∀ n ∈ F, n < nx := fun n hn => by have := List.all_eq_true.1 a3 n hn; simpa [Nat.blt_eq] using this
  have hi0 : ∀ i, ∀ q ∈ (rget hs0 i).ids, q < F.length := fun i q hq => by
    by_cases hd : rget hs0 i = .dead
    · rw [hd] at hq; cases hq
    · have := List.all_eq_true.1 (List.all_eq_true.1 a4 _ (rget_mem hd)) q hq
      simpa [Nat.blt_eq] using this
  have hw0 : ∀ q ∈ ws0.flatMap W.ids, q < F.length := fun q hq => by have := List.all_eq_true.1 a5 q hq; simpa [Nat.blt_eq] using this
  have hsel := selO_eq hsel
  have hmap : F.map (lkR hl) = hs0.map (rnRoot (gL F nx)) := hsel.symm.trans hrts
  have hlen : hs0.length = F.length := by have := congrArg List.length hmap; simpa using this.symm
  have hroot : ∀ i, i < F.length → lkR hl (gL F nx i) = rnRoot (gL F nx) (rget hs0 i) := fun i hi => by
    have := congrArg (·[i]?) hmap
    simp only [List.getElem?_map, List.getElem?_eq_getElem hi, Option.map_some] at this
    rw [List.getElem?_eq_getElem (by omega), Option.map_some, Option.some.injEq] at this
    rw [gL_lt hi, this]
    congr 1
    simp [rget, List.getD, List.getElem?_eq_getElem (show i < hs0.length by omega)]
  have hgL : ∀ i, i < F.length → gL F nx i ∈ F := fun i hi => by rw [gL_lt hi]; exact List.getElem_mem hi
  have hinj : ∀ a b, a < h0.length → b < h0.length → gL F nx a = gL F nx b → a = b := fun a b h1 h2 e => by
    rcases Nat.lt_or_ge a F.length with ha' | ha' <;> rcases Nat.lt_or_ge b F.length with hb' | hb'
    · rw [gL_lt ha', gL_lt hb'] at e
      exact (List.getElem?_inj ha' hnd).1 (by rw [List.getElem?_eq_getElem ha', List.getElem?_eq_getElem hb', e])
    · have := hlt _ (hgL a ha'); rw [e, gL_ge hb'] at this; omega
    · have := hlt _ (hgL b hb'); rw [← e, gL_ge ha'] at this; omega
    · rw [gL_ge ha', gL_ge hb'] at e; omega
  have hcases : ∀ n, (∃ a, a < h0.length ∧ n = gL F nx a) ↔ (n ∈ F ∨ (nx ≤ n ∧ n < nx + (h0.length - F.length))) := fun n => by
    constructor
    · rintro ⟨a, ha', rfl⟩
      rcases Nat.lt_or_ge a F.length with hh | hh
      · exact .inl (hgL a hh)
      · right; rw [gL_ge hh]; omega
    · rintro (hh | hh)
      · exact ⟨idx F n, by have := idx_lt hh; omega, by rw [gL_lt (idx_lt hh)]; exact (Option.some.inj ((List.getElem?_eq_getElem (idx_lt hh)).symm.trans (idx_get hh))).symm⟩
      · exact ⟨n - nx + F.length, by omega, by rw [gL_ge (by omega)]; omega⟩
  obtain ⟨q1, q2⟩ := outO_lk (outL_0 F nx h0) fun a b p1 p2 p3 p4 => hinj a b (by omega) (by omega)
  refine ⟨?_, hcases, hinj, rfl, rfl, hnd, hlt, hroot, hi0, hw0, hlim⟩
  rw [hws]
  refine HCt.rn hct hnd (fun n hn => .inl (hlt n hn)) hmn hlim (fun i hi => rget_ge (by omega)) hi0 hw0 (fun i hi => ?_) (fun n hn => ?_) (fun i hi => ?_) (fun n hn hr => ?_)
  · rw [rget_sub, Nat.add_zero, if_pos (by simpa using hgL i hi), hget _ (by simpa using hgL i hi), hroot i hi]
  · rw [rget_sub, Nat.add_zero, if_neg (by simpa using hn)]
  · rw [rget_H, q1 i (Nat.zero_le _) (by omega), Nat.sub_zero]
  · rw [rget_H, q2 n fun a _ ha' e => ?_]
    · rfl
    · rcases (hcases n).1 ⟨a, by omega, e⟩ with hh | hh
      · exact hn hh
      · exact hr hh
theorem opds_mask {names : List Tmp} : ∀ {ts : List TypeId} {xs : List Operand} {vs : List V}, opdsL E N l ts xs = some vs → (∀ x ∈ xs, ∀ n, x = .tmp n → names.contains n = true) → ts.length = xs.length ∧ opds E (maskT names (T N l) 0) (ts.zip xs) = some vs
  | [], [], vs, h, _ => by simp only [opdsL, Option.some.injEq] at h; subst h; exact ⟨rfl, rfl⟩
  | t :: ts, x :: xs, vs, h, hn => by
    simp only [opdsL] at h
    split at h
    · rename_i v hv
      split at h
      · rename_i vs2 h2
        cases h
        obtain ⟨e1, e2⟩ := opds_mask h2 fun x hx => hn x (List.mem_cons_of_mem _ hx)
        exact ⟨by simp [e1], by simp only [List.zip_cons_cons, opds, opd_mask hv (hn x List.mem_cons_self), e2]⟩
      · cases h
    · cases h
  | [], x :: xs, vs, h, _ => by cases h
  | t :: ts, [], vs, h, _ => by cases h
def natsB : List Nat → List Nat → Bool
  | [], [] => true
  | a :: x, b :: y => Nat.beq a b && natsB x y
  | _, _ => false
theorem natsB_ok : ∀ {a b : List Nat}, natsB a b = true → a = b
  | [], [], _ => rfl
  | a :: x, b :: y, h => by
    simp only [natsB, Bool.and_eq_true] at h
    rw [beq_ok h.1, natsB_ok h.2]
  | [], _ :: _, h => by cases h
  | _ :: _, [], h => by cases h
def dhcB (N : Nat) (l : List (Nat × V)) (hl : List (Nat × Root)) (o : Oper) (cws : List W) (F : List Nat) : Bool :=
  let FT := foot (X N l hl) o
  (F.all FT.contains) && natsB (reach (trim (sub (H hl) 0 FT)) 8 (cws.flatMap W.ids)) F
theorem D.hcall {call : CallF} {callH : CallH} {base : Nat} {done : List Piece} {todo : List (Oper × Nat)} {i : Nat} {y : Piece} {dst : Option Nat} {f : FuncId} {args : Array Operand} {tys : Array TypeId} {fo : Operand} {vs : List V} {ws cws ws0 : List Eng.W} {caps : List Pt} {v0 : V} {F : List Nat} {rts hs0 h0 : List Root} {m next0 lim0 : Nat}
    (hy : itemOf E (X N l hl) done ⟨dst, .call ⟨.value fo, args, tys⟩, ty, pos, aft, g⟩ i = some y) (hc : chkB ops base done y = true) (hg : gdL ops N l g = some true) (hk : aloneB N l hl ⟨dst, .call ⟨.value fo, args, tys⟩, ty, pos, aft, g⟩ (base + zone * i) = true) (hd : dhcB N l hl ⟨dst, .call ⟨.value fo, args, tys⟩, ty, pos, aft, g⟩ cws F = true)
    (hf : opdL E N l 0 fo = some (vone (.clo f caps))) (hi : E.inl f = true) (hro : E.roImp f = false) (ha : opdsL E N l tys.toList args.toList = some vs) (hw : wsOf vs = some ws) (hcw : ws ++ caps.map (fun p => .one (.pt p)) = cws)
    (hsel : selO hl F = some rts) (hct : HCt P f m lim0 hs0 ws0 v0 h0 next0) (hrts : rts = hs0.map (rnRoot (gL F (base + zone * i)))) (hws : cws = ws0.map (rnW (gL F (base + zone * i)))) (hchk : hchk F m (base + zone * i) (base + zone * i + zone) next0 hs0 h0 ws0 = true)
    (hcall : callH f (base + zone * i) (base + zone * i + zone) (sub (trim (sub (H hl) 0 (foot (X N l hl) ⟨dst, .call ⟨.value fo, args, tys⟩, ty, pos, aft, g⟩))) 0 F) cws = some (rnV (gL F (base + zone * i)) v0, H (outL F (base + zone * i) 0 h0), base + zone * i + (next0 - m)))
    (h : RestD P E call callH cx ops base todo (y :: done) k (X N (addT dst (rnV (gL F (base + zone * i)) v0) l) (outL F (base + zone * i) 0 h0 ++ hl)) nx φ) :
    RestD P E call callH cx ops base ((⟨dst, .call ⟨.value fo, args, tys⟩, ty, pos, aft, g⟩, i) :: todo) done k (X N l hl) nx φ := by
  generalize hs : base + zone * i = s at *
  have hgetT : ∀ n, (foot (X N l hl) ⟨dst, .call ⟨.value fo, args, tys⟩, ty, pos, aft, g⟩).contains n = true → rget (trim (sub (H hl) 0 (foot (X N l hl) ⟨dst, .call ⟨.value fo, args, tys⟩, ty, pos, aft, g⟩))) n = lkR hl n := fun n hn => sub_get hn
  have m1 := fun x (hx : x ∈ (Oper.mk dst (.call ⟨.value fo, args, tys⟩) ty pos aft g).op.operands.toList) => slot_in (o := ⟨dst, .call ⟨.value fo, args, tys⟩, ty, pos, aft, g⟩) hx
  simp only [dhcB, Bool.and_eq_true] at hd
  generalize hFT : foot (X N l hl) ⟨dst, .call ⟨.value fo, args, tys⟩, ty, pos, aft, g⟩ = FT at *
  have hFF : ∀ n, F.contains n = true → FT.contains n = true := fun n hn => List.all_eq_true.1 hd.1 n (by simpa using hn)
  have hr := natsB_ok hd.2
  generalize hhs : trim (sub (H hl) 0 FT) = hsT at *
  obtain ⟨hH, hcases, hinj, e1, e2, hnd, hlt, hroot, hi0, hw0, hlim⟩ := HCt.at (lim := s + zone) (hs := hsT) hct hsel hrts hws hchk fun n hn => hgetT n (hFF n hn)
  subst e1 e2
  have hgL : ∀ i, i < F.length → gL F s i ∈ F := fun i hi => by rw [gL_lt hi]; exact List.getElem_mem hi
  have hmF : ∀ {n}, n ∈ F → F.contains n = true := fun h => by simpa using h
  obtain ⟨o1, o2⟩ := outO_lk (outO_eq F s h0 0 hl) fun a b p1 p2 p3 p4 => hinj a b (by omega) (by omega)
  obtain ⟨q1, q2⟩ := outO_lk (outL_0 F s h0) fun a b p1 p2 p3 p4 => hinj a b (by omega) (by omega)
  have hcal : calleeOf E (maskT (slotsOf ⟨dst, .call ⟨.value fo, args, tys⟩, ty, pos, aft, g⟩) (T N l) 0) ⟨.value fo, args, tys⟩ = some (f, cws) := by
    obtain ⟨g1, g2⟩ := opds_mask (names := slotsOf ⟨dst, .call ⟨.value fo, args, tys⟩, ty, pos, aft, g⟩) ha fun x hx => m1 x (by simp only [Op.operands, Call.operands]; simp [hx])
    have hsz : args.size = tys.size := by simpa using g1.symm
    simp only [calleeOf, opd_mask hf (m1 fo (by simp [Op.operands, Call.operands])), vone, hsz, if_true, g2, wsOf_eq hw, hcw]
  have hsub : (closedIn hsT F && (cws.flatMap W.ids).all F.contains && F.all (fun n => n < s || s + zone ≤ n)) = true := by
    simp only [Bool.and_eq_true, List.all_eq_true, closedIn]
    refine ⟨⟨fun n hn q hq => ?_, fun q hq => ?_⟩, fun n hn => by simp [hlt n hn]⟩
    · have hi := idx_lt hn
      have e : gL F s (idx F n) = n := by rw [gL_lt hi]; exact Option.some.inj ((List.getElem?_eq_getElem hi).symm.trans (idx_get hn))
      rw [hgetT n (hFF n (hmF hn)), ← e, hroot _ hi, rnRoot_ids] at hq
      obtain ⟨q0, hq0, rfl⟩ := List.mem_map.1 hq
      simpa using hgL q0 (hi0 _ q0 hq0)
    · rw [hws, flatMap_ids W.ids (rnW (gL F s)) (gL F s) (rnW_ids _)] at hq
      obtain ⟨q0, hq0, rfl⟩ := List.mem_map.1 hq
      simpa using hgL q0 (hw0 q0 hq0)
  refine D.loud (v := rnV (gL F s) v0) (next := s + (h0.length - F.length)) (h' := merge (fun n => F.contains n || (s ≤ n && n < s + (h0.length - F.length))) hsT 0 (H (outL F s 0 h0))) (hl2 := outL F s 0 h0 ++ hl) hy hc hg ?_ (by rw [hs]; exact hk) ?_ (by rw [hs]; exact hlim) (fun n => ?_) h
  · show Eng.loud E (T N l) (.call ⟨.value fo, args, tys⟩) = true
    rw [loud_T hf, hi]
  · rw [hs, hFT, hhs]
    simp only [evL, loudCall, hcal, hi, if_true, hr, hsub, hcall, hro, Bool.false_eq_true, if_false]
  · rw [hs, hFT]
    by_cases hin : n ∈ F ∨ (s ≤ n ∧ n < s + (h0.length - F.length))
    · have hp : (FT.contains n || (decide (s ≤ n) && decide (n < s + (h0.length - F.length)))) = true := by
        rcases hin with hin | hin
        · rw [hFF n (hmF hin)]; rfl
        · simp [hin.1, hin.2]
      rw [if_pos hp, rget_merge, Nat.add_zero, if_pos (by simpa using hin), rget_H]
      obtain ⟨a, ha', rfl⟩ := (hcases n).2 hin
      rw [q1 a (Nat.zero_le _) (by omega), o1 a (Nat.zero_le _) (by omega)]
    · have hne : ∀ a, 0 ≤ a → a < 0 + h0.length → n ≠ gL F s a := fun a _ ha' e => hin ((hcases n).1 ⟨a, by omega, e⟩)
      rw [o2 n hne]
      split
      · rename_i hq
        rw [rget_merge, Nat.add_zero, if_neg (by simpa using hin)]
        simp only [Bool.or_eq_true, Bool.and_eq_true, decide_eq_true_eq] at hq
        rcases hq with hq | hq
        · exact hgetT n hq
        · exact absurd (.inr hq) hin
      · rfl
end
end Go.Proofs.YtfokmnafgabdiaaGreatDoor.Eng
namespace Go.Proofs.YtfokmnafgabdiaaGreatDoor.Eng
open Go Go.RowKit
set_option linter.unusedVariables false
set_option linter.unusedSimpArgs false

inductive HcD (P : Program) (E : Env) (N : Nat) (l : List (Nat × V)) (hl : List (Nat × Root)) (o : Oper) (start : Nat) (S : List Nat) (f : FuncId) (caps : List Pt) (args : Array Operand) (tys : Array TypeId) (K : V → List (Nat × Root) → Prop) : Prop where
  | mk {vs : List V} {ws cws ws0 : List W} {v0 : V} {F : List Nat} {rts hs0 h0 : List Root} {m next0 lim0 : Nat} (hro : E.roImp f = false) (ha : opdsL E N l tys.toList args.toList = some vs) (hw : wsOf vs = some ws) (hcw : ws ++ caps.map (fun p => .one (.pt p)) = cws)
    (hF : reachL hl 8 (cws.flatMap W.ids) = F) (hsel : selO hl F = some rts) (hct : HCt P f m lim0 hs0 ws0 v0 h0 next0) (hrts : rts = hs0.map (rnRoot (gL F start))) (hws : cws = ws0.map (rnW (gL F start))) (hk : hchk F m start (start + zone) next0 hs0 h0 ws0 = true) (hn : (S.all fun s => !(Nat.beq s start)) = true)
    (hal : aloneB N l hl o start = true ∧ dhcB N l hl o cws F = true) (k : fNats F fun F => fV (rnV (gL F start) v0) fun v => outW F start 0 h0 hl fun hl2 => K v hl2) : HcD P E N l hl o start S f caps args tys K
def dstepW2 (P : Program) (E : Env) (N : Nat) (l : List (Nat × V)) (hl : List (Nat × Root)) (o : Oper) (start : Nat) (F : List Fact) (S : List Nat) (K : List Fact → List Nat → List (Nat × V) → List (Nat × Root) → Prop) : Prop := match o with
  | ⟨none, .store t x y, ty, pos, aft, g⟩ => onTy E t fun _ sz _ _ => opPt E N l x fun p => onO (opdL E N l t y) fun u => onO u.cells fun xs => onT (Nat.beq xs.length sz) (match p with
    | .ptr n i j => match lkR hl n with
      | .var cells => onT (Nat.beq i 0) (onO (splO cells j xs) fun cs2 => Need (storeB N l hl o start n = true) (fV1s cs2 fun cs2 => K F S l ((n, .var cs2) :: hl)))
      | .rows s3 rs => onO (mapO quietC xs) fun cs => Find (rs[i]?) fun row => onO (splO row j cs) fun row2 => fCs row2 fun row2 => Calc (rs.set i row2) fun rs2 => Need (aloneB N l hl o start = true ∧ (foot (X N l hl) o).contains n = true) (K F S l ((n, .rows s3 rs2) :: hl))
      | _ => False
    | _ => False)
  | ⟨some dst, .call ⟨.builtin .append, ⟨[x, y]⟩, ⟨[t, u]⟩⟩, ty, pos, aft, g⟩ =>
    onTy E t fun kd sz by_ z => onSl kd fun e => onTy E u fun kd2 sz2 by2 z2 => onSl kd2 fun e2 => onTy E e fun _ se be _ => onT (Nat.ble be 1024 && Nat.beq sz sz2 && Nat.beq by_ by2) (onO (opdL E N l t x) fun v => onOne v fun y0 => onO (opdL E N l u y) fun v1 => onOne v1 fun y1 => onRows hl y1 fun s3 new => onT (Nat.beq s3 se) (match y0 with
    | .ref r0 off n0 none => match lkR hl r0 with
      | .rows s4 rs => onT (Nat.beq s4 se && Nat.beq off 0) (Need (rs.length = n0 ∧ n0 + new.length ≤ mostRows) (Need (aloneB N l hl o start = true ∧ (foot (X N l hl) o).contains r0 = true ∧ inF (foot (X N l hl) o) y1 = true) (Calc (rs ++ new) fun rs2 => K F S ((dst, vone (.ref start 0 rs2.length none)) :: l) ((start, .rows se rs2) :: (r0, .dead) :: hl))))
      | _ => False
    | .nil _ => Need (new.length ≤ mostRows) (Need (aloneB N l hl o start = true ∧ inF (foot (X N l hl) o) y1 = true) (K F S ((dst, vone (.ref start 0 new.length none)) :: l) ((start, .rows se new) :: hl)))
    | _ => False))
  | ⟨dst, .call ⟨.value fo, args, tys⟩, ty, pos, aft, g⟩ => onO (opdL E N l 0 fo) fun v => match v with
    | .w (.one (.clo f caps)) => match E.inl f with
      | true => HcD P E N l hl ⟨dst, .call ⟨.value fo, args, tys⟩, ty, pos, aft, g⟩ start S f caps args tys fun v hl2 => addK dst v l fun l => K F (S ++ [start]) l hl2
      | false => match dst with
        | some d => preW E N l hl fo args tys fun f bs tch => CallD P F f bs fun r => postW tch r start fun v rs => onT (Nat.ble rs.length zone) (K (F ++ [(f, bs, r)]) S ((d, v) :: l) (putsL hl start rs))
        | none => False
    | _ => False
  | ⟨some dst, .buildSlice t len parts, ty, pos, aft, g⟩ => onTy E t fun kd _ _ _ => onSl kd fun e => onTy E e fun _ sz _ z => onT (Nat.ble (len * sz) (2 ^ 24) && (parts.toList.all fun p => match p.2 with | .tmp t => Nat.blt t N | _ => true)) (onT (!(parts.toList.any fun p => refIn l p.2)) (onO (mapO quietC z) fun zc => onO (opdsL E N l (parts.toList.map fun _ => e) (parts.toList.map (·.2))) fun vs =>
      onO (fillRows sz (List.replicate len zc) ((parts.toList.map (·.1)).zip vs)) fun rows => fRows rows fun rows => K F S ((dst, vone (.ref start 0 len none)) :: l) ((start, .rows sz rows) :: hl)))
  | ⟨some dst, op, ty, pos, aft, g⟩ => qW E N l hl start ty op fun v rs => onT (Nat.ble rs.length zone) (K F S ((dst, v) :: l) (putsL hl start rs))
  | _ => False
noncomputable def drawW2 (P : Program) (E : Env) (ops : Array Oper) (N base nxE : Nat) (K : SP) (os : List (Oper × Nat)) : List Piece → List Fact → List Nat → List (Nat × V) → List (Nat × Root) → Prop :=
  @List.rec (Oper × Nat) (fun _ => List Piece → List Fact → List Nat → List (Nat × V) → List (Nat × Root) → Prop) (fun _ _ _ l hl => K l hl nxE) (fun o todo ih done F S l hl => gW ops N l o.1.guard
      (fun l => onO (itemOf E (X N l hl) done o.1 o.2) fun y => Need (chkB ops base done y = true) (dstepW2 P E N l hl o.1 (base + zone * o.2) F S fun F S l hl => ih (y :: done) F S l hl))
      (fun l => onO (itemOf E (X N l hl) done o.1 o.2) fun y => Need (chkB ops base done y = true) (addK o.1.dst (.tup []) l fun l => ih (y :: done) F S l hl))) os
section
variable {P : Program} {E : Env} {cx : Cx} {k k' : List Fr} {nx nx1 nx2 : Nat} {φ : St → Nat → Prop} {c d : Code}
  {N : Nat} {l : List (Nat × V)} {hl : List (Nat × Root)} {ops : Array Oper} {j : Nat} {rest : List Oper} {op : Op} {ty : TypeId} {pos : String} {aft : Array Edge} {g : Option (Nat × Bool)} {t : TypeId} {v : V}
def RD (P : Program) (E : Env) (cx : Cx) (ops : Array Oper) (base : Nat) (todo : List (Oper × Nat)) (done : List Piece) (k : List Fr) (S : St) (nx : Nat) (φ : St → Nat → Prop) (F : List Fact) (G : List HFact) : Prop :=
  ∃ a b, (∀ p ∈ F ++ a, Ct P p.1 p.2.1 p.2.2) ∧ (∀ p ∈ G ++ b, p.Ok P) ∧ RestD P E (callF (F ++ a)) (callHF (G ++ b)) cx ops base todo done k S nx φ
theorem D.appNil {call : CallF} {callH : CallH} {base dst : Nat} {done : List Piece} {todo : List (Oper × Nat)} {i : Nat} {y : Piece} {x x2 : Operand} {u e e2 : TypeId} {sz by_ sz2 by2 s0 : Nat} {z zu z2 : List V1} {kd2 : TK} {y1 : V1} {s3 : Nat} {new : List (List C)} (hy : itemOf E (X N l hl) done ⟨some dst, .call ⟨.builtin .append, #[x, x2], #[t, u]⟩, ty, pos, aft, g⟩ i = some y) (hc : chkB ops base done y = true)
    (hg : gdL ops N l g = some true) (hi : E.ty t = some ⟨.slice e, sz, by_, z⟩) (hu : E.ty u = some ⟨.slice e2, sz, by_, zu⟩) (hj : E.ty e = some ⟨kd2, sz2, by2, z2⟩) (hx : opdL E N l t x = some (vone (.nil s0))) (hx2 : opdL E N l u x2 = some (vone y1)) (hr : rowsL hl y1 = some (s3, new)) (hs : s3 = sz2) (hb : Nat.ble by2 1024 = true) (hlen : new.length ≤ mostRows)
    (hk : aloneB N l hl ⟨some dst, .call ⟨.builtin .append, #[x, x2], #[t, u]⟩, ty, pos, aft, g⟩ (base + zone * i) = true) (hf2 : inF (foot (X N l hl) ⟨some dst, .call ⟨.builtin .append, #[x, x2], #[t, u]⟩, ty, pos, aft, g⟩) y1 = true)
    (h : RestD P E call callH cx ops base todo (y :: done) k (X N ((dst, vone (.ref (base + zone * i) 0 new.length none)) :: l) ((base + zone * i, .rows sz2 new) :: hl)) nx φ) : RestD P E call callH cx ops base ((⟨some dst, .call ⟨.builtin .append, #[x, x2], #[t, u]⟩, ty, pos, aft, g⟩, i) :: todo) done k (X N l hl) nx φ := by
  have hb := Nat.le_of_ble_eq_true hb
  subst hs
  have m1 : ∀ m, x = .tmp m → _ := slot_in (o := ⟨some dst, .call ⟨.builtin .append, #[x, x2], #[t, u]⟩, ty, pos, aft, g⟩) (x := x) (by simp [Op.operands, Call.operands])
  have m2 : ∀ m, x2 = .tmp m → _ := slot_in (o := ⟨some dst, .call ⟨.builtin .append, #[x, x2], #[t, u]⟩, ty, pos, aft, g⟩) (x := x2) (by simp [Op.operands, Call.operands])
  generalize hF : foot (X N l hl) ⟨some dst, .call ⟨.builtin .append, #[x, x2], #[t, u]⟩, ty, pos, aft, g⟩ = F at *
  have hrow : rowsOf (trim (sub (H hl) 0 F)) y1 = some (s3, new) := by
    rw [← hr]
    cases y1 with
    | ref m off len cap =>
      have hm : F.contains m = true := hf2
      simp only [rowsOf, rowsL, sub_get hm]
      cases lkR hl m <;> rfl
    | c x => cases x <;> rfl
    | nil s => rfl
    | pt p => rfl
    | clo a b => rfl
  refine D.loud (o := ⟨some dst, .call ⟨.builtin .append, #[x, x2], #[t, u]⟩, ty, pos, aft, g⟩) (next := base + zone * i + 1) hy hc hg rfl hk (h' := put (trim (sub (H hl) 0 F)) (base + zone * i) (.rows s3 new)) (v := vone (.ref (base + zone * i) 0 new.length none)) ?_ (by simp [zone]) ?_ h
  · rw [hF]
    simp only [evL, hi, hu, opd_mask hx m1, opd_mask hx2 m2, vone, appendTo, hj, hrow, true_or, if_true, appendRows, hb, hlen, Option.map_some]
  · intro m
    rw [hF, lkR_cons]
    by_cases e1 : m = base + zone * i
    · subst e1
      rw [if_pos (by simp), rget_put_self, if_pos rfl]
    · rw [if_neg e1]
      split
      · rename_i hq2
        rw [rget_put_ne _ _ e1]
        simp only [Bool.or_eq_true, Bool.and_eq_true, decide_eq_true_eq] at hq2
        rcases hq2 with hq2 | hq2
        · exact sub_get hq2
        · omega
      · rfl
theorem dstepW2_ok {base : Nat} {done : List Piece} {todo : List (Oper × Nat)} {o : Oper} {i : Nat} {y : Piece} {F : List Fact} {G : List HFact} {S : List Nat} {K : List Fact → List Nat → List (Nat × V) → List (Nat × Root) → Prop} (hF : ∀ p ∈ F, Ct P p.1 p.2.1 p.2.2) (hG : ∀ p ∈ G, p.Ok P) (hS : G.map HFact.s = S)
    (hy : itemOf E (X N l hl) done o i = some y) (hc : chkB ops base done y = true) (hg : gdL ops N l o.guard = some true) (h : dstepW2 P E N l hl o (base + zone * i) F S K)
    (go : ∀ F G S l hl, (∀ p ∈ F, Ct P p.1 p.2.1 p.2.2) → (∀ p ∈ G, p.Ok P) → G.map HFact.s = S → K F S l hl → RD P E cx ops base todo (y :: done) k (X N l hl) nx φ F G) :
    RD P E cx ops base ((o, i) :: todo) done k (X N l hl) nx φ F G := by
  unfold dstepW2 at h
  split at h
  · obtain ⟨_, sz, _, _, hi, h⟩ := onTy_ok h
    obtain ⟨p, hp, h⟩ := opPt_ok h
    obtain ⟨u, hu, h⟩ := onO_ok h
    obtain ⟨xs, hx, h⟩ := onO_ok h
    obtain ⟨e, h⟩ := onT_ok h
    cases p with
    | rp cs => exact h.elim
    | ptr n i2 j2 =>
      simp only at h
      split at h
      · rename_i cells hr
        obtain ⟨e0, h⟩ := onT_ok h
        obtain ⟨cs2, hs, hk, h⟩ := onO_ok h
        have h := fV1s_ok (K := fun cs2 => K F S l ((n, .var cs2) :: hl)) h
        obtain ⟨a, b, g1, g2, g3⟩ := go _ _ _ _ _ hF hG hS h
        rw [beq_ok e0] at hp
        exact ⟨a, b, g1, g2, D.store hy hc hg hi hp hu hx e hr hs hk g3⟩
      · rename_i s3 rs hr
        obtain ⟨cs, hq, h⟩ := onO_ok h
        obtain ⟨row, hrow, h⟩ := h
        obtain ⟨row2, hs, h⟩ := onO_ok h
        obtain ⟨rs2, hrs, h⟩ := fCs_ok (K := fun row2 => Calc (rs.set i2 row2) fun rs2 => Need (aloneB N l hl _ (base + zone * i) = true ∧ (foot (X N l hl) _).contains n = true) (K F S l ((n, .rows s3 rs2) :: hl))) h
        obtain ⟨a, b, g1, g2, g3⟩ := go _ _ _ _ _ hF hG hS h.go
        exact ⟨a, b, g1, g2, D.storeRow hy hc hg hi hp hu hx e hr hq hrow hs hrs h.n.1 h.n.2 g3⟩
      · exact h.elim
  · obtain ⟨_, sz, by_, z, hi, h⟩ := onTy_ok h
    obtain ⟨e, e0, h2⟩ := onSl_ok h
    clear h
    subst e0
    obtain ⟨_, sz2, by2, z2, hu, h⟩ := onTy_ok h2
    clear h2
    obtain ⟨e2, e0, h2⟩ := onSl_ok h
    clear h
    subst e0
    obtain ⟨_, se, be, ze, hj, h⟩ := onTy_ok h2
    clear h2
    obtain ⟨e1, h⟩ := onT_ok h
    simp only [Bool.and_eq_true] at e1
    have q1 := beq_ok e1.1.2
    have q2 := beq_ok e1.2
    rw [← q1, ← q2] at hu
    obtain ⟨v, hv, h⟩ := onO_ok h
    obtain ⟨y0, e0, h2⟩ := onOne_ok h
    clear h
    subst e0
    obtain ⟨v1, hv1, h⟩ := onO_ok h2
    clear h2
    obtain ⟨y1, e0, h2⟩ := onOne_ok h
    clear h
    subst e0
    obtain ⟨s3, new, hr, h⟩ := onRows_ok h2
    clear h2
    obtain ⟨e3, h⟩ := onT_ok h
    have e3 := beq_ok e3
    split at h
    · split at h
      · rename_i hq
        obtain ⟨e4, h⟩ := onT_ok h
        simp only [Bool.and_eq_true] at e4
        have q4 := beq_ok e4.2
        rw [q4] at hv
        obtain ⟨hn, hk, rs2, hrs, h⟩ := h
        subst hrs
        obtain ⟨a, b, g1, g2, g3⟩ := go _ _ _ _ _ hF hG hS h
        rw [List.length_append, hn.1] at g3
        exact ⟨a, b, g1, g2, D.app2 hy hc hg hi hu hj hv hq hv1 hr e3 (beq_ok e4.1) e1.1.1 hn.1 hn.2 rfl hk.1 hk.2.1 hk.2.2 g3⟩
      · exact h.elim
    · obtain ⟨hn, hk, h⟩ := h
      obtain ⟨a, b, g1, g2, g3⟩ := go _ _ _ _ _ hF hG hS h
      exact ⟨a, b, g1, g2, D.appNil hy hc hg hi hu hj hv hv1 hr e3 e1.1.1 hn hk.1 hk.2 g3⟩
    · exact h.elim
  · rename_i dst fo args tys ty pos aft g
    obtain ⟨v0, hv0, h⟩ := onO_ok h
    split at h
    · rename_i f caps
      split at h
      · rename_i hi
        obtain ⟨hro, ha, hw, hcw, hFe, hsel, hct, hrts, hws, hk, hn, hal, h⟩ := h
        rename_i vs ws cws ws0 v1 L rts hs0 h0 m next0 lim0
        have h := fNats_ok (K := fun F' => fV (rnV (gL F' (base + zone * i)) v1) fun v => outW F' (base + zone * i) 0 h0 hl fun hl2 => addK dst v l fun l => K F (S ++ [base + zone * i]) l hl2) h
        have h := fV_ok (K := fun v => outW L (base + zone * i) 0 h0 hl fun hl2 => addK dst v l fun l => K F (S ++ [base + zone * i]) l hl2) h
        obtain ⟨o2, h2, h⟩ := outW_ok h
        rw [outO_eq] at h2
        obtain rfl := (Option.some.inj h2).symm
        have h := addK_ok (K := fun l => K F (S ++ [base + zone * i]) l _) h
        have hgt : ∀ n, L.contains n = true → rget (trim (sub (H hl) 0 (foot (X N l hl) ⟨dst, .call ⟨.value fo, args, tys⟩, ty, pos, aft, g⟩))) n = lkR hl n := fun n hn => sub_get (by
          have := hal.2
          simp only [dhcB, Bool.and_eq_true] at this
          exact List.all_eq_true.1 this.1 n (by simpa using hn))
        have hat := (HCt.at (lim := base + zone * i + zone) hct hsel hrts hws hk hgt).1
        let p : HFact := ⟨f, base + zone * i, base + zone * i + zone, sub (trim (sub (H hl) 0 (foot (X N l hl) ⟨dst, .call ⟨.value fo, args, tys⟩, ty, pos, aft, g⟩))) 0 L, cws, rnV (gL L (base + zone * i)) v1, H (outL L (base + zone * i) 0 h0), base + zone * i + (next0 - m)⟩
        have hp : p.Ok P := hat
        have hG2 : ∀ q ∈ G ++ [p], q.Ok P := fun q hq => by
          rcases List.mem_append.1 hq with hq | hq
          · exact hG q hq
          · rw [List.mem_singleton.1 hq]; exact hp
        obtain ⟨a, b, g1, g2, g3⟩ := go F (G ++ [p]) (S ++ [base + zone * i]) _ _ hF hG2 (by rw [List.map_append, hS]; rfl) h
        rw [List.append_assoc] at g2 g3
        have hnew : freshH p.s G = true := by
          rw [← hS, List.all_map] at hn
          exact hn
        exact ⟨a, [p] ++ b, g1, g2, D.hcall hy hc hg hal.1 hal.2 hv0 hi hro ha hw hcw hsel hct hrts hws hk (callHF_get hnew) g3⟩
      · split at h
        · obtain ⟨h1, f, bs, tch, h2, h3⟩ := callQ_ok (ty := ty) (nx := base + zone * i) h
          obtain ⟨r, hr, hfr, h⟩ := h2
          have hF2 : ∀ p ∈ F ++ [(f, bs, r)], Ct P p.1 p.2.1 p.2.2 := fun p hp => by
            rcases List.mem_append.1 hp with hp | hp
            · exact hF p hp
            · rw [List.mem_singleton.1 hp]; exact hr
          obtain ⟨v, rs, h4, h5⟩ := h3 r _ h
          obtain ⟨h5, h6⟩ := onT_ok h5
          obtain ⟨a, b, g1, g2, g3⟩ := go _ _ _ _ _ hF2 hG hS h6
          rw [List.append_assoc] at g1 g3
          have hcall : callF (F ++ ([(f, bs, r)] ++ a)) f bs = some r := fresh_get hfr
          exact ⟨[(f, bs, r)] ++ a, b, g1, g2, D.q hy hc hg h1 (h4 _ hcall) h5 rfl g3⟩
        · exact h.elim
    · exact h.elim
  · rename_i dst t len parts ty pos aft g
    obtain ⟨_, _, _, _, hi, h⟩ := onTy_ok h
    obtain ⟨e, e0, h2⟩ := onSl_ok h
    clear h
    subst e0
    obtain ⟨_, sz, _, z, hj, h⟩ := onTy_ok h2
    clear h2
    obtain ⟨e1, h⟩ := onT_ok h
    obtain ⟨e2, h⟩ := onT_ok h
    obtain ⟨zc, hz, h⟩ := onO_ok h
    obtain ⟨vs, ho, h⟩ := onO_ok h
    obtain ⟨rs, h1, h⟩ := onO_ok h
    have g3 := fRows_ok (K := fun rows => K F S ((dst, vone (.ref (base + zone * i) 0 len none)) :: l) ((base + zone * i, .rows sz rows) :: hl)) h
    simp only [Bool.and_eq_true] at e1
    have hle : len * sz ≤ 2 ^ 24 := Nat.le_of_ble_eq_true e1.1
    obtain ⟨_, ho⟩ := opds_T ho
    rw [zip_map2] at ho
    have hl1 := loud_any (E := E) (l := l) (t := t) (len := len) e1.2
    have e2 : (parts.toList.any fun p => refIn l p.2) = false := by simpa using e2
    rw [e2] at hl1
    obtain ⟨a, b, q1, q2, q3⟩ := go _ _ _ _ _ hF hG hS g3
    refine ⟨a, b, q1, q2, D.q (rs := [.rows sz rs]) hy hc hg hl1 ?_ rfl rfl q3⟩
    simp only [evQ, hi, hj, hz]
    rw [if_pos hle, ho]
    simp only [h1, Option.map_some]
  · obtain ⟨h1, v, rs, h2, h3⟩ := qW_ok h
    obtain ⟨h3, h4⟩ := onT_ok h3
    obtain ⟨a, b, g1, g2, g3⟩ := go _ _ _ _ _ hF hG hS h4
    exact ⟨a, b, g1, g2, D.q hy hc hg h1 (h2 _) h3 rfl g3⟩
  · exact h.elim
theorem drawW2_ok {base nxE : Nat} {K : SP} (hK : ∀ l hl nx, K l hl nx → Rest P cx k (X N l hl) nx φ) : ∀ (todo : List (Oper × Nat)) (done : List Piece) (F : List Fact) (G : List HFact) (S : List Nat) (l : List (Nat × V)) (hl : List (Nat × Root)), (∀ p ∈ F, Ct P p.1 p.2.1 p.2.2) → (∀ p ∈ G, p.Ok P) → G.map HFact.s = S → drawW2 P E ops N base nxE K todo done F S l hl →
    RD P E cx ops base todo done k (X N l hl) nxE φ F G := by
  intro todo
  induction todo with
  | nil => intro done F G S l hl hF hG hS h; exact ⟨[], [], by simpa using hF, by simpa using hG, RestD.nil (hK _ _ _ h)⟩
  | cons o todo ih =>
    intro done F G S l hl hF hG hS h
    obtain ⟨o, i⟩ := o
    have h : gW ops N l o.guard (fun l => onO (itemOf E (X N l hl) done o i) fun y => Need (chkB ops base done y = true) (dstepW2 P E N l hl o (base + zone * i) F S fun F S l hl => drawW2 P E ops N base nxE K todo (y :: done) F S l hl))
      (fun l => onO (itemOf E (X N l hl) done o i) fun y => Need (chkB ops base done y = true) (addK o.dst (.tup []) l fun l => drawW2 P E ops N base nxE K todo (y :: done) F S l hl)) := h
    obtain ⟨l', e, h⟩ := gW_ok h
    rw [← X_eq (hl := hl) e]
    rcases h with ⟨hg, h⟩ | ⟨hg, h⟩
    · obtain ⟨y, hy, hc, h⟩ := onO_ok h
      exact dstepW2_ok hF hG hS hy hc hg h fun F G S l hl hF hG hS h => ih (y :: done) F G S l hl hF hG hS h
    · obtain ⟨y, hy, hc, h⟩ := onO_ok h
      obtain ⟨a, b, g1, g2, g3⟩ := ih (y :: done) F G S _ hl hF hG hS (addK_ok (K := fun l => drawW2 P E ops N base nxE K todo (y :: done) F S l hl) h)
      exact ⟨a, b, g1, g2, D.no hy hc hg g3⟩
theorem Z.draw2 (W : Wd P E) {id : Nat} (hlim : Nat.ble (nx + zone * ops.size) cx.lim = true) (h : ∀ K : SP, (∀ l hl nx, Z P cx k N l hl nx φ → K l hl nx) → fNat (nx + zone * ops.size) fun m => drawW2 P E ops N nx m K ops.toList.zipIdx [] [] [] l hl) : Z P cx (.code (.region id ops true) :: k) N l hl nx φ := by
  have h := h (fun l hl nx => Rest P cx k (X N l hl) nx φ) fun _ _ _ h => h.of
  have h := fNat_ok (K := fun m => drawW2 P E ops N nx m (fun l hl nx => Rest P cx k (X N l hl) nx φ) ops.toList.zipIdx [] [] [] l hl) h
  obtain ⟨a, b, g2, g3, g4⟩ := drawW2_ok (cx := cx) (φ := φ) (fun _ _ _ h => h) _ [] [] [] [] l hl (fun p hp => by cases hp) (fun p hp => by cases hp) rfl h
  exact ⟨Rest.draw (W.okCH g2 g3) (Nat.le_of_ble_eq_true hlim) g4⟩
end
end Go.Proofs.YtfokmnafgabdiaaGreatDoor.Eng
namespace Go.Proofs.YtfokmnafgabdiaaGreatDoor.Eng
open Go Go.RowKit
set_option linter.unusedVariables false
set_option linter.unusedSimpArgs false

theorem Ct.toRo {P : Program} {f : FuncId} {bs : List BW} {r r2 : BV} (h : Ct P f bs r) (hn : r.noPv = true) (e : r.toRo = r2) : Ct P f bs r2 := by
  subst e
  obtain ⟨h1, h2⟩ := h
  refine ⟨h1, fun w A cargs a1 a2 a3 a4 a5 => (h2 w A cargs a1 a2 a3 a4 a5).mono ?_⟩
  rintro e w' ⟨u, σ', A', rfl, hx, hb⟩
  obtain ⟨A4, hb2⟩ := hb.toRo (a4.ext hx (fun _ _ h => h) hb.ale) hn
  exact ⟨u, σ', A4, rfl, hx, hb2⟩
end Go.Proofs.YtfokmnafgabdiaaGreatDoor.Eng
namespace Go.Proofs.YtfokmnafgabdiaaGreatDoor.Eng
open Go Go.RowKit
set_option linter.unusedVariables false
set_option linter.unusedSimpArgs false

section
variable {P : Program} {E : Env} {cx : Cx} {k : List Fr} {nx : Nat} {φ : St → Nat → Prop} {N : Nat} {l : List (Nat × V)} {hl : List (Nat × Root)}
theorem actPut_same {a : Act} {n : Nat} {u : Value} (h : a.tmps.toList[n]? = some u) : a.put (some n) u = a := by
  have e : a.tmps.setIfInBounds n u = a.tmps := by
    apply Array.ext'
    rw [Array.toList_setIfInBounds]
    apply List.ext_getElem?
    intro i
    rw [List.getElem?_set]
    split
    · rename_i hi
      subst hi
      have hlt := (List.getElem?_eq_some_iff.1 h).1
      rw [if_pos hlt, h]
    · rfl
  simp only [Act.put, e]
theorem Rest.nilRoot {n sz : Nat} (hn : Nat.blt n N = true) (h0 : lk l n = vone (.nil sz)) (hlim : Nat.ble (nx + 1) cx.lim = true) (h : Rest P cx k (X N ((n, vone (.ref nx 0 0 none)) :: l) ((nx, .rows sz []) :: hl)) (nx + 1) φ) : Rest P cx k (X N l hl) nx φ := by
  intro B hB Q K σ A a w R hk hq
  have hlim := Nat.le_of_ble_eq_true hlim
  have hs : ¬ K nx := hk.free hB nx (Nat.le_refl _) (by omega)
  have hget : (X N l hl).tmps[n]? = some (vone (.nil sz)) := by
    show (T N l)[n]? = _
    rw [T_get (blt_ok hn), h0]
  obtain ⟨u, hu, r⟩ := R.tmps.get hget
  have r : u = .slice none 0 0 := r
  have R2 := R.adopt (fun m hm => R.k0 m hm) hs (r := .rows sz []) (x := none) (dst := some n) (v := vone (.ref nx 0 0 none)) (u := u) rfl (by simp) ⟨by simp, .inl ⟨by simp, rfl⟩⟩ (by simp [Root.ids]) ⟨by rw [r]; rfl, fun sz' rs hq => by
    rw [rget_put_self] at hq
    rcases hq with hq | hq
    · cases hq; exact ⟨by simp, none, 0, r, by simp, by simp, .inl rfl⟩
    · cases hq⟩ (fun m hm => by simpa [vone, V.ids, W.ids, V1.ids] using hm)
  rw [actPut_same hu] at R2
  obtain ⟨A2, R3⟩ := R2.like (S2 := X N ((n, vone (.ref nx 0 0 none)) :: l) ((nx, .rows sz []) :: hl)) ⟨T_set N l n _, fun m => by
    show rget (put (H hl) nx _) m = rget (H _) m
    rw [rget_put, rget_H, rget_H, lkR_cons]⟩
  exact h B hB Q _ _ A2 a w R3 (hk.more (Nat.le_succ _)) hq
theorem Z.nilRoot {n sz : Nat} (hn : Nat.blt n N = true) (h0 : lk l n = vone (.nil sz)) (hlim : Nat.ble (nx + 1) cx.lim = true) (h : fNat (nx + 1) fun m => Z P cx k N ((n, vone (.ref nx 0 0 none)) :: l) ((nx, .rows sz []) :: hl) m φ) : Z P cx k N l hl nx φ :=
  ⟨Rest.nilRoot hn h0 hlim (fNat_ok (K := fun m => Z P cx k N ((n, vone (.ref nx 0 0 none)) :: l) ((nx, .rows sz []) :: hl) m φ) h).of⟩
end
end Go.Proofs.YtfokmnafgabdiaaGreatDoor.Eng
