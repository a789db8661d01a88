/- Merged: Env, Shelf, N1, K1, K2, K3, K4, K5, K6, K7, K8, K9, K10, K11, K12. -/
import Derived.Test.YtfokmnafgabdiaaDoorEc
import Derived.Test.YtfokmnafgabdiaaDoorRows
import Derived.ProofKit
import Derived.Shelf.Strconv.Atoi
import Derived.Ground.NamesProg
import Derived.Test.YtfokmnafgabdiaaDoorProg
import Derived.Lib.AtoiErrMem
/- The types of this seat's program, checked. -/
namespace Go.Proofs.YtfokmnafgabdiaaDoor.Eng
open Go Go.RowKit
set_option maxRecDepth 100000
def tys : List (Nat × TI) := [
  (3, ⟨.int .i64, 1, 8, [.c (.lit (.int .i64 0))]⟩),
  (4, ⟨.bool, 1, 1, [.c (.lit (.bool false))]⟩),
  (5, ⟨.int .u8, 1, 1, [.c (.lit (.int .u8 0))]⟩),
  (9, ⟨.string, 1, 16, [.c (.lit (.string ByteArray.empty))]⟩),
  (21, ⟨.int .i32, 1, 4, [.c (.lit (.int .i32 0))]⟩),
  (22, ⟨.slice 5, 1, 24, [.nil 1]⟩),
  (23, ⟨.slice 9, 1, 24, [.nil 1]⟩),
  (25, ⟨.struct [(0, 23)], 1, 24, [.nil 1]⟩),
  (30, ⟨.slice 3, 1, 24, [.nil 1]⟩),
  (41, ⟨.struct [(0, 9), (1, 3), (2, 30)], 3, 48, [.c (.lit (.string ByteArray.empty)), .c (.lit (.int .i64 0)), .nil 1]⟩),
  (45, ⟨.struct [(0, 23)], 1, 24, [.nil 1]⟩),
  (54, ⟨.struct [(0, 9), (1, 3), (2, 30)], 3, 48, [.c (.lit (.string ByteArray.empty)), .c (.lit (.int .i64 0)), .nil 1]⟩),
  (60, ⟨.slice 111, 1, 24, [.nil 2]⟩),
  (62, ⟨.struct [(0, 4), (1, 3), (2, 25), (3, 60), (4, 3), (5, 9), (6, 9)], 7, 104, [.c (.lit (.bool false)), .c (.lit (.int .i64 0)), .nil 1, .nil 2, .c (.lit (.int .i64 0)), .c (.lit (.string ByteArray.empty)), .c (.lit (.string ByteArray.empty))]⟩),
  (70, ⟨.slice 41, 1, 24, [.nil 3]⟩),
  (83, ⟨.struct [(0, 3), (1, 3), (2, 3), (3, 9), (4, 9)], 5, 56, [.c (.lit (.int .i64 0)), .c (.lit (.int .i64 0)), .c (.lit (.int .i64 0)), .c (.lit (.string ByteArray.empty)), .c (.lit (.string ByteArray.empty))]⟩),
  (107, ⟨.struct [(0, 22), (1, 3)], 2, 32, [.nil 1, .c (.lit (.int .i64 0))]⟩),
  (111, ⟨.struct [(0, 3), (1, 9)], 2, 24, [.c (.lit (.int .i64 0)), .c (.lit (.string ByteArray.empty))]⟩)]
def inls : List Nat := [30, 40, 45, 64, 71, 75, 77, 78, 82, 87, 95, 97, 107, 108, 112, 115, 116, 139, 140, 143]
def Tb : Tables := { tys := tys, fns := [], given := [], inl := inls, ro := [], eqs := [] }
/-- The environment. -/
abbrev Ee : Env := envOf Tb
theorem env_ok : EnvOk Tryd.prog Ee := envOf_ok (by kernel_rfl) (fun p hp => by cases hp) rfl (by kernel_rfl)
theorem wd : Wd Tryd.prog Ee := ⟨env_ok, fun t h => by cases h⟩
end Go.Proofs.YtfokmnafgabdiaaDoor.Eng
/- The library's reading of a number, laid at this seat by the kit's own tool. -/
namespace Go.Proofs
open Go.Shelf
def Tryd.lays172_ren : Go.Shelf.Ren := ⟨fun | 172 => 152 | 244 => 164 | 245 => 165 | 247 => 168 | 279 => 169 | 280 => 170 | 281 => 171 | 282 => 172 | 287 => 173 | 316 => 174 | 171 => 54 | 205 => 175 | 321 => 176 | 322 => 177 | 243 => 101 | 246 => 125 | 283 => 145 | 284 => 146 | 285 => 147 | 286 => 148 | 129 => 157 | 317 => 156 | 318 => 158 | 319 => 159 | 320 => 160 | 337 => 166 | 338 => 167 | n => n, fun | 9 => 9 | 3 => 3 | 75 => 119 | 76 => 120 | 4 => 4 | 5 => 5 | 167 => 151 | 37 => 22 | 0 => 0 | 85 => 152 | 2 => 2 | 168 => 154 | 53 => 132 | 175 => 159 | 46 => 143 | 210 => 162 | 127 => 137 | 145 => 167 | 143 => 165 | 21 => 21 | 171 => 131 | 173 => 135 | 212 => 140 | 51 => 141 | 20 => 20 | 213 => 142 | 232 => 157 | 233 => 158 | 80 => 122 | n => n, fun | 15 => 4 | 16 => 5 | 17 => 0 | 18 => 2 | 19 => 3 | n => n⟩
theorem Tryd.lays172 : Go.Proofs.Lays.n172 Tryd.prog Tryd.lays172_ren := {
  mixed := by kernel_rfl
  f129 := Tryd.func157.trans (congrArg some (by kernel_rfl))
  f171 := Tryd.func54.trans (congrArg some (by kernel_rfl))
  f172 := Tryd.func152.trans (congrArg some (by kernel_rfl))
  f205 := Tryd.func175.trans (congrArg some (by kernel_rfl))
  f243 := Tryd.func101.trans (congrArg some (by kernel_rfl))
  f244 := Tryd.func164.trans (congrArg some (by kernel_rfl))
  f245 := Tryd.func165.trans (congrArg some (by kernel_rfl))
  f246 := Tryd.func125.trans (congrArg some (by kernel_rfl))
  f247 := Tryd.func168.trans (congrArg some (by kernel_rfl))
  f279 := Tryd.func169.trans (congrArg some (by kernel_rfl))
  f280 := Tryd.func170.trans (congrArg some (by kernel_rfl))
  f281 := Tryd.func171.trans (congrArg some (by kernel_rfl))
  f282 := Tryd.func172.trans (congrArg some (by kernel_rfl))
  f283 := Tryd.func145.trans (congrArg some (by kernel_rfl))
  f284 := Tryd.func146.trans (congrArg some (by kernel_rfl))
  f285 := Tryd.func147.trans (congrArg some (by kernel_rfl))
  f286 := Tryd.func148.trans (congrArg some (by kernel_rfl))
  f287 := Tryd.func173.trans (congrArg some (by kernel_rfl))
  f316 := Tryd.func174.trans (congrArg some (by kernel_rfl))
  f317 := Tryd.func156.trans (congrArg some (by kernel_rfl))
  f318 := Tryd.func158.trans (congrArg some (by kernel_rfl))
  f319 := Tryd.func159.trans (congrArg some (by kernel_rfl))
  f320 := Tryd.func160.trans (congrArg some (by kernel_rfl))
  f321 := Tryd.func176.trans (congrArg some (by kernel_rfl))
  f322 := Tryd.func177.trans (congrArg some (by kernel_rfl))
  f337 := Tryd.func166.trans (congrArg some (by kernel_rfl))
  f338 := Tryd.func167.trans (congrArg some (by kernel_rfl))
  t0 := Tryd.underlying0
  a0 := Tryd.isAgg0
  z0 := Tryd.sizeOf0
  v0 := Tryd.zeroValue0
  t2 := Tryd.underlying2
  a2 := Tryd.isAgg2
  z2 := Tryd.sizeOf2
  v2 := Tryd.zeroValue2
  t3 := Tryd.underlying3
  a3 := Tryd.isAgg3
  z3 := Tryd.sizeOf3
  v3 := Tryd.zeroValue3
  t4 := Tryd.underlying4
  a4 := Tryd.isAgg4
  z4 := Tryd.sizeOf4
  v4 := Tryd.zeroValue4
  t5 := Tryd.underlying5
  a5 := Tryd.isAgg5
  z5 := Tryd.sizeOf5
  v5 := Tryd.zeroValue5
  t9 := Tryd.underlying9
  a9 := Tryd.isAgg9
  z9 := Tryd.sizeOf9
  v9 := Tryd.zeroValue9
  t20 := Tryd.underlying20
  a20 := Tryd.isAgg20
  z20 := Tryd.sizeOf20
  v20 := Tryd.zeroValue20
  t21 := Tryd.underlying21
  a21 := Tryd.isAgg21
  z21 := Tryd.sizeOf21
  v21 := Tryd.zeroValue21
  t37 := Tryd.underlying22
  a37 := Tryd.isAgg22
  z37 := Tryd.sizeOf22
  v37 := Tryd.zeroValue22
  t46 := Tryd.underlying143
  a46 := Tryd.isAgg143
  z46 := Tryd.sizeOf143
  v46 := Tryd.zeroValue143
  t51 := Tryd.underlying141
  a51 := Tryd.isAgg141
  z51 := Tryd.sizeOf141
  v51 := Tryd.zeroValue141
  t53 := Tryd.underlying132
  a53 := Tryd.isAgg132
  z53 := Tryd.sizeOf132
  v53 := Tryd.zeroValue132
  t75 := Tryd.underlying119
  a75 := Tryd.isAgg119
  z75 := Tryd.sizeOf119
  v75 := Tryd.zeroValue119
  t76 := Tryd.underlying120
  a76 := Tryd.isAgg120
  z76 := Tryd.sizeOf120
  v76 := Tryd.zeroValue120
  t85 := Tryd.underlying152
  a85 := Tryd.isAgg152
  z85 := Tryd.sizeOf152
  v85 := Tryd.zeroValue152
  t127 := Tryd.underlying137
  a127 := Tryd.isAgg137
  z127 := Tryd.sizeOf137
  v127 := Tryd.zeroValue137
  t143 := Tryd.underlying165
  a143 := Tryd.isAgg165
  z143 := Tryd.sizeOf165
  v143 := Tryd.zeroValue165
  t145 := Tryd.underlying167
  a145 := Tryd.isAgg167
  z145 := Tryd.sizeOf167
  v145 := Tryd.zeroValue167
  t167 := Tryd.underlying151
  a167 := Tryd.isAgg151
  z167 := Tryd.sizeOf151
  v167 := Tryd.zeroValue151
  t168 := Tryd.underlying154
  a168 := Tryd.isAgg154
  z168 := Tryd.sizeOf154
  v168 := Tryd.zeroValue154
  t171 := Tryd.underlying131
  a171 := Tryd.isAgg131
  z171 := Tryd.sizeOf131
  v171 := Tryd.zeroValue131
  t173 := Tryd.underlying135
  a173 := Tryd.isAgg135
  z173 := Tryd.sizeOf135
  v173 := Tryd.zeroValue135
  t175 := Tryd.underlying159
  a175 := Tryd.isAgg159
  z175 := Tryd.sizeOf159
  v175 := Tryd.zeroValue159
  t210 := Tryd.underlying162
  a210 := Tryd.isAgg162
  z210 := Tryd.sizeOf162
  v210 := Tryd.zeroValue162
  t212 := Tryd.underlying140
  a212 := Tryd.isAgg140
  z212 := Tryd.sizeOf140
  v212 := Tryd.zeroValue140
  t213 := Tryd.underlying142
  a213 := Tryd.isAgg142
  z213 := Tryd.sizeOf142
  t232 := Tryd.underlying157
  a232 := Tryd.isAgg157
  z232 := Tryd.sizeOf157
  v232 := Tryd.zeroValue157
  t233 := Tryd.underlying158
  a233 := Tryd.isAgg158
  z233 := Tryd.sizeOf158
  v233 := Tryd.zeroValue158
  g15 := by kernel_rfl
  g16 := by kernel_rfl
  g17 := by kernel_rfl
  g18 := by kernel_rfl
  g19 := by kernel_rfl }
theorem Tryd.strconv_Atoi (s : ByteArray) (n : Int) (hl : s.size ≤ 18) (h : Lib.atoi s.data.toList = some n) (w : World) :
    Calls Tryd.prog 152 #[.string s] w fun e w' => e = .returned (.tuple #[.int .i64 n, .nilIface]) ∧ ∃ t, w' = Lib.bytesWorld w 5 t := Any.strconv_Atoi Tryd.lays172 s n hl h w
end Go.Proofs
/- How a secret's name reads; in plain lists, with no program in sight. -/
namespace Go.Proofs.YtfokmnafgabdiaaDoor.Kw
abbrev Str := List UInt8
/-- How a secret was made. -/
structure How where
  op : Int
  who : Int
  n : Int
  a : Str
  b : Str
  deriving DecidableEq
def how0 : How := ⟨0, 0, 0, [], []⟩
def dig (b : UInt8) : Bool := decide (48 ≤ (b.toNat : Int) ∧ (b.toNat : Int) ≤ 57)
/-- A number of at most two figures at the head of a text, and what is behind. -/
def numOf : Str → Int × Str
  | a :: b :: t => if dig b = true then (((a.toNat : Int) - 48) * 10 + (b.toNat - 48), t) else ((a.toNat : Int) - 48, b :: t)
  | [a] => ((a.toNat : Int) - 48, [])
  | [] => (0, [])
/-- What lies ahead of the end of a text. -/
def ahead (t r : Str) : Str := t.take ((t.length : Int) - (r.length : Int)).toNat
/-- Reads a name, and tells how it was made, and what is behind. -/
def nameF : Nat → Str → Option (How × Str)
  | 0, _ => none
  | _ + 1, [] => none
  | k + 1, c :: t =>
    if 65 ≤ (c.toNat : Int) ∧ (c.toNat : Int) ≤ 72 then
      match t with
      | d :: t' => if dig d = true ∧ (d.toNat : Int) ≠ 48 then
          match (numOf (d :: t')).2 with
          | e :: r => if e = 59 then some (⟨1, (c.toNat : Int) - 65, (numOf (d :: t')).1, [], []⟩, r) else none
          | [] => none
        else none
      | [] => none
    else if c = 110 then match nameF k t with
      | some (_, r) => some (⟨2, 0, 0, ahead t r, []⟩, r)
      | none => none
    else if c = 107 then match nameF k t with
      | some (_, r) => some (⟨3, 0, 0, ahead t r, []⟩, r)
      | none => none
    else if c = 101 then match nameF k t with
      | some (_, r) => match nameF k r with
        | some (_, r2) => some (⟨4, 0, 0, ahead t r, ahead r r2⟩, r2)
        | none => none
      | none => none
    else if c = 109 then match t with
      | d :: t' => if 65 ≤ (d.toNat : Int) ∧ (d.toNat : Int) ≤ 72 then match nameF k t' with
          | some (_, r) => some (⟨5, (d.toNat : Int) - 65, 0, ahead t' r, []⟩, r)
          | none => none
        else none
      | [] => none
    else if c = 114 then match t with
      | d :: t' => if 49 ≤ (d.toNat : Int) ∧ (d.toNat : Int) ≤ 57 then match nameF k t' with
          | some (_, r) => some (⟨6, 0, (d.toNat : Int) - 48, ahead t' r, []⟩, r)
          | none => none
        else none
      | [] => none
    else none
theorem numOf_len (d : UInt8) (t : Str) : (numOf (d :: t)).2.length ≤ t.length := by
  cases t with
  | nil => simp [numOf]
  | cons b t =>
    simp only [numOf]
    split <;> simp
theorem nameF_len : ∀ {k : Nat} {s r : Str} {h : How}, nameF k s = some (h, r) → r.length < s.length
  | 0, s, r, h, e => by cases e
  | k + 1, [], r, h, e => by cases e
  | k + 1, c :: t, r, h, e => by
    simp only [nameF] at e
    split at e
    · split at e
      · rename_i d t'
        split at e
        · split at e
          · rename_i x y hq
            split at e
            · have := numOf_len d t'
              rw [hq] at this
              simp only [Option.some.injEq, Prod.mk.injEq] at e
              obtain ⟨_, rfl⟩ := e
              simp at this ⊢; omega
            · cases e
          · cases e
        · cases e
      · cases e
    · split at e
      · split at e
        · rename_i hh r' hq
          have := nameF_len hq
          simp only [Option.some.injEq, Prod.mk.injEq] at e
          obtain ⟨_, rfl⟩ := e
          simp; omega
        · cases e
      · split at e
        · split at e
          · rename_i hh r' hq
            have := nameF_len hq
            simp only [Option.some.injEq, Prod.mk.injEq] at e
            obtain ⟨_, rfl⟩ := e
            simp; omega
          · cases e
        · split at e
          · split at e
            · rename_i hh r' hq
              have h1 := nameF_len hq
              split at e
              · rename_i h2 r2 hq2
                have h2 := nameF_len hq2
                simp only [Option.some.injEq, Prod.mk.injEq] at e
                obtain ⟨_, rfl⟩ := e
                simp; omega
              · cases e
            · cases e
          · split at e
            · split at e
              · split at e
                · split at e
                  · rename_i hh r' hq
                    have := nameF_len hq
                    simp only [Option.some.injEq, Prod.mk.injEq] at e
                    obtain ⟨_, rfl⟩ := e
                    simp; omega
                  · cases e
                · cases e
              · cases e
            · split at e
              · split at e
                · split at e
                  · split at e
                    · rename_i hh r' hq
                      have := nameF_len hq
                      simp only [Option.some.injEq, Prod.mk.injEq] at e
                      obtain ⟨_, rfl⟩ := e
                      simp; omega
                    · cases e
                  · cases e
                · cases e
              · cases e
end Go.Proofs.YtfokmnafgabdiaaDoor.Kw
/- What small functions answer: numbers, places. -/
namespace Go.Proofs.YtfokmnafgabdiaaDoor.Eng
open Go Go.RowKit
set_option linter.unusedVariables false
set_option linter.unusedSimpArgs false
abbrev oneB (n : Int) : Bool := decide (0 ≤ n ∧ n ≤ 7)
theorem in_ct (n lo hi : Int) : Ct Tryd.prog 52 [bI n, bI lo, bI hi] (.w (bB (decide (lo ≤ n ∧ n ≤ hi)))) := by
  refine Ct.enter wd Tryd.func52 rfl rfl Tryd.ntmps52 rfl rfl rfl rfl ?_
  by_cases h1 : n ≥ lo
  · rw [show decide (lo ≤ n ∧ n ≤ hi) = decide (n ≤ hi) from by simp; omega]
    (repeat (first | refine Rest.seq ?_ | refine Rest.skip ?_ | refine Rest.block ?_ | refine Rest.blockEnd ?_ | refine Rest.exit rfl ?_ | refine Rest.again ?_ | (refine Rest.region (id := 0) ?_; refine O.assign wd rfl rfl (le_ rfl) ?_; refine RestO.nil ?_) | (refine Rest.region (id := 1) ?_; refine O.move wd rfl rfl (le_ rfl) ?_; refine O.move wd rfl rfl (le_ rfl) ?_; refine O.binK true wd rfl rfl rfl rfl (cT (by omega)) (le_ rfl) ?_; refine O.move wd rfl rfl (le_ rfl) ?_; refine O.move wd rfl rfl (le_ rfl) ?_; refine O.move wd rfl rfl (le_ rfl) ?_; refine O.bin wd rfl rfl rfl rfl (le_ rfl) ?_; refine O.pickT wd rfl rfl rfl rfl (opd_any rfl) (le_ rfl) ?_; refine O.assign wd rfl rfl (le_ rfl) ?_; refine RestO.nil ?_) | refine Rest.ifT (E := Ee) rfl rfl ?_ | refine Rest.ifF (E := Ee) rfl rfl ?_))
    exact Rest.ret (gives_fin rfl (gvO rfl))
  · rw [show decide (lo ≤ n ∧ n ≤ hi) = false from by simp; omega]
    (repeat (first | refine Rest.seq ?_ | refine Rest.skip ?_ | refine Rest.block ?_ | refine Rest.blockEnd ?_ | refine Rest.exit rfl ?_ | refine Rest.again ?_ | (refine Rest.region (id := 0) ?_; refine O.assign wd rfl rfl (le_ rfl) ?_; refine RestO.nil ?_) | (refine Rest.region (id := 1) ?_; refine O.move wd rfl rfl (le_ rfl) ?_; refine O.move wd rfl rfl (le_ rfl) ?_; refine O.binK false wd rfl rfl rfl rfl (cF (by omega)) (le_ rfl) ?_; refine O.move wd rfl rfl (le_ rfl) ?_; refine RestO.no wd rfl ?_; refine RestO.no wd rfl ?_; refine RestO.no wd rfl ?_; refine O.pickF wd rfl rfl rfl (opd_any rfl) rfl (le_ rfl) ?_; refine O.assign wd rfl rfl (le_ rfl) ?_; refine RestO.nil ?_) | refine Rest.ifT (E := Ee) rfl rfl ?_ | refine Rest.ifF (E := Ee) rfl rfl ?_))
    exact Rest.ret (gives_fin rfl (gvO rfl))
theorem leaf_ct (who : Int) (h : 0 ≤ who ∧ who ≤ 7) : Ct Tryd.prog 63 [bI who] (.w (bI (7 + who))) := by
  refine Ct.enter wd Tryd.func63 rfl rfl Tryd.ntmps63 rfl rfl rfl rfl ?_
  (repeat (first | refine Rest.seq ?_ | refine Rest.skip ?_ | refine Rest.block ?_ | refine Rest.blockEnd ?_ | refine Rest.exit rfl ?_ | refine Rest.again ?_ | (refine Rest.region (id := 0) ?_; refine O.assign wd rfl rfl (le_ rfl) ?_; refine RestO.nil ?_) | (refine Rest.region (id := 1) ?_; refine O.move wd rfl rfl (le_ rfl) ?_; refine O.addI wd rfl rfl rfl (by omega) (le_ rfl) ?_; refine O.assign wd rfl rfl (le_ rfl) ?_; refine RestO.nil ?_) | refine Rest.ifT (E := Ee) rfl rfl ?_ | refine Rest.ifF (E := Ee) rfl rfl ?_))
  exact Rest.ret (gives_fin rfl (gvO rfl))
theorem isOne_ct (who : Int) : Ct Tryd.prog 49 [bI who] (.w (bB (oneB who))) := by
  refine Ct.enter wd Tryd.func49 rfl rfl Tryd.ntmps49 rfl rfl rfl rfl ?_
  (repeat (first | refine Rest.seq ?_ | refine Rest.skip ?_ | refine Rest.block ?_ | refine Rest.blockEnd ?_ | refine Rest.exit rfl ?_ | refine Rest.again ?_ | (refine Rest.region (id := 0) ?_; refine O.assign wd rfl rfl (le_ rfl) ?_; refine RestO.nil ?_) | (refine Rest.region (id := 1) ?_; refine O.move wd rfl rfl (le_ rfl) ?_; refine O.call_ wd rfl rfl rfl rfl rfl (mc rfl (mc rfl (mc rfl mn))) rfl rfl (in_ct _ _ _) rfl rfl (le_ rfl) rfl rfl ?_; refine O.assign wd rfl rfl (le_ rfl) ?_; refine RestO.nil ?_) | refine Rest.ifT (E := Ee) rfl rfl ?_ | refine Rest.ifF (E := Ee) rfl rfl ?_))
  exact Rest.ret (gives_fin rfl (gvO rfl))
theorem isNode_ct (n : Int) : Ct Tryd.prog 60 [bI n] (.w (bB (decide (0 ≤ n ∧ n ≤ 14)))) := by
  refine Ct.enter wd Tryd.func60 rfl rfl Tryd.ntmps60 rfl rfl rfl rfl ?_
  (repeat (first | refine Rest.seq ?_ | refine Rest.skip ?_ | refine Rest.block ?_ | refine Rest.blockEnd ?_ | refine Rest.exit rfl ?_ | refine Rest.again ?_ | (refine Rest.region (id := 0) ?_; refine O.assign wd rfl rfl (le_ rfl) ?_; refine RestO.nil ?_) | (refine Rest.region (id := 1) ?_; refine O.move wd rfl rfl (le_ rfl) ?_; refine O.call_ wd rfl rfl rfl rfl rfl (mc rfl (mc rfl (mc rfl mn))) rfl rfl (in_ct _ _ _) rfl rfl (le_ rfl) rfl rfl ?_; refine O.assign wd rfl rfl (le_ rfl) ?_; refine RestO.nil ?_) | refine Rest.ifT (E := Ee) rfl rfl ?_ | refine Rest.ifF (E := Ee) rfl rfl ?_))
  exact Rest.ret (gives_fin rfl (gvO rfl))
def leafOr (who : Int) : Int := if 0 ≤ who ∧ who ≤ 7 then 7 + who else -1
theorem treLeaf_ct (who : Int) : Ct Tryd.prog 19 [bI who] (.w (bI (leafOr who))) := by
  refine Ct.enter wd Tryd.func19 rfl rfl Tryd.ntmps19 rfl rfl rfl rfl ?_
  by_cases h : 0 ≤ who ∧ who ≤ 7
  · rw [show leafOr who = 7 + who from if_pos h]
    (repeat (first | refine Rest.seq ?_ | refine Rest.skip ?_ | refine Rest.block ?_ | refine Rest.blockEnd ?_ | refine Rest.exit rfl ?_ | refine Rest.again ?_ | (refine Rest.region (id := 0) ?_; refine O.assign wd rfl rfl (le_ rfl) ?_; refine RestO.nil ?_) | (refine Rest.region (id := 1) ?_; refine O.move wd rfl rfl (le_ rfl) ?_; refine O.call_ wd rfl rfl rfl rfl rfl (mc rfl mn) rfl rfl (Ct.kn true (isOne_ct _) (by first | assumption | exact cT (by omega))) rfl rfl (le_ rfl) rfl rfl ?_; refine O.un wd rfl rfl rfl (le_ rfl) ?_; refine RestO.nil ?_) | (refine Rest.region (id := 3) ?_; refine O.move wd rfl rfl (le_ rfl) ?_; refine O.call_ wd rfl rfl rfl rfl rfl (mc rfl mn) rfl rfl (leaf_ct _ (by omega)) rfl rfl (le_ rfl) rfl rfl ?_; refine O.assign wd rfl rfl (le_ rfl) ?_; refine RestO.nil ?_) | refine Rest.ifT (E := Ee) rfl rfl ?_ | refine Rest.ifF (E := Ee) rfl rfl ?_))
    exact Rest.ret (gives_fin rfl (gvO rfl))
  · rw [show leafOr who = -1 from if_neg h]
    (repeat (first | refine Rest.seq ?_ | refine Rest.skip ?_ | refine Rest.block ?_ | refine Rest.blockEnd ?_ | refine Rest.exit rfl ?_ | refine Rest.again ?_ | (refine Rest.region (id := 0) ?_; refine O.assign wd rfl rfl (le_ rfl) ?_; refine RestO.nil ?_) | (refine Rest.region (id := 1) ?_; refine O.move wd rfl rfl (le_ rfl) ?_; refine O.call_ wd rfl rfl rfl rfl rfl (mc rfl mn) rfl rfl (Ct.kn false (isOne_ct _) (by first | assumption | exact cF (by omega))) rfl rfl (le_ rfl) rfl rfl ?_; refine O.un wd rfl rfl rfl (le_ rfl) ?_; refine RestO.nil ?_) | (refine Rest.region (id := 2) ?_; refine O.assign wd rfl rfl (le_ rfl) ?_; refine RestO.nil ?_) | refine Rest.ifT (E := Ee) rfl rfl ?_ | refine Rest.ifF (E := Ee) rfl rfl ?_))
    exact Rest.ret (gives_fin rfl (gvO rfl))
end Go.Proofs.YtfokmnafgabdiaaDoor.Eng
/- What Go's library answers: copies of lists, numbers as text. -/
namespace Go.Proofs.YtfokmnafgabdiaaDoor.Eng
open Go Go.RowKit
set_option linter.unusedVariables false
set_option linter.unusedSimpArgs false
theorem iClone_ct (rows : List (List C)) (h : rows.length ≤ mostRows) : Ct Tryd.prog 103 [.one (.b (.c (.ro 1 rows)))] (.w (.one (.b (.own 1 rows none)))) := by
  refine Ct.enter wd Tryd.func103 rfl rfl Tryd.ntmps103 rfl rfl rfl rfl ?_
  (repeat (first | refine Rest.seq ?_ | refine Rest.skip ?_ | refine Rest.block ?_ | refine Rest.blockEnd ?_ | refine Rest.exit rfl ?_ | refine Rest.again ?_ | (refine Rest.region (id := 0) ?_; refine O.assign wd rfl rfl (le_ rfl) ?_; refine RestO.nil ?_) | refine Rest.ifT (E := Ee) rfl rfl ?_ | refine Rest.ifF (E := Ee) rfl rfl ?_))
  refine Rest.region (O.move wd rfl rfl (le_ rfl) ?_)
  refine O.isNil (E := Ee) Tryd.underlying30 rfl rfl rfl fun b hb => RestO.nil ?_
  cases b with
  | true =>
    have e := hb rfl
    subst e
    (repeat (first | refine Rest.seq ?_ | refine Rest.skip ?_ | refine Rest.block ?_ | refine Rest.blockEnd ?_ | refine Rest.exit rfl ?_ | refine Rest.again ?_ | (refine Rest.region (id := 2) ?_; refine O.assign wd rfl rfl (le_ rfl) ?_; refine RestO.nil ?_) | refine Rest.ifT (E := Ee) rfl rfl ?_ | refine Rest.ifF (E := Ee) rfl rfl ?_))
    exact Rest.ret (gives_fin rfl (gvO (by first | exact gv1 rfl (by first | rfl | assumption | (simp only [rS_len, rI_len, List.length_append, List.length_map, List.length_set, List.length_replicate, List.length_cons, List.length_nil, Nat.zero_add]; done) | (simp only [rS_len, rI_len, List.length_append, List.length_map, List.length_set, List.length_replicate, List.length_cons, List.length_nil] at *; omega)) | rfl)))
  | false =>
    (repeat (first | refine Rest.seq ?_ | refine Rest.skip ?_ | refine Rest.block ?_ | refine Rest.blockEnd ?_ | refine Rest.exit rfl ?_ | refine Rest.again ?_ | refine Rest.ifT (E := Ee) rfl rfl ?_ | refine Rest.ifF (E := Ee) rfl rfl ?_))
    refine Rest.region (O.slice0 wd rfl rfl rfl rfl (le_ rfl) (O.move wd rfl rfl (le_ rfl) ?_))
    refine O.app (hl2 := []) wd rfl rfl rfl rfl rfl rfl rfl rfl rfl rfl rfl rfl (by omega) rfl (le_ rfl) ?_
    refine O.assign wd rfl rfl (le_ rfl) (RestO.nil ?_)
    exact Rest.ret (gives_fin rfl (gvO (gv1 rfl (by simp))))
theorem sClone_ct (rows : List (List C)) (h : rows.length ≤ mostRows) : Ct Tryd.prog 144 [.one (.b (.c (.ro 1 rows)))] (.w (.one (.b (.own 1 rows none)))) := by
  refine Ct.enter wd Tryd.func144 rfl rfl Tryd.ntmps144 rfl rfl rfl rfl ?_
  (repeat (first | refine Rest.seq ?_ | refine Rest.skip ?_ | refine Rest.block ?_ | refine Rest.blockEnd ?_ | refine Rest.exit rfl ?_ | refine Rest.again ?_ | (refine Rest.region (id := 0) ?_; refine O.assign wd rfl rfl (le_ rfl) ?_; refine RestO.nil ?_) | refine Rest.ifT (E := Ee) rfl rfl ?_ | refine Rest.ifF (E := Ee) rfl rfl ?_))
  refine Rest.region (O.move wd rfl rfl (le_ rfl) ?_)
  refine O.isNil (E := Ee) Tryd.underlying23 rfl rfl rfl fun b hb => RestO.nil ?_
  cases b with
  | true =>
    have e := hb rfl
    subst e
    (repeat (first | refine Rest.seq ?_ | refine Rest.skip ?_ | refine Rest.block ?_ | refine Rest.blockEnd ?_ | refine Rest.exit rfl ?_ | refine Rest.again ?_ | (refine Rest.region (id := 2) ?_; refine O.assign wd rfl rfl (le_ rfl) ?_; refine RestO.nil ?_) | refine Rest.ifT (E := Ee) rfl rfl ?_ | refine Rest.ifF (E := Ee) rfl rfl ?_))
    exact Rest.ret (gives_fin rfl (gvO (by first | exact gv1 rfl (by first | rfl | assumption | (simp only [rS_len, rI_len, List.length_append, List.length_map, List.length_set, List.length_replicate, List.length_cons, List.length_nil, Nat.zero_add]; done) | (simp only [rS_len, rI_len, List.length_append, List.length_map, List.length_set, List.length_replicate, List.length_cons, List.length_nil] at *; omega)) | rfl)))
  | false =>
    (repeat (first | refine Rest.seq ?_ | refine Rest.skip ?_ | refine Rest.block ?_ | refine Rest.blockEnd ?_ | refine Rest.exit rfl ?_ | refine Rest.again ?_ | refine Rest.ifT (E := Ee) rfl rfl ?_ | refine Rest.ifF (E := Ee) rfl rfl ?_))
    refine Rest.region (O.slice0 wd rfl rfl rfl rfl (le_ rfl) (O.move wd rfl rfl (le_ rfl) ?_))
    refine O.app (hl2 := []) wd rfl rfl rfl rfl rfl rfl rfl rfl rfl rfl rfl rfl (by omega) rfl (le_ rfl) ?_
    refine O.assign wd rfl rfl (le_ rfl) (RestO.nil ?_)
    exact Rest.ret (gives_fin rfl (gvO (gv1 rfl (by simp))))
theorem iClip_hc (rows : List (List C)) (cap : Option Nat) : HCt Tryd.prog 64 1 most [.rows 1 rows] [.one (.ref 0 0 rows.length cap)] (vone (.ref 0 0 rows.length (some rows.length))) [.rows 1 rows] 1 := by
  refine HCt.enter (next := 1) (hsl := [(0, .rows 1 rows)]) wd Tryd.func64 rfl rfl Tryd.ntmps64 rfl rfl (fun n => by cases n <;> rfl) ?_
  (repeat (first | refine Rest.seq ?_ | refine Rest.skip ?_ | refine Rest.block ?_ | refine Rest.blockEnd ?_ | refine Rest.exit rfl ?_ | refine Rest.again ?_ | (refine Rest.region (id := 0) ?_; refine O.assign wd rfl rfl (le_ rfl) ?_; refine RestO.nil ?_) | (refine Rest.region (id := 1) ?_; refine O.move wd rfl rfl (le_ rfl) ?_; refine O.move wd rfl rfl (le_ rfl) ?_; refine O.len wd rfl rfl rfl (by first | exact rows1 rfl (by first | rfl | assumption | (simp only [rS_len, rI_len, List.length_append, List.length_map, List.length_set, List.length_replicate, List.length_cons, List.length_nil, Nat.zero_add]; done) | (simp only [rS_len, rI_len, List.length_append, List.length_map, List.length_set, List.length_replicate, List.length_cons, List.length_nil] at *; omega)) | rfl) (by first | exact rS_len _ | exact rI_len _ | exact bR_len _ | rfl) (le_ rfl) ?_; refine O.move wd rfl rfl (le_ rfl) ?_; refine O.len wd rfl rfl rfl (by first | exact rows1 rfl (by first | rfl | assumption | (simp only [rS_len, rI_len, List.length_append, List.length_map, List.length_set, List.length_replicate, List.length_cons, List.length_nil, Nat.zero_add]; done) | (simp only [rS_len, rI_len, List.length_append, List.length_map, List.length_set, List.length_replicate, List.length_cons, List.length_nil] at *; omega)) | rfl) (by first | exact rS_len _ | exact rI_len _ | exact bR_len _ | rfl) (le_ rfl) ?_; refine O.clipAll wd rfl rfl rfl rfl rfl rfl rfl rfl (le_ rfl) ?_; refine O.assign wd rfl rfl (le_ rfl) ?_; refine RestO.nil ?_) | refine Rest.ifT (E := Ee) rfl rfl ?_ | refine Rest.ifF (E := Ee) rfl rfl ?_))
  refine Rest.ret ⟨Nat.le_refl _, ⟨_, res_T (xs := [.one (.ref 0 0 rows.length (some rows.length))]) rfl, rfl⟩, fun n => by cases n <;> rfl⟩
theorem iClipN_hc : HCt Tryd.prog 64 0 most [] [.one (.nil 1)] (vone (.nil 1)) [] 0 := by
  refine HCt.enter (next := 0) (hsl := []) wd Tryd.func64 rfl rfl Tryd.ntmps64 rfl rfl (fun n => rfl) ?_
  (repeat (first | refine Rest.seq ?_ | refine Rest.skip ?_ | refine Rest.block ?_ | refine Rest.blockEnd ?_ | refine Rest.exit rfl ?_ | refine Rest.again ?_ | (refine Rest.region (id := 0) ?_; refine O.assign wd rfl rfl (le_ rfl) ?_; refine RestO.nil ?_) | (refine Rest.region (id := 1) ?_; refine O.move wd rfl rfl (le_ rfl) ?_; refine O.move wd rfl rfl (le_ rfl) ?_; refine O.len wd rfl rfl rfl (by first | exact rows1 rfl (by first | rfl | assumption | (simp only [rS_len, rI_len, List.length_append, List.length_map, List.length_set, List.length_replicate, List.length_cons, List.length_nil, Nat.zero_add]; done) | (simp only [rS_len, rI_len, List.length_append, List.length_map, List.length_set, List.length_replicate, List.length_cons, List.length_nil] at *; omega)) | rfl) (by first | exact rS_len _ | exact rI_len _ | exact bR_len _ | rfl) (le_ rfl) ?_; refine O.move wd rfl rfl (le_ rfl) ?_; refine O.len wd rfl rfl rfl (by first | exact rows1 rfl (by first | rfl | assumption | (simp only [rS_len, rI_len, List.length_append, List.length_map, List.length_set, List.length_replicate, List.length_cons, List.length_nil, Nat.zero_add]; done) | (simp only [rS_len, rI_len, List.length_append, List.length_map, List.length_set, List.length_replicate, List.length_cons, List.length_nil] at *; omega)) | rfl) (by first | exact rS_len _ | exact rI_len _ | exact bR_len _ | rfl) (le_ rfl) ?_; refine O.clipNil wd rfl rfl rfl rfl rfl rfl (by first | rfl | omega) (le_ rfl) ?_; refine O.assign wd rfl rfl (le_ rfl) ?_; refine RestO.nil ?_) | refine Rest.ifT (E := Ee) rfl rfl ?_ | refine Rest.ifF (E := Ee) rfl rfl ?_))
  exact Rest.ret ⟨Nat.le_refl _, ⟨_, res_T (xs := [.one (.nil 1)]) rfl, rfl⟩, fun n => rfl⟩
theorem sClip_hc (rows : List (List C)) (cap : Option Nat) : HCt Tryd.prog 143 1 most [.rows 1 rows] [.one (.ref 0 0 rows.length cap)] (vone (.ref 0 0 rows.length (some rows.length))) [.rows 1 rows] 1 := by
  refine HCt.enter (next := 1) (hsl := [(0, .rows 1 rows)]) wd Tryd.func143 rfl rfl Tryd.ntmps143 rfl rfl (fun n => by cases n <;> rfl) ?_
  (repeat (first | refine Rest.seq ?_ | refine Rest.skip ?_ | refine Rest.block ?_ | refine Rest.blockEnd ?_ | refine Rest.exit rfl ?_ | refine Rest.again ?_ | (refine Rest.region (id := 0) ?_; refine O.assign wd rfl rfl (le_ rfl) ?_; refine RestO.nil ?_) | (refine Rest.region (id := 1) ?_; refine O.move wd rfl rfl (le_ rfl) ?_; refine O.move wd rfl rfl (le_ rfl) ?_; refine O.len wd rfl rfl rfl (by first | exact rows1 rfl (by first | rfl | assumption | (simp only [rS_len, rI_len, List.length_append, List.length_map, List.length_set, List.length_replicate, List.length_cons, List.length_nil, Nat.zero_add]; done) | (simp only [rS_len, rI_len, List.length_append, List.length_map, List.length_set, List.length_replicate, List.length_cons, List.length_nil] at *; omega)) | rfl) (by first | exact rS_len _ | exact rI_len _ | exact bR_len _ | rfl) (le_ rfl) ?_; refine O.move wd rfl rfl (le_ rfl) ?_; refine O.len wd rfl rfl rfl (by first | exact rows1 rfl (by first | rfl | assumption | (simp only [rS_len, rI_len, List.length_append, List.length_map, List.length_set, List.length_replicate, List.length_cons, List.length_nil, Nat.zero_add]; done) | (simp only [rS_len, rI_len, List.length_append, List.length_map, List.length_set, List.length_replicate, List.length_cons, List.length_nil] at *; omega)) | rfl) (by first | exact rS_len _ | exact rI_len _ | exact bR_len _ | rfl) (le_ rfl) ?_; refine O.clipAll wd rfl rfl rfl rfl rfl rfl rfl rfl (le_ rfl) ?_; refine O.assign wd rfl rfl (le_ rfl) ?_; refine RestO.nil ?_) | refine Rest.ifT (E := Ee) rfl rfl ?_ | refine Rest.ifF (E := Ee) rfl rfl ?_))
  refine Rest.ret ⟨Nat.le_refl _, ⟨_, res_T (xs := [.one (.ref 0 0 rows.length (some rows.length))]) rfl, rfl⟩, fun n => by cases n <;> rfl⟩
theorem sClipN_hc : HCt Tryd.prog 143 0 most [] [.one (.nil 1)] (vone (.nil 1)) [] 0 := by
  refine HCt.enter (next := 0) (hsl := []) wd Tryd.func143 rfl rfl Tryd.ntmps143 rfl rfl (fun n => rfl) ?_
  (repeat (first | refine Rest.seq ?_ | refine Rest.skip ?_ | refine Rest.block ?_ | refine Rest.blockEnd ?_ | refine Rest.exit rfl ?_ | refine Rest.again ?_ | (refine Rest.region (id := 0) ?_; refine O.assign wd rfl rfl (le_ rfl) ?_; refine RestO.nil ?_) | (refine Rest.region (id := 1) ?_; refine O.move wd rfl rfl (le_ rfl) ?_; refine O.move wd rfl rfl (le_ rfl) ?_; refine O.len wd rfl rfl rfl (by first | exact rows1 rfl (by first | rfl | assumption | (simp only [rS_len, rI_len, List.length_append, List.length_map, List.length_set, List.length_replicate, List.length_cons, List.length_nil, Nat.zero_add]; done) | (simp only [rS_len, rI_len, List.length_append, List.length_map, List.length_set, List.length_replicate, List.length_cons, List.length_nil] at *; omega)) | rfl) (by first | exact rS_len _ | exact rI_len _ | exact bR_len _ | rfl) (le_ rfl) ?_; refine O.move wd rfl rfl (le_ rfl) ?_; refine O.len wd rfl rfl rfl (by first | exact rows1 rfl (by first | rfl | assumption | (simp only [rS_len, rI_len, List.length_append, List.length_map, List.length_set, List.length_replicate, List.length_cons, List.length_nil, Nat.zero_add]; done) | (simp only [rS_len, rI_len, List.length_append, List.length_map, List.length_set, List.length_replicate, List.length_cons, List.length_nil] at *; omega)) | rfl) (by first | exact rS_len _ | exact rI_len _ | exact bR_len _ | rfl) (le_ rfl) ?_; refine O.clipNil wd rfl rfl rfl rfl rfl rfl (by first | rfl | omega) (le_ rfl) ?_; refine O.assign wd rfl rfl (le_ rfl) ?_; refine RestO.nil ?_) | refine Rest.ifT (E := Ee) rfl rfl ?_ | refine Rest.ifF (E := Ee) rfl rfl ?_))
  exact Rest.ret ⟨Nat.le_refl _, ⟨_, res_T (xs := [.one (.nil 1)]) rfl, rfl⟩, fun n => rfl⟩
/-- The figures of a number below 100. -/
def dec2 (n : Int) : List UInt8 := if n < 10 then [UInt8.ofNat (48 + n.toNat)] else [UInt8.ofNat (48 + n.toNat / 10), UInt8.ofNat (48 + n.toNat % 10)]
def d36 : List UInt8 := [48, 49, 50, 51, 52, 53, 54, 55, 56, 57, 97, 98, 99, 100, 101, 102, 103, 104, 105, 106, 107, 108, 109, 110, 111, 112, 113, 114, 115, 116, 117, 118, 119, 120, 121, 122]
def smallsL : List UInt8 := (List.range 100).flatMap fun i => [UInt8.ofNat (48 + i / 10), UInt8.ofNat (48 + i % 10)]
theorem dec2_a : ∀ m : Fin 10, List.take (((m.1 : Int) + 1).toNat - (m.1 : Int).toNat) (List.drop (m.1 : Int).toNat d36) = dec2 m.1 := by decide +kernel
theorem dec2_b : ∀ m : Fin 100, 10 ≤ m.1 → List.take (((m.1 : Int) * 2 + 2).toNat - ((m.1 : Int) * 2).toNat) (List.drop ((m.1 : Int) * 2).toNat smallsL) = dec2 m.1 := by decide +kernel
theorem small_ct (n : Int) (h : 0 ≤ n ∧ n < 100) : Ct Tryd.prog 145 [bI n] (.w (bS (dec2 n))) := by
  obtain ⟨m, rfl⟩ : ∃ m : Nat, n = m := ⟨n.toNat, by omega⟩
  have hm : m < 100 := by omega
  clear h
  refine Ct.enter wd Tryd.func145 rfl rfl Tryd.ntmps145 rfl rfl rfl rfl ?_
  by_cases h1 : (m : Int) < 10
  · rw [← dec2_a ⟨m, by omega⟩]
    (repeat (first | refine Rest.seq ?_ | refine Rest.skip ?_ | refine Rest.block ?_ | refine Rest.blockEnd ?_ | refine Rest.exit rfl ?_ | refine Rest.again ?_ | (refine Rest.region (id := 0) ?_; refine O.assign wd rfl rfl (le_ rfl) ?_; refine RestO.nil ?_) | (refine Rest.region (id := 1) ?_; refine O.move wd rfl rfl (le_ rfl) ?_; refine O.binK true wd rfl rfl rfl rfl (cT (by omega)) (le_ rfl) ?_; refine RestO.nil ?_) | (refine Rest.region (id := 2) ?_; refine O.move wd rfl rfl (le_ rfl) ?_; refine O.move wd rfl rfl (le_ rfl) ?_; refine O.addI wd rfl rfl rfl (by omega) (le_ rfl) ?_; refine O.subMid wd rfl rfl rfl rfl rfl (by omega) (by omega) (by simp only [List.length_cons, List.length_nil] at *; omega) (by first | assumption | rfl) (le_ rfl) ?_; refine O.assign wd rfl rfl (le_ rfl) ?_; refine RestO.nil ?_) | refine Rest.ifT (E := Ee) rfl rfl ?_ | refine Rest.ifF (E := Ee) rfl rfl ?_))
    exact Rest.ret (gives_fin rfl (gvO (hl2 := []) (by kernel_rfl)))
  · rw [← dec2_b ⟨m, hm⟩ (by simp; omega)]
    (repeat (first | refine Rest.seq ?_ | refine Rest.skip ?_ | refine Rest.block ?_ | refine Rest.blockEnd ?_ | refine Rest.exit rfl ?_ | refine Rest.again ?_ | (refine Rest.region (id := 0) ?_; refine O.assign wd rfl rfl (le_ rfl) ?_; refine RestO.nil ?_) | (refine Rest.region (id := 1) ?_; refine O.move wd rfl rfl (le_ rfl) ?_; refine O.binK false wd rfl rfl rfl rfl (cF (by omega)) (le_ rfl) ?_; refine RestO.nil ?_) | refine Rest.ifT (E := Ee) rfl rfl ?_ | refine Rest.ifF (E := Ee) rfl rfl ?_))
    refine Rest.region (O.move wd rfl rfl (le_ rfl) (O.mulI wd rfl rfl rfl (by omega) (le_ rfl) (O.move wd rfl rfl (le_ rfl) (O.mulI wd rfl rfl rfl (by omega) (le_ rfl) (O.addI wd rfl rfl rfl (by omega) (le_ rfl) ?_)))))
    refine O.subMid wd rfl rfl rfl rfl rfl (by omega) (by omega) (by show (m : Int) * 2 + 2 ≤ ((200 : Nat) : Int); omega) rfl (le_ rfl) ?_
    refine O.assign wd rfl rfl (le_ rfl) (RestO.nil ?_)
    exact Rest.ret (gives_fin rfl (gvO (hl2 := []) (by kernel_rfl)))
theorem fmtInt_ct (n : Int) (h : 0 ≤ n ∧ n < 100) : Ct Tryd.prog 125 [bI n, bI 10] (.w (bS (dec2 n))) := by
  refine Ct.enter wd Tryd.func125 rfl rfl Tryd.ntmps125 rfl rfl rfl rfl ?_
  (repeat (first | refine Rest.seq ?_ | refine Rest.skip ?_ | refine Rest.block ?_ | refine Rest.blockEnd ?_ | refine Rest.exit rfl ?_ | refine Rest.again ?_ | (refine Rest.region (id := 0) ?_; refine O.assign wd rfl rfl (le_ rfl) ?_; refine RestO.nil ?_) | (refine Rest.region (id := 1) ?_; refine O.move wd rfl rfl (le_ rfl) ?_; refine O.binK true wd rfl rfl rfl rfl (beqT (by omega)) (le_ rfl) ?_; refine RestO.nil ?_) | (refine Rest.region (id := 2) ?_; refine O.move wd rfl rfl (le_ rfl) ?_; refine O.binK true wd rfl rfl rfl rfl (cT (by omega)) (le_ rfl) ?_; refine O.move wd rfl rfl (le_ rfl) ?_; refine O.move wd rfl rfl (le_ rfl) ?_; refine O.binK true wd rfl rfl rfl rfl (cT (by omega)) (le_ rfl) ?_; refine O.pickT wd rfl rfl rfl rfl (opd_any rfl) (le_ rfl) ?_; refine RestO.nil ?_) | (refine Rest.region (id := 3) ?_; refine O.move wd rfl rfl (le_ rfl) ?_; refine O.call_ wd rfl rfl rfl rfl rfl (mc rfl mn) rfl rfl (small_ct _ (by omega)) rfl rfl (le_ rfl) rfl rfl ?_; refine O.assign wd rfl rfl (le_ rfl) ?_; refine RestO.nil ?_) | refine Rest.ifT (E := Ee) rfl rfl ?_ | refine Rest.ifF (E := Ee) rfl rfl ?_))
  exact Rest.ret (gives_fin rfl (gvO rfl))
theorem iItoa_ct (n : Int) (h : 0 ≤ n ∧ n < 100) : Ct Tryd.prog 101 [bI n] (.w (bS (dec2 n))) := by
  refine Ct.enter wd Tryd.func101 rfl rfl Tryd.ntmps101 rfl rfl rfl rfl ?_
  (repeat (first | refine Rest.seq ?_ | refine Rest.skip ?_ | refine Rest.block ?_ | refine Rest.blockEnd ?_ | refine Rest.exit rfl ?_ | refine Rest.again ?_ | (refine Rest.region (id := 0) ?_; refine O.assign wd rfl rfl (le_ rfl) ?_; refine RestO.nil ?_) | (refine Rest.region (id := 1) ?_; refine O.move wd rfl rfl (le_ rfl) ?_; refine O.call_ wd rfl rfl rfl rfl rfl (mc rfl (mc rfl mn)) rfl rfl (fmtInt_ct _ (by omega)) rfl rfl (le_ rfl) rfl rfl ?_; refine O.assign wd rfl rfl (le_ rfl) ?_; refine RestO.nil ?_) | refine Rest.ifT (E := Ee) rfl rfl ?_ | refine Rest.ifF (E := Ee) rfl rfl ?_))
  exact Rest.ret (gives_fin rfl (gvO rfl))
theorem itoa_ct (n : Int) (h : 0 ≤ n ∧ n < 100) : Ct Tryd.prog 54 [bI n] (.w (bS (dec2 n))) := by
  refine Ct.enter wd Tryd.func54 rfl rfl Tryd.ntmps54 rfl rfl rfl rfl ?_
  (repeat (first | refine Rest.seq ?_ | refine Rest.skip ?_ | refine Rest.block ?_ | refine Rest.blockEnd ?_ | refine Rest.exit rfl ?_ | refine Rest.again ?_ | (refine Rest.region (id := 0) ?_; refine O.assign wd rfl rfl (le_ rfl) ?_; refine RestO.nil ?_) | (refine Rest.region (id := 1) ?_; refine O.move wd rfl rfl (le_ rfl) ?_; refine O.call_ wd rfl rfl rfl rfl rfl (mc rfl mn) rfl rfl (iItoa_ct _ (by omega)) rfl rfl (le_ rfl) rfl rfl ?_; refine O.assign wd rfl rfl (le_ rfl) ?_; refine RestO.nil ?_) | refine Rest.ifT (E := Ee) rfl rfl ?_ | refine Rest.ifF (E := Ee) rfl rfl ?_))
  exact Rest.ret (gives_fin rfl (gvO rfl))
end Go.Proofs.YtfokmnafgabdiaaDoor.Eng
/- What is read off a text: numbers, letters. -/
namespace Go.Proofs.YtfokmnafgabdiaaDoor.Eng
open Go Go.RowKit
set_option linter.unusedVariables false
set_option linter.unusedSimpArgs false
theorem atoi_ct (s : List UInt8) (n : Int) (hl : s.length ≤ 18) (h : Lib.atoi s = some n) : Ct Tryd.prog 152 [bS s] (.tup [bI n, .one (.b (.c (.lit .nilIface)))]) :=
  Ct.lits (vs := [.string (mk s)]) (us := [.int .i64 n, .nilIface]) Tryd.func152 rfl rfl rfl fun w => (Tryd.strconv_Atoi (mk s) n hl h w).mono (by
    rintro e w' ⟨rfl, t, rfl⟩
    exact ⟨rfl, Lib.bytesWorld_below _ _ _⟩)
open Kw (dig numOf)
theorem digV {a : UInt8} (h : dig a = true) : Lib.digitVal a = some (a.toNat - 48) := by
  simp only [dig, decide_eq_true_eq] at h
  unfold Lib.digitVal
  rw [if_pos (by omega)]
theorem digNe {a : UInt8} (h : dig a = true) : (a == 45) = false ∧ (a == 43) = false := by
  simp only [dig, decide_eq_true_eq] at h
  constructor
  · rw [beq_eq_false_iff_ne]; intro e; subst e; simp at h
  · rw [beq_eq_false_iff_ne]; intro e; subst e; simp at h
theorem atoi1 (a : UInt8) (h : dig a = true) : Lib.atoi [a] = some ((a.toNat : Int) - 48) := by
  have hd := digV h
  obtain ⟨h1, h2⟩ := digNe h
  simp only [dig, decide_eq_true_eq] at h
  simp only [Lib.atoi, h1, h2, Lib.decNat, Lib.decFrom, hd, List.isEmpty_cons, Bool.false_eq_true, if_false, Option.map_some, Option.some.injEq]
  omega
theorem atoi2 (a b : UInt8) (h : dig a = true) (h' : dig b = true) : Lib.atoi [a, b] = some (((a.toNat : Int) - 48) * 10 + (b.toNat - 48)) := by
  have hd := digV h
  have hd' := digV h'
  obtain ⟨h1, h2⟩ := digNe h
  simp only [dig, decide_eq_true_eq] at h h'
  simp only [Lib.atoi, h1, h2, Lib.decNat, Lib.decFrom, hd, hd', List.isEmpty_cons, Bool.false_eq_true, if_false, Option.map_some, Option.some.injEq]
  omega
theorem numberOf_ct (a : UInt8) (s : List UInt8) (ha : dig a = true) (ha0 : (a.toNat : Int) ≠ 48) : Ct Tryd.prog 134 [bS (a :: s)] (.tup [bI (numOf (a :: s)).1, bS (numOf (a :: s)).2]) := by
  have hA := atoi1 a ha
  have ha' := ha
  simp only [dig, decide_eq_true_eq] at ha'
  cases s with
  | nil =>
    have hl : ([a] : List UInt8).length = 1 := rfl
    refine Ct.enter wd Tryd.func134 rfl rfl Tryd.ntmps134 rfl rfl rfl rfl ?_
    (repeat (first | refine Rest.seq ?_ | refine Rest.skip ?_ | refine Rest.block ?_ | refine Rest.blockEnd ?_ | refine Rest.exit rfl ?_ | refine Rest.again ?_ | (refine Rest.region (id := 0) ?_; refine O.assign wd rfl rfl (le_ rfl) ?_; refine O.assign wd rfl rfl (le_ rfl) ?_; refine RestO.nil ?_) | (refine Rest.region (id := 1) ?_; refine O.assign wd rfl rfl (le_ rfl) ?_; refine RestO.nil ?_) | refine Rest.ifT (E := Ee) rfl rfl ?_ | refine Rest.ifF (E := Ee) rfl rfl ?_))
    refine Rest.loop 3 ?_
    (repeat (first | refine Rest.seq ?_ | refine Rest.skip ?_ | refine Rest.block ?_ | refine Rest.blockEnd ?_ | refine Rest.exit rfl ?_ | refine Rest.again ?_ | (refine Rest.region (id := 2) ?_; refine O.move wd rfl rfl (le_ rfl) ?_; refine O.move wd rfl rfl (le_ rfl) ?_; refine O.lenM wd rfl rfl rfl (le_ rfl) ?_; (first | refine O.binK true wd rfl rfl rfl rfl (cT (by omega)) (le_ rfl) ?_ | refine O.binK false wd rfl rfl rfl rfl (cF (by omega)) (le_ rfl) ?_); refine O.move wd rfl rfl (le_ rfl) ?_; (first | refine O.move wd rfl rfl (le_ rfl) ?_ | refine RestO.no wd rfl ?_); (first | refine O.binK true wd rfl rfl rfl rfl (cT (by omega)) (le_ rfl) ?_ | refine RestO.no wd rfl ?_); (first | refine O.pickT wd rfl rfl rfl rfl (opd_any rfl) (le_ rfl) ?_ | refine O.pickF wd rfl rfl rfl (opd_any rfl) rfl (le_ rfl) ?_); refine O.move wd rfl rfl (le_ rfl) ?_; (first | refine O.move wd rfl rfl (le_ rfl) ?_ | refine RestO.no wd rfl ?_); (first | refine O.move wd rfl rfl (le_ rfl) ?_ | refine RestO.no wd rfl ?_); (first | refine O.idxS wd rfl rfl rfl rfl (by omega) (by first | rfl | assumption) (le_ rfl) ?_ | refine RestO.no wd rfl ?_); (first | refine O.binK true wd rfl rfl rfl rfl (cT (by omega)) (le_ rfl) ?_ | refine RestO.no wd rfl ?_); (first | refine O.pickT wd rfl rfl rfl rfl (opd_any rfl) (le_ rfl) ?_ | refine O.pickF wd rfl rfl rfl (opd_any rfl) rfl (le_ rfl) ?_); refine O.move wd rfl rfl (le_ rfl) ?_; (first | refine O.move wd rfl rfl (le_ rfl) ?_ | refine RestO.no wd rfl ?_); (first | refine O.move wd rfl rfl (le_ rfl) ?_ | refine RestO.no wd rfl ?_); (first | refine O.idxS wd rfl rfl rfl rfl (by omega) (by first | rfl | assumption) (le_ rfl) ?_ | refine RestO.no wd rfl ?_); (first | refine O.binK true wd rfl rfl rfl rfl (cT (by omega)) (le_ rfl) ?_ | refine RestO.no wd rfl ?_); (first | refine O.pickT wd rfl rfl rfl rfl (opd_any rfl) (le_ rfl) ?_ | refine O.pickF wd rfl rfl rfl (opd_any rfl) rfl (le_ rfl) ?_); refine RestO.nil ?_) | (refine Rest.region (id := 3) ?_; refine O.move wd rfl rfl (le_ rfl) ?_; refine O.addI wd rfl rfl rfl (by omega) (le_ rfl) ?_; refine O.assign wd rfl rfl (le_ rfl) ?_; refine RestO.nil ?_) | (refine Rest.region (id := 4) ?_; refine O.move wd rfl rfl (le_ rfl) ?_; refine O.move wd rfl rfl (le_ rfl) ?_; refine O.subTo wd rfl rfl rfl rfl (by omega) (by first | omega | (simp only [List.length_cons, List.length_nil] at *; omega)) (by first | assumption | rfl) (le_ rfl) ?_; refine O.call_ wd rfl rfl rfl rfl rfl (mc rfl mn) rfl rfl (atoi_ct _ _ (by simp) (by assumption)) rfl rfl (le_ rfl) rfl rfl ?_; refine O.move wd rfl rfl (le_ rfl) ?_; refine O.extract wd rfl rfl rfl (le_ rfl) ?_; refine O.extract wd rfl rfl rfl (le_ rfl) ?_; refine O.assign wd rfl rfl (le_ rfl) ?_; refine O.assign wd rfl rfl (le_ rfl) ?_; refine RestO.nil ?_) | (refine Rest.region (id := 5) ?_; refine O.move wd rfl rfl (le_ rfl) ?_; refine O.noErr (E := Ee) Tryd.underlying119 rfl rfl rfl ?_; refine O.move wd rfl rfl (le_ rfl) ?_; refine O.move wd rfl rfl (le_ rfl) ?_; refine O.idxS wd rfl rfl rfl rfl (by omega) (by first | rfl | assumption) (le_ rfl) ?_; refine O.binK false wd rfl rfl rfl rfl (beqF (by omega)) (le_ rfl) ?_; refine O.pickF wd rfl rfl rfl (opd_any rfl) rfl (le_ rfl) ?_; refine RestO.nil ?_) | (refine Rest.draw (id := 7) wd.ok (le_ rfl) ?_; refine D.q rfl (by kernel_rfl) rfl rfl (Q.move rfl) rfl rfl ?_; refine D.q rfl (by kernel_rfl) rfl rfl (Q.move rfl) rfl rfl ?_; refine D.q rfl (by kernel_rfl) rfl rfl (Q.move rfl) rfl rfl ?_; refine D.q rfl (by kernel_rfl) rfl rfl (Q.subFrom rfl rfl rfl (by omega) (by first | omega | (simp only [List.length_cons, List.length_nil] at *; omega)) (by first | assumption | rfl)) rfl rfl ?_; refine D.q rfl (by kernel_rfl) rfl rfl (Q.assign rfl) rfl rfl ?_; refine D.q rfl (by kernel_rfl) rfl rfl (Q.assign rfl) rfl rfl ?_; refine RestD.nil ?_) | refine Rest.ifT (E := Ee) rfl rfl ?_ | refine Rest.ifF (E := Ee) rfl rfl ?_))
    exact Rest.ret (gives_fin rfl (gvT (gwc (gwO rfl) (gwc (gwO rfl) gwn))))
  | cons b t =>
    have hl : (a :: b :: t).length = t.length + 2 := rfl
    have key : numOf (a :: b :: t) = if dig b = true then (((a.toNat : Int) - 48) * 10 + (b.toNat - 48), t) else ((a.toNat : Int) - 48, b :: t) := rfl
    refine Ct.enter wd Tryd.func134 rfl rfl Tryd.ntmps134 rfl rfl rfl rfl ?_
    (repeat (first | refine Rest.seq ?_ | refine Rest.skip ?_ | refine Rest.block ?_ | refine Rest.blockEnd ?_ | refine Rest.exit rfl ?_ | refine Rest.again ?_ | (refine Rest.region (id := 0) ?_; refine O.assign wd rfl rfl (le_ rfl) ?_; refine O.assign wd rfl rfl (le_ rfl) ?_; refine RestO.nil ?_) | (refine Rest.region (id := 1) ?_; refine O.assign wd rfl rfl (le_ rfl) ?_; refine RestO.nil ?_) | refine Rest.ifT (E := Ee) rfl rfl ?_ | refine Rest.ifF (E := Ee) rfl rfl ?_))
    refine Rest.loop 3 ?_
    by_cases hb : dig b = true
    · have hA2 := atoi2 a b ha hb
      rw [key, if_pos hb]
      simp only [dig, decide_eq_true_eq] at hb
      by_cases ht : 0 < t.length
      all_goals
        (repeat (first | refine Rest.seq ?_ | refine Rest.skip ?_ | refine Rest.block ?_ | refine Rest.blockEnd ?_ | refine Rest.exit rfl ?_ | refine Rest.again ?_ | (refine Rest.region (id := 2) ?_; refine O.move wd rfl rfl (le_ rfl) ?_; refine O.move wd rfl rfl (le_ rfl) ?_; refine O.lenM wd rfl rfl rfl (le_ rfl) ?_; (first | refine O.binK true wd rfl rfl rfl rfl (cT (by omega)) (le_ rfl) ?_ | refine O.binK false wd rfl rfl rfl rfl (cF (by omega)) (le_ rfl) ?_); refine O.move wd rfl rfl (le_ rfl) ?_; (first | refine O.move wd rfl rfl (le_ rfl) ?_ | refine RestO.no wd rfl ?_); (first | refine O.binK true wd rfl rfl rfl rfl (cT (by omega)) (le_ rfl) ?_ | refine O.binK false wd rfl rfl rfl rfl (cF (by omega)) (le_ rfl) ?_ | refine RestO.no wd rfl ?_); (first | refine O.pickT wd rfl rfl rfl rfl (opd_any rfl) (le_ rfl) ?_ | refine O.pickF wd rfl rfl rfl (opd_any rfl) rfl (le_ rfl) ?_); refine O.move wd rfl rfl (le_ rfl) ?_; (first | refine O.move wd rfl rfl (le_ rfl) ?_ | refine RestO.no wd rfl ?_); (first | refine O.move wd rfl rfl (le_ rfl) ?_ | refine RestO.no wd rfl ?_); (first | refine O.idxS wd rfl rfl rfl rfl (by omega) (by first | rfl | assumption) (le_ rfl) ?_ | refine RestO.no wd rfl ?_); (first | refine O.binK true wd rfl rfl rfl rfl (cT (by omega)) (le_ rfl) ?_ | refine RestO.no wd rfl ?_); (first | refine O.pickT wd rfl rfl rfl rfl (opd_any rfl) (le_ rfl) ?_ | refine O.pickF wd rfl rfl rfl (opd_any rfl) rfl (le_ rfl) ?_); refine O.move wd rfl rfl (le_ rfl) ?_; (first | refine O.move wd rfl rfl (le_ rfl) ?_ | refine RestO.no wd rfl ?_); (first | refine O.move wd rfl rfl (le_ rfl) ?_ | refine RestO.no wd rfl ?_); (first | refine O.idxS wd rfl rfl rfl rfl (by omega) (by first | rfl | assumption) (le_ rfl) ?_ | refine RestO.no wd rfl ?_); (first | refine O.binK true wd rfl rfl rfl rfl (cT (by omega)) (le_ rfl) ?_ | refine RestO.no wd rfl ?_); (first | refine O.pickT wd rfl rfl rfl rfl (opd_any rfl) (le_ rfl) ?_ | refine O.pickF wd rfl rfl rfl (opd_any rfl) rfl (le_ rfl) ?_); refine RestO.nil ?_) | (refine Rest.region (id := 3) ?_; refine O.move wd rfl rfl (le_ rfl) ?_; refine O.addI wd rfl rfl rfl (by omega) (le_ rfl) ?_; refine O.assign wd rfl rfl (le_ rfl) ?_; refine RestO.nil ?_) | (refine Rest.region (id := 4) ?_; refine O.move wd rfl rfl (le_ rfl) ?_; refine O.move wd rfl rfl (le_ rfl) ?_; refine O.subTo wd rfl rfl rfl rfl (by omega) (by first | omega | (simp only [List.length_cons, List.length_nil] at *; omega)) (by first | assumption | rfl) (le_ rfl) ?_; refine O.call_ wd rfl rfl rfl rfl rfl (mc rfl mn) rfl rfl (atoi_ct _ _ (by simp) (by assumption)) rfl rfl (le_ rfl) rfl rfl ?_; refine O.move wd rfl rfl (le_ rfl) ?_; refine O.extract wd rfl rfl rfl (le_ rfl) ?_; refine O.extract wd rfl rfl rfl (le_ rfl) ?_; refine O.assign wd rfl rfl (le_ rfl) ?_; refine O.assign wd rfl rfl (le_ rfl) ?_; refine RestO.nil ?_) | (refine Rest.region (id := 5) ?_; refine O.move wd rfl rfl (le_ rfl) ?_; refine O.noErr (E := Ee) Tryd.underlying119 rfl rfl rfl ?_; refine O.move wd rfl rfl (le_ rfl) ?_; refine O.move wd rfl rfl (le_ rfl) ?_; refine O.idxS wd rfl rfl rfl rfl (by omega) (by first | rfl | assumption) (le_ rfl) ?_; refine O.binK false wd rfl rfl rfl rfl (beqF (by omega)) (le_ rfl) ?_; refine O.pickF wd rfl rfl rfl (opd_any rfl) rfl (le_ rfl) ?_; refine RestO.nil ?_) | (refine Rest.draw (id := 7) wd.ok (le_ rfl) ?_; refine D.q rfl (by kernel_rfl) rfl rfl (Q.move rfl) rfl rfl ?_; refine D.q rfl (by kernel_rfl) rfl rfl (Q.move rfl) rfl rfl ?_; refine D.q rfl (by kernel_rfl) rfl rfl (Q.move rfl) rfl rfl ?_; refine D.q rfl (by kernel_rfl) rfl rfl (Q.subFrom rfl rfl rfl (by omega) (by first | omega | (simp only [List.length_cons, List.length_nil] at *; omega)) (by first | assumption | rfl)) rfl rfl ?_; refine D.q rfl (by kernel_rfl) rfl rfl (Q.assign rfl) rfl rfl ?_; refine D.q rfl (by kernel_rfl) rfl rfl (Q.assign rfl) rfl rfl ?_; refine RestD.nil ?_) | refine Rest.ifT (E := Ee) rfl rfl ?_ | refine Rest.ifF (E := Ee) rfl rfl ?_))
        exact Rest.ret (gives_fin rfl (gvT (gwc (gwO rfl) (gwc (gwO rfl) gwn))))
    · rw [key, if_neg hb]
      simp only [dig, decide_eq_true_eq] at hb
      by_cases hb2 : (b.toNat : Int) ≥ 48
      all_goals
        (repeat (first | refine Rest.seq ?_ | refine Rest.skip ?_ | refine Rest.block ?_ | refine Rest.blockEnd ?_ | refine Rest.exit rfl ?_ | refine Rest.again ?_ | (refine Rest.region (id := 2) ?_; refine O.move wd rfl rfl (le_ rfl) ?_; refine O.move wd rfl rfl (le_ rfl) ?_; refine O.lenM wd rfl rfl rfl (le_ rfl) ?_; refine O.binK true wd rfl rfl rfl rfl (cT (by omega)) (le_ rfl) ?_; refine O.move wd rfl rfl (le_ rfl) ?_; refine O.move wd rfl rfl (le_ rfl) ?_; refine O.binK true wd rfl rfl rfl rfl (cT (by omega)) (le_ rfl) ?_; refine O.pickT wd rfl rfl rfl rfl (opd_any rfl) (le_ rfl) ?_; refine O.move wd rfl rfl (le_ rfl) ?_; refine O.move wd rfl rfl (le_ rfl) ?_; refine O.move wd rfl rfl (le_ rfl) ?_; refine O.idxS wd rfl rfl rfl rfl (by omega) (by first | rfl | assumption) (le_ rfl) ?_; (first | refine O.binK true wd rfl rfl rfl rfl (cT (by omega)) (le_ rfl) ?_ | refine O.binK false wd rfl rfl rfl rfl (cF (by omega)) (le_ rfl) ?_); refine O.pickT wd rfl rfl rfl rfl (opd_any rfl) (le_ rfl) ?_; refine O.move wd rfl rfl (le_ rfl) ?_; (first | refine O.move wd rfl rfl (le_ rfl) ?_ | refine RestO.no wd rfl ?_); (first | refine O.move wd rfl rfl (le_ rfl) ?_ | refine RestO.no wd rfl ?_); (first | refine O.idxS wd rfl rfl rfl rfl (by omega) (by first | rfl | assumption) (le_ rfl) ?_ | refine RestO.no wd rfl ?_); (first | refine O.binK true wd rfl rfl rfl rfl (cT (by omega)) (le_ rfl) ?_ | refine O.binK false wd rfl rfl rfl rfl (cF (by omega)) (le_ rfl) ?_ | refine RestO.no wd rfl ?_); (first | refine O.pickT wd rfl rfl rfl rfl (opd_any rfl) (le_ rfl) ?_ | refine O.pickF wd rfl rfl rfl (opd_any rfl) rfl (le_ rfl) ?_); refine RestO.nil ?_) | (refine Rest.region (id := 3) ?_; refine O.move wd rfl rfl (le_ rfl) ?_; refine O.addI wd rfl rfl rfl (by omega) (le_ rfl) ?_; refine O.assign wd rfl rfl (le_ rfl) ?_; refine RestO.nil ?_) | (refine Rest.region (id := 4) ?_; refine O.move wd rfl rfl (le_ rfl) ?_; refine O.move wd rfl rfl (le_ rfl) ?_; refine O.subTo wd rfl rfl rfl rfl (by omega) (by first | omega | (simp only [List.length_cons, List.length_nil] at *; omega)) (by first | assumption | rfl) (le_ rfl) ?_; refine O.call_ wd rfl rfl rfl rfl rfl (mc rfl mn) rfl rfl (atoi_ct _ _ (by simp) (by assumption)) rfl rfl (le_ rfl) rfl rfl ?_; refine O.move wd rfl rfl (le_ rfl) ?_; refine O.extract wd rfl rfl rfl (le_ rfl) ?_; refine O.extract wd rfl rfl rfl (le_ rfl) ?_; refine O.assign wd rfl rfl (le_ rfl) ?_; refine O.assign wd rfl rfl (le_ rfl) ?_; refine RestO.nil ?_) | (refine Rest.region (id := 5) ?_; refine O.move wd rfl rfl (le_ rfl) ?_; refine O.noErr (E := Ee) Tryd.underlying119 rfl rfl rfl ?_; refine O.move wd rfl rfl (le_ rfl) ?_; refine O.move wd rfl rfl (le_ rfl) ?_; refine O.idxS wd rfl rfl rfl rfl (by omega) (by first | rfl | assumption) (le_ rfl) ?_; refine O.binK false wd rfl rfl rfl rfl (beqF (by omega)) (le_ rfl) ?_; refine O.pickF wd rfl rfl rfl (opd_any rfl) rfl (le_ rfl) ?_; refine RestO.nil ?_) | (refine Rest.draw (id := 7) wd.ok (le_ rfl) ?_; refine D.q rfl (by kernel_rfl) rfl rfl (Q.move rfl) rfl rfl ?_; refine D.q rfl (by kernel_rfl) rfl rfl (Q.move rfl) rfl rfl ?_; refine D.q rfl (by kernel_rfl) rfl rfl (Q.move rfl) rfl rfl ?_; refine D.q rfl (by kernel_rfl) rfl rfl (Q.subFrom rfl rfl rfl (by omega) (by first | omega | (simp only [List.length_cons, List.length_nil] at *; omega)) (by first | assumption | rfl)) rfl rfl ?_; refine D.q rfl (by kernel_rfl) rfl rfl (Q.assign rfl) rfl rfl ?_; refine D.q rfl (by kernel_rfl) rfl rfl (Q.assign rfl) rfl rfl ?_; refine RestD.nil ?_) | refine Rest.ifT (E := Ee) rfl rfl ?_ | refine Rest.ifF (E := Ee) rfl rfl ?_))
        exact Rest.ret (gives_fin rfl (gvT (gwc (gwO rfl) (gwc (gwO rfl) gwn))))
/-- The letter of one. -/
theorem enc_ascii {n : Int} (h : 0 ≤ n ∧ n < 128) : Utf8.encode n = mk [UInt8.ofNat n.toNat] := by
  obtain ⟨m, rfl⟩ : ∃ m : Nat, n = m := ⟨n.toNat, by omega⟩
  have hm : m < 128 := by omega
  clear h
  have key : ∀ m : Fin 128, Utf8.encode (m.1 : Int) = mk [UInt8.ofNat (m.1 : Int).toNat] := by decide +kernel
  exact key ⟨m, hm⟩
def letterL (who : Int) : List UInt8 := [UInt8.ofNat (65 + who).toNat]
theorem letter_ct (who : Int) (h : 0 ≤ who ∧ who ≤ 7) : Ct Tryd.prog 53 [bI who] (.w (bS (letterL who))) := by
  refine Ct.enter wd Tryd.func53 rfl rfl Tryd.ntmps53 rfl rfl rfl rfl ?_
  (repeat (first | refine Rest.seq ?_ | refine Rest.skip ?_ | refine Rest.block ?_ | refine Rest.blockEnd ?_ | refine Rest.exit rfl ?_ | refine Rest.again ?_ | (refine Rest.region (id := 0) ?_; refine O.assign wd rfl rfl (le_ rfl) ?_; refine RestO.nil ?_) | (refine Rest.region (id := 1) ?_; refine O.move wd rfl rfl (le_ rfl) ?_; refine O.addI wd rfl rfl rfl (by omega) (le_ rfl) ?_; refine O.conv32 wd rfl rfl rfl rfl (by omega) (le_ rfl) ?_; refine O.convR wd rfl rfl rfl rfl (by first | assumption | (exact enc_ascii (by omega))) (le_ rfl) ?_; refine O.assign wd rfl rfl (le_ rfl) ?_; refine RestO.nil ?_) | refine Rest.ifT (E := Ee) rfl rfl ?_ | refine Rest.ifF (E := Ee) rfl rfl ?_))
  exact Rest.ret (gives_fin rfl (gvO rfl))
/-- Who has a letter. -/
def oneL : List UInt8 → Int
  | a :: _ => if 65 ≤ (a.toNat : Int) ∧ (a.toNat : Int) ≤ 72 then a.toNat - 65 else -1
  | [] => -1
theorem one_ct (s : List UInt8) : Ct Tryd.prog 133 [bS s] (.w (bI (oneL s))) := by
  cases s with
  | nil =>
    refine Ct.enter wd Tryd.func133 rfl rfl Tryd.ntmps133 rfl rfl rfl rfl ?_
    have hl : ([] : List UInt8).length = 0 := rfl
    (repeat (first | refine Rest.seq ?_ | refine Rest.skip ?_ | refine Rest.block ?_ | refine Rest.blockEnd ?_ | refine Rest.exit rfl ?_ | refine Rest.again ?_ | (refine Rest.region (id := 0) ?_; refine O.assign wd rfl rfl (le_ rfl) ?_; refine RestO.nil ?_) | (refine Rest.region (id := 1) ?_; refine O.move wd rfl rfl (le_ rfl) ?_; refine O.lenM wd rfl rfl rfl (le_ rfl) ?_; refine O.binK true wd rfl rfl rfl rfl (beqT (by omega)) (le_ rfl) ?_; refine O.move wd rfl rfl (le_ rfl) ?_; refine RestO.no wd rfl ?_; refine RestO.no wd rfl ?_; refine RestO.no wd rfl ?_; refine RestO.no wd rfl ?_; refine RestO.no wd rfl ?_; refine RestO.no wd rfl ?_; refine O.pickT wd rfl rfl rfl rfl (opd_any rfl) (le_ rfl) ?_; refine RestO.nil ?_) | (refine Rest.region (id := 2) ?_; refine O.assign wd rfl rfl (le_ rfl) ?_; refine RestO.nil ?_) | refine Rest.ifT (E := Ee) rfl rfl ?_ | refine Rest.ifF (E := Ee) rfl rfl ?_))
    exact Rest.ret (gives_fin rfl (gvO rfl))
  | cons a s =>
    have hl : (a :: s).length = s.length + 1 := rfl
    have hlt := UInt8.toNat_lt a
    have key : oneL (a :: s) = if 65 ≤ (a.toNat : Int) ∧ (a.toNat : Int) ≤ 72 then (a.toNat : Int) - 65 else -1 := rfl
    refine Ct.enter wd Tryd.func133 rfl rfl Tryd.ntmps133 rfl rfl rfl rfl ?_
    by_cases h : 65 ≤ (a.toNat : Int) ∧ (a.toNat : Int) ≤ 72
    · rw [key, if_pos h]
      (repeat (first | refine Rest.seq ?_ | refine Rest.skip ?_ | refine Rest.block ?_ | refine Rest.blockEnd ?_ | refine Rest.exit rfl ?_ | refine Rest.again ?_ | (refine Rest.region (id := 0) ?_; refine O.assign wd rfl rfl (le_ rfl) ?_; refine RestO.nil ?_) | (refine Rest.region (id := 1) ?_; refine O.move wd rfl rfl (le_ rfl) ?_; refine O.lenM wd rfl rfl rfl (le_ rfl) ?_; refine O.binK false wd rfl rfl rfl rfl (beqF (by omega)) (le_ rfl) ?_; refine O.move wd rfl rfl (le_ rfl) ?_; refine O.move wd rfl rfl (le_ rfl) ?_; refine O.idxS wd rfl rfl rfl rfl (by omega) (by first | rfl | assumption) (le_ rfl) ?_; refine O.conv64 wd rfl rfl rfl rfl (by omega) (le_ rfl) ?_; refine O.subI wd rfl rfl rfl (by omega) (le_ rfl) ?_; refine O.call_ wd rfl rfl rfl rfl rfl (mc rfl mn) rfl rfl (Ct.kn true (isOne_ct _) (by first | assumption | exact cT (by omega))) rfl rfl (le_ rfl) rfl rfl ?_; refine O.un wd rfl rfl rfl (le_ rfl) ?_; refine O.pickF wd rfl rfl rfl (opd_any rfl) rfl (le_ rfl) ?_; refine RestO.nil ?_) | (refine Rest.region (id := 3) ?_; refine O.move wd rfl rfl (le_ rfl) ?_; refine O.idxS wd rfl rfl rfl rfl (by omega) (by first | rfl | assumption) (le_ rfl) ?_; refine O.conv64 wd rfl rfl rfl rfl (by omega) (le_ rfl) ?_; refine O.subI wd rfl rfl rfl (by omega) (le_ rfl) ?_; refine O.assign wd rfl rfl (le_ rfl) ?_; refine RestO.nil ?_) | refine Rest.ifT (E := Ee) rfl rfl ?_ | refine Rest.ifF (E := Ee) rfl rfl ?_))
      exact Rest.ret (gives_fin rfl (gvO rfl))
    · rw [key, if_neg h]
      (repeat (first | refine Rest.seq ?_ | refine Rest.skip ?_ | refine Rest.block ?_ | refine Rest.blockEnd ?_ | refine Rest.exit rfl ?_ | refine Rest.again ?_ | (refine Rest.region (id := 0) ?_; refine O.assign wd rfl rfl (le_ rfl) ?_; refine RestO.nil ?_) | (refine Rest.region (id := 1) ?_; refine O.move wd rfl rfl (le_ rfl) ?_; refine O.lenM wd rfl rfl rfl (le_ rfl) ?_; refine O.binK false wd rfl rfl rfl rfl (beqF (by omega)) (le_ rfl) ?_; refine O.move wd rfl rfl (le_ rfl) ?_; refine O.move wd rfl rfl (le_ rfl) ?_; refine O.idxS wd rfl rfl rfl rfl (by omega) (by first | rfl | assumption) (le_ rfl) ?_; refine O.conv64 wd rfl rfl rfl rfl (by omega) (le_ rfl) ?_; refine O.subI wd rfl rfl rfl (by omega) (le_ rfl) ?_; refine O.call_ wd rfl rfl rfl rfl rfl (mc rfl mn) rfl rfl (Ct.kn false (isOne_ct _) (by first | assumption | exact cF (by omega))) rfl rfl (le_ rfl) rfl rfl ?_; refine O.un wd rfl rfl rfl (le_ rfl) ?_; refine O.pickF wd rfl rfl rfl (opd_any rfl) rfl (le_ rfl) ?_; refine RestO.nil ?_) | (refine Rest.region (id := 2) ?_; refine O.assign wd rfl rfl (le_ rfl) ?_; refine RestO.nil ?_) | refine Rest.ifT (E := Ee) rfl rfl ?_ | refine Rest.ifF (E := Ee) rfl rfl ?_))
      exact Rest.ret (gives_fin rfl (gvO rfl))
end Go.Proofs.YtfokmnafgabdiaaDoor.Eng
/- How a secret's name is read by the program: names that are ones. -/
namespace Go.Proofs.YtfokmnafgabdiaaDoor.Eng
open Go Go.RowKit Kw
set_option linter.unusedVariables false
set_option linter.unusedSimpArgs false
set_option maxRecDepth 4000
/-- Whether a text begins with a semicolon. -/
def semi : List UInt8 → Bool
  | c :: _ => decide (c = 59)
  | [] => false
theorem hasP_ct (s : List UInt8) : Ct Tryd.prog 153 [bS s, bS [59]] (.w (bB (semi s))) := by
  have h1 : ([59] : List UInt8).length = 1 := rfl
  cases s with
  | nil =>
    have hl : ([] : List UInt8).length = 0 := rfl
    refine Ct.enter wd Tryd.func153 rfl rfl Tryd.ntmps153 rfl rfl rfl rfl ?_
    (repeat (first | refine Rest.seq ?_ | refine Rest.skip ?_ | refine Rest.block ?_ | refine Rest.blockEnd ?_ | refine Rest.exit rfl ?_ | refine Rest.again ?_ | (refine Rest.region (id := 0) ?_; refine O.assign wd rfl rfl (le_ rfl) ?_; refine RestO.nil ?_) | (refine Rest.region (id := 1) ?_; refine O.move wd rfl rfl (le_ rfl) ?_; refine O.lenM wd rfl rfl rfl (le_ rfl) ?_; refine O.move wd rfl rfl (le_ rfl) ?_; refine O.lenM wd rfl rfl rfl (le_ rfl) ?_; refine O.binK false wd rfl rfl rfl rfl (cF (by omega)) (le_ rfl) ?_; refine O.move wd rfl rfl (le_ rfl) ?_; refine RestO.no wd rfl ?_; refine RestO.no wd rfl ?_; refine RestO.no wd rfl ?_; refine RestO.no wd rfl ?_; refine RestO.no wd rfl ?_; refine RestO.no wd rfl ?_; refine O.pickF wd rfl rfl rfl (opd_any rfl) rfl (le_ rfl) ?_; refine O.assign wd rfl rfl (le_ rfl) ?_; refine RestO.nil ?_) | refine Rest.ifT (E := Ee) rfl rfl ?_ | refine Rest.ifF (E := Ee) rfl rfl ?_))
    exact Rest.ret (gives_fin rfl (gvO rfl))
  | cons c s =>
    have hl : (c :: s).length = s.length + 1 := rfl
    rw [show semi (c :: s) = decide ([c] = [59]) from by simp [semi]]
    refine Ct.enter wd Tryd.func153 rfl rfl Tryd.ntmps153 rfl rfl rfl rfl ?_
    (repeat (first | refine Rest.seq ?_ | refine Rest.skip ?_ | refine Rest.block ?_ | refine Rest.blockEnd ?_ | refine Rest.exit rfl ?_ | refine Rest.again ?_ | (refine Rest.region (id := 0) ?_; refine O.assign wd rfl rfl (le_ rfl) ?_; refine RestO.nil ?_) | (refine Rest.region (id := 1) ?_; refine O.move wd rfl rfl (le_ rfl) ?_; refine O.lenM wd rfl rfl rfl (le_ rfl) ?_; refine O.move wd rfl rfl (le_ rfl) ?_; refine O.lenM wd rfl rfl rfl (le_ rfl) ?_; refine O.binK true wd rfl rfl rfl rfl (cT (by omega)) (le_ rfl) ?_; refine O.move wd rfl rfl (le_ rfl) ?_; refine O.move wd rfl rfl (le_ rfl) ?_; refine O.move wd rfl rfl (le_ rfl) ?_; refine O.lenM wd rfl rfl rfl (le_ rfl) ?_; refine O.subTo wd rfl rfl rfl rfl (by omega) (by first | omega | (simp only [List.length_cons, List.length_nil] at *; omega)) (by first | assumption | rfl) (le_ rfl) ?_; refine O.move wd rfl rfl (le_ rfl) ?_; refine O.eqS wd rfl rfl rfl (le_ rfl) ?_; refine O.pickT wd rfl rfl rfl rfl (opd_any rfl) (le_ rfl) ?_; refine O.assign wd rfl rfl (le_ rfl) ?_; refine RestO.nil ?_) | refine Rest.ifT (E := Ee) rfl rfl ?_ | refine Rest.ifF (E := Ee) rfl rfl ?_))
    exact Rest.ret (gives_fin rfl (gvO rfl))
theorem hasPrefix_ct (s : List UInt8) : Ct Tryd.prog 135 [bS s, bS [59]] (.w (bB (semi s))) := by
  refine Ct.enter wd Tryd.func135 rfl rfl Tryd.ntmps135 rfl rfl rfl rfl ?_
  (repeat (first | refine Rest.seq ?_ | refine Rest.skip ?_ | refine Rest.block ?_ | refine Rest.blockEnd ?_ | refine Rest.exit rfl ?_ | refine Rest.again ?_ | (refine Rest.region (id := 0) ?_; refine O.assign wd rfl rfl (le_ rfl) ?_; refine RestO.nil ?_) | (refine Rest.region (id := 1) ?_; refine O.move wd rfl rfl (le_ rfl) ?_; refine O.move wd rfl rfl (le_ rfl) ?_; refine O.call_ wd rfl rfl rfl rfl rfl (mc rfl (mc rfl mn)) rfl rfl (hasP_ct _) rfl rfl (le_ rfl) rfl rfl ?_; refine O.assign wd rfl rfl (le_ rfl) ?_; refine RestO.nil ?_) | refine Rest.ifT (E := Ee) rfl rfl ?_ | refine Rest.ifF (E := Ee) rfl rfl ?_))
  exact Rest.ret (gives_fin rfl (gvO rfl))
abbrev bHow (h : How) : BW := .agg [.b (.c (.lit (.int .i64 h.op))), .b (.c (.lit (.int .i64 h.who))), .b (.c (.lit (.int .i64 h.n))), .b (.c (.lit (.string (mk h.a)))), .b (.c (.lit (.string (mk h.b))))]
theorem nameNil_ct : Ct Tryd.prog 110 [bS []] (.tup [bHow how0, bS [], bB false]) := by
  refine Ct.enter wd Tryd.func110 rfl rfl Tryd.ntmps110 rfl rfl rfl rfl ?_
  (repeat (first | refine Rest.seq ?_ | refine Rest.skip ?_ | refine Rest.block ?_ | refine Rest.blockEnd ?_ | refine Rest.exit rfl ?_ | refine Rest.again ?_ | (refine Rest.region (id := 0) ?_; refine O.alloc wd rfl rfl (le_ rfl) ?_; refine O.assign wd rfl rfl (le_ rfl) ?_; refine O.assign wd rfl rfl (le_ rfl) ?_; refine RestO.nil ?_) | (refine Rest.region (id := 1) ?_; refine O.move wd rfl rfl (le_ rfl) ?_; refine O.eqK true wd rfl rfl rfl (cT (by first | rfl | assumption | (simp; done) | (simp; assumption))) (le_ rfl) ?_; refine RestO.nil ?_) | (refine Rest.region (id := 2) ?_; refine O.build wd rfl rfl rfl rfl (le_ rfl) ?_; refine O.move wd rfl rfl (le_ rfl) ?_; refine O.store wd rfl rfl rfl rfl rfl rfl rfl rfl (le_ rfl) ?_; refine O.assign wd rfl rfl (le_ rfl) ?_; refine O.assign wd rfl rfl (le_ rfl) ?_; refine RestO.nil ?_) | refine Rest.ifT (E := Ee) rfl rfl ?_ | refine Rest.ifF (E := Ee) rfl rfl ?_))
  exact Rest.ret (gives_fin rfl (gvT (gwc (gwA (gc rfl (gc rfl (gc rfl (gc rfl (gc rfl gn)))))) (gwc (gwO rfl) (gwc (gwO rfl) gwn)))))
theorem nameNew_ct (c d : UInt8) (t r : List UInt8) (h : 65 ≤ (c.toNat : Int) ∧ (c.toNat : Int) ≤ 72) (hd : dig d = true) (hd0 : (d.toNat : Int) ≠ 48) (hr : (numOf (d :: t)).2 = 59 :: r) :
    Ct Tryd.prog 110 [bS (c :: d :: t)] (.tup [bHow ⟨1, (c.toNat : Int) - 65, (numOf (d :: t)).1, [], []⟩, bS r, bB true]) := by
  have ho : oneL (c :: d :: t) = (c.toNat : Int) - 65 := if_pos h
  have hl : (c :: d :: t).length = t.length + 2 := rfl
  have hs : semi (numOf (d :: t)).2 = true := by rw [hr]; rfl
  have hrl : (numOf (d :: t)).2.length = r.length + 1 := by rw [hr]; rfl
  have hrd : (numOf (d :: t)).2.drop (1 : Int).toNat = r := by rw [hr]; rfl
  have hn : (numOf (d :: t)).1 ≠ 0 := by
    have hd' := hd
    simp only [dig, decide_eq_true_eq] at hd'
    cases t with
    | nil => simp only [numOf]; omega
    | cons b t =>
      simp only [numOf]
      split
      · rename_i hb; simp only [dig, decide_eq_true_eq] at hb; simp only; omega
      · simp only; omega
  have hs1 : (c :: d :: t) ≠ [] := by simp
  refine Ct.enter wd Tryd.func110 rfl rfl Tryd.ntmps110 rfl rfl rfl rfl ?_
  (repeat (first | refine Rest.seq ?_ | refine Rest.skip ?_ | refine Rest.block ?_ | refine Rest.blockEnd ?_ | refine Rest.exit rfl ?_ | refine Rest.again ?_ | (refine Rest.region (id := 0) ?_; refine O.alloc wd rfl rfl (le_ rfl) ?_; refine O.assign wd rfl rfl (le_ rfl) ?_; refine O.assign wd rfl rfl (le_ rfl) ?_; refine RestO.nil ?_) | (refine Rest.region (id := 1) ?_; refine O.move wd rfl rfl (le_ rfl) ?_; refine O.eqK false wd rfl rfl rfl (cF (by first | rfl | assumption | (simp; done) | (simp; assumption))) (le_ rfl) ?_; refine RestO.nil ?_) | (refine Rest.region (id := 3) ?_; refine O.move wd rfl rfl (le_ rfl) ?_; refine O.call_ wd rfl rfl rfl rfl rfl (mc rfl mn) rfl rfl (one_ct _) rfl rfl (le_ rfl) rfl rfl ?_; refine O.assign wd rfl rfl (le_ rfl) ?_; refine RestO.nil ?_) | (refine Rest.region (id := 4) ?_; refine O.move wd rfl rfl (le_ rfl) ?_; refine O.binK true wd rfl rfl rfl rfl (cT (by omega)) (le_ rfl) ?_; refine RestO.nil ?_) | (refine Rest.region (id := 5) ?_; refine O.move wd rfl rfl (le_ rfl) ?_; refine O.subFrom wd rfl rfl rfl rfl (by omega) (by first | omega | (simp only [List.length_cons, List.length_nil] at *; omega)) (by first | assumption | rfl) (le_ rfl) ?_; refine O.call_ wd rfl rfl rfl rfl rfl (mc rfl mn) rfl rfl (numberOf_ct _ _ (by assumption) (by omega)) rfl rfl (le_ rfl) rfl rfl ?_; refine O.move wd rfl rfl (le_ rfl) ?_; refine O.extract wd rfl rfl rfl (le_ rfl) ?_; refine O.extract wd rfl rfl rfl (le_ rfl) ?_; refine O.assign wd rfl rfl (le_ rfl) ?_; refine O.assign wd rfl rfl (le_ rfl) ?_; refine RestO.nil ?_) | (refine Rest.region (id := 6) ?_; refine O.move wd rfl rfl (le_ rfl) ?_; refine O.binK false wd rfl rfl rfl rfl (beqF (by omega)) (le_ rfl) ?_; refine O.move wd rfl rfl (le_ rfl) ?_; refine O.move wd rfl rfl (le_ rfl) ?_; refine O.call_ wd rfl rfl rfl rfl rfl (mc rfl (mc rfl mn)) rfl rfl (Ct.kn true (hasPrefix_ct _) (by first | assumption | exact cT (by omega))) rfl rfl (le_ rfl) rfl rfl ?_; refine O.un wd rfl rfl rfl (le_ rfl) ?_; refine O.pickF wd rfl rfl rfl (opd_any rfl) rfl (le_ rfl) ?_; refine RestO.nil ?_) | (refine Rest.draw (id := 8) wd.ok (le_ rfl) ?_; refine D.q rfl (by kernel_rfl) rfl rfl (Q.move rfl) rfl rfl ?_; refine D.q rfl (by kernel_rfl) rfl rfl (Q.move rfl) rfl rfl ?_; refine D.q rfl (by kernel_rfl) rfl rfl (Q.build rfl rfl rfl) rfl rfl ?_; refine D.q rfl (by kernel_rfl) rfl rfl (Q.move rfl) rfl rfl ?_; refine D.q rfl (by kernel_rfl) rfl rfl (Q.subFrom rfl rfl rfl (by omega) (by first | omega | (simp only [List.length_cons, List.length_nil] at *; omega)) (by first | assumption | rfl)) rfl rfl ?_; refine D.store rfl (by kernel_rfl) rfl rfl rfl rfl rfl rfl rfl rfl (by kernel_rfl) ?_; refine D.q rfl (by kernel_rfl) rfl rfl (Q.assign rfl) rfl rfl ?_; refine D.q rfl (by kernel_rfl) rfl rfl (Q.assign rfl) rfl rfl ?_; refine RestD.nil ?_) | refine Rest.ifT (E := Ee) rfl rfl ?_ | refine Rest.ifF (E := Ee) rfl rfl ?_))
  rw [ho]
  exact Rest.ret (gives_fin rfl (gvT (gwc (gwA (gc rfl (gc rfl (gc rfl (gc rfl (gc rfl gn)))))) (gwc (gwO rfl) (gwc (gwO rfl) gwn)))))
end Go.Proofs.YtfokmnafgabdiaaDoor.Eng
/- How a secret's name is read by the program: all names. -/
namespace Go.Proofs.YtfokmnafgabdiaaDoor.Eng
open Go Go.RowKit Kw
set_option linter.unusedVariables false
set_option linter.unusedSimpArgs false
set_option maxRecDepth 4000
theorem oneL_no {c : UInt8} {t : List UInt8} (h : ¬ (65 ≤ (c.toNat : Int) ∧ (c.toNat : Int) ≤ 72)) : oneL (c :: t) = -1 := if_neg h
theorem oneL_yes {c : UInt8} {t : List UInt8} (h : 65 ≤ (c.toNat : Int) ∧ (c.toNat : Int) ≤ 72) : oneL (c :: t) = (c.toNat : Int) - 65 := if_pos h
theorem nameUp_ct (c : UInt8) (t r : List UInt8) (op : Int) (h0 : How) (hb1 : Ct Tryd.prog 110 [bS t] (.tup [bHow h0, bS r, bB true])) (hr : r.length < t.length)
    (hq : t.length ≤ 300) (hc : ((c.toNat : Int) = 110 ∧ op = 2) ∨ ((c.toNat : Int) = 107 ∧ op = 3)) :
    Ct Tryd.prog 110 [bS (c :: t)] (.tup [bHow ⟨op, 0, 0, Kw.ahead t r, []⟩, bS r, bB true]) := by
  have ho : oneL (c :: t) = -1 := oneL_no (by omega)
  have hl : (c :: t).length = t.length + 1 := rfl
  have hdr : (c :: t).drop (1 : Int).toNat = t := rfl
  have hs1 : (c :: t) ≠ [] := by simp
  rcases hc with ⟨hc, rfl⟩ | ⟨hc, rfl⟩
  all_goals
    refine Ct.enter wd Tryd.func110 rfl rfl Tryd.ntmps110 rfl rfl rfl rfl ?_
    (repeat (first | refine Rest.seq ?_ | refine Rest.skip ?_ | refine Rest.block ?_ | refine Rest.blockEnd ?_ | refine Rest.exit rfl ?_ | refine Rest.again ?_ | (refine Rest.region (id := 0) ?_; refine O.alloc wd rfl rfl (le_ rfl) ?_; refine O.assign wd rfl rfl (le_ rfl) ?_; refine O.assign wd rfl rfl (le_ rfl) ?_; refine RestO.nil ?_) | (refine Rest.region (id := 1) ?_; refine O.move wd rfl rfl (le_ rfl) ?_; refine O.eqK false wd rfl rfl rfl (cF (by first | rfl | assumption | (simp; done) | (simp; assumption))) (le_ rfl) ?_; refine RestO.nil ?_) | (refine Rest.region (id := 3) ?_; refine O.move wd rfl rfl (le_ rfl) ?_; refine O.call_ wd rfl rfl rfl rfl rfl (mc rfl mn) rfl rfl (one_ct _) rfl rfl (le_ rfl) rfl rfl ?_; refine O.assign wd rfl rfl (le_ rfl) ?_; refine RestO.nil ?_) | (refine Rest.region (id := 4) ?_; refine O.move wd rfl rfl (le_ rfl) ?_; refine O.binK false wd rfl rfl rfl rfl (cF (by omega)) (le_ rfl) ?_; refine RestO.nil ?_) | (refine Rest.region (id := 9) ?_; refine O.build wd rfl rfl rfl rfl (le_ rfl) ?_; refine O.alloc wd rfl rfl (le_ rfl) ?_; refine O.store wd rfl rfl rfl rfl rfl rfl rfl rfl (le_ rfl) ?_; refine RestO.nil ?_) | (refine Rest.region (id := 10) ?_; refine O.move wd rfl rfl (le_ rfl) ?_; refine O.subFrom wd rfl rfl rfl rfl (by omega) (by first | omega | (simp only [List.length_cons, List.length_nil] at *; omega)) (by first | assumption | rfl) (le_ rfl) ?_; refine O.assign wd rfl rfl (le_ rfl) ?_; refine RestO.nil ?_) | (refine Rest.region (id := 11) ?_; refine O.move wd rfl rfl (le_ rfl) ?_; refine O.idxS wd rfl rfl rfl rfl (by omega) (by first | rfl | assumption) (le_ rfl) ?_; refine RestO.nil ?_) | (refine Rest.region (id := 13) ?_; (first | refine O.binK true wd rfl rfl rfl rfl (beqT (by omega)) (le_ rfl) ?_ | refine O.binK false wd rfl rfl rfl rfl (beqF (by omega)) (le_ rfl) ?_); refine O.assign wd rfl rfl (le_ rfl) ?_; refine RestO.nil ?_) | (refine Rest.region (id := 14) ?_; refine O.fieldAddrV wd rfl rfl rfl rfl rfl rfl (le_ rfl) ?_; refine O.store wd rfl rfl rfl rfl rfl rfl rfl rfl (le_ rfl) ?_; refine RestO.nil ?_) | (refine Rest.region (id := 15) ?_; refine O.binK true wd rfl rfl rfl rfl (beqT (by omega)) (le_ rfl) ?_; refine O.assign wd rfl rfl (le_ rfl) ?_; refine RestO.nil ?_) | (refine Rest.region (id := 16) ?_; refine O.fieldAddrV wd rfl rfl rfl rfl rfl rfl (le_ rfl) ?_; refine O.store wd rfl rfl rfl rfl rfl rfl rfl rfl (le_ rfl) ?_; refine RestO.nil ?_) | (refine Rest.region (id := 30) ?_; refine O.move wd rfl rfl (le_ rfl) ?_; refine O.call_ wd rfl rfl rfl rfl rfl (mc rfl mn) rfl rfl hb1 rfl rfl (le_ rfl) rfl rfl ?_; refine O.move wd rfl rfl (le_ rfl) ?_; refine O.extract wd rfl rfl rfl (le_ rfl) ?_; refine O.extract wd rfl rfl rfl (le_ rfl) ?_; refine O.extract wd rfl rfl rfl (le_ rfl) ?_; refine O.alloc wd rfl rfl (le_ rfl) ?_; refine O.store wd rfl rfl rfl rfl rfl rfl rfl rfl (le_ rfl) ?_; refine O.assign wd rfl rfl (le_ rfl) ?_; refine O.assign wd rfl rfl (le_ rfl) ?_; refine RestO.nil ?_) | (refine Rest.region (id := 31) ?_; refine O.move wd rfl rfl (le_ rfl) ?_; refine O.move wd rfl rfl (le_ rfl) ?_; refine O.lenM wd rfl rfl rfl (le_ rfl) ?_; refine O.move wd rfl rfl (le_ rfl) ?_; refine O.lenM wd rfl rfl rfl (le_ rfl) ?_; refine O.subI wd rfl rfl rfl (by omega) (le_ rfl) ?_; refine O.subTo wd rfl rfl rfl rfl (by omega) (by first | omega | (simp only [List.length_cons, List.length_nil] at *; omega)) (by first | assumption | rfl) (le_ rfl) ?_; refine O.fieldAddrV wd rfl rfl rfl rfl rfl rfl (le_ rfl) ?_; refine O.store wd rfl rfl rfl rfl rfl rfl rfl rfl (le_ rfl) ?_; refine RestO.nil ?_) | (refine Rest.region (id := 32) ?_; refine O.move wd rfl rfl (le_ rfl) ?_; refine O.move wd rfl rfl (le_ rfl) ?_; refine O.fieldAddrV wd rfl rfl rfl rfl rfl rfl (le_ rfl) ?_; refine O.load wd rfl rfl rfl rfl rfl (le_ rfl) ?_; refine O.binK false wd rfl rfl rfl rfl (beqF (by omega)) (le_ rfl) ?_; refine O.pickT wd rfl rfl rfl rfl (opd_any rfl) (le_ rfl) ?_; refine RestO.nil ?_) | (refine Rest.region (id := 36) ?_; refine O.move wd rfl rfl (le_ rfl) ?_; refine O.un wd rfl rfl rfl (le_ rfl) ?_; refine RestO.nil ?_) | (refine Rest.region (id := 38) ?_; refine O.load wd rfl rfl rfl rfl rfl (le_ rfl) ?_; refine O.move wd rfl rfl (le_ rfl) ?_; refine O.store wd rfl rfl rfl rfl rfl rfl rfl rfl (le_ rfl) ?_; refine O.assign wd rfl rfl (le_ rfl) ?_; refine O.assign wd rfl rfl (le_ rfl) ?_; refine RestO.nil ?_) | refine Rest.ifT (E := Ee) rfl rfl ?_ | refine Rest.ifF (E := Ee) rfl rfl ?_))
    exact Rest.ret (gives_fin rfl (gvT (gwc (gwA (gc rfl (gc rfl (gc rfl (gc rfl (gc rfl gn)))))) (gwc (gwO rfl) (gwc (gwO rfl) gwn)))))
theorem nameSay_ct (c d : UInt8) (t r : List UInt8) (h0 : How) (hb1 : Ct Tryd.prog 110 [bS t] (.tup [bHow h0, bS r, bB true])) (hr : r.length < t.length)
    (hq : t.length ≤ 300) (hc : (c.toNat : Int) = 109) (hd : 65 ≤ (d.toNat : Int) ∧ (d.toNat : Int) ≤ 72) :
    Ct Tryd.prog 110 [bS (c :: d :: t)] (.tup [bHow ⟨5, (d.toNat : Int) - 65, 0, Kw.ahead t r, []⟩, bS r, bB true]) := by
  have ho : oneL (c :: d :: t) = -1 := oneL_no (by omega)
  have ho' : oneL (d :: t) = (d.toNat : Int) - 65 := oneL_yes hd
  have hl : (c :: d :: t).length = t.length + 2 := rfl
  have hdr : (c :: d :: t).drop (1 : Int).toNat = d :: t := rfl
  have hdr' : (d :: t).drop (1 : Int).toNat = t := rfl
  have hl' : (d :: t).length = t.length + 1 := rfl
  have hs1 : (c :: d :: t) ≠ [] := by simp
  refine Ct.enter wd Tryd.func110 rfl rfl Tryd.ntmps110 rfl rfl rfl rfl ?_
  (repeat (first | refine Rest.seq ?_ | refine Rest.skip ?_ | refine Rest.block ?_ | refine Rest.blockEnd ?_ | refine Rest.exit rfl ?_ | refine Rest.again ?_ | (refine Rest.region (id := 0) ?_; refine O.alloc wd rfl rfl (le_ rfl) ?_; refine O.assign wd rfl rfl (le_ rfl) ?_; refine O.assign wd rfl rfl (le_ rfl) ?_; refine RestO.nil ?_) | (refine Rest.region (id := 1) ?_; refine O.move wd rfl rfl (le_ rfl) ?_; refine O.eqK false wd rfl rfl rfl (cF (by first | rfl | assumption | (simp; done) | (simp; assumption))) (le_ rfl) ?_; refine RestO.nil ?_) | (refine Rest.region (id := 3) ?_; refine O.move wd rfl rfl (le_ rfl) ?_; refine O.call_ wd rfl rfl rfl rfl rfl (mc rfl mn) rfl rfl (one_ct _) rfl rfl (le_ rfl) rfl rfl ?_; refine O.assign wd rfl rfl (le_ rfl) ?_; refine RestO.nil ?_) | (refine Rest.region (id := 4) ?_; refine O.move wd rfl rfl (le_ rfl) ?_; refine O.binK false wd rfl rfl rfl rfl (cF (by omega)) (le_ rfl) ?_; refine RestO.nil ?_) | (refine Rest.region (id := 9) ?_; refine O.build wd rfl rfl rfl rfl (le_ rfl) ?_; refine O.alloc wd rfl rfl (le_ rfl) ?_; refine O.store wd rfl rfl rfl rfl rfl rfl rfl rfl (le_ rfl) ?_; refine RestO.nil ?_) | (refine Rest.region (id := 10) ?_; refine O.move wd rfl rfl (le_ rfl) ?_; refine O.subFrom wd rfl rfl rfl rfl (by omega) (by first | omega | (simp only [List.length_cons, List.length_nil] at *; omega)) (by first | assumption | rfl) (le_ rfl) ?_; refine O.assign wd rfl rfl (le_ rfl) ?_; refine RestO.nil ?_) | (refine Rest.region (id := 11) ?_; refine O.move wd rfl rfl (le_ rfl) ?_; refine O.idxS wd rfl rfl rfl rfl (by omega) (by first | rfl | assumption) (le_ rfl) ?_; refine RestO.nil ?_) | (refine Rest.region (id := 13) ?_; refine O.binK false wd rfl rfl rfl rfl (beqF (by omega)) (le_ rfl) ?_; refine O.assign wd rfl rfl (le_ rfl) ?_; refine RestO.nil ?_) | (refine Rest.region (id := 15) ?_; refine O.binK false wd rfl rfl rfl rfl (beqF (by omega)) (le_ rfl) ?_; refine O.assign wd rfl rfl (le_ rfl) ?_; refine RestO.nil ?_) | (refine Rest.region (id := 17) ?_; refine O.binK false wd rfl rfl rfl rfl (beqF (by omega)) (le_ rfl) ?_; refine O.assign wd rfl rfl (le_ rfl) ?_; refine RestO.nil ?_) | (refine Rest.region (id := 19) ?_; refine O.binK true wd rfl rfl rfl rfl (beqT (by omega)) (le_ rfl) ?_; refine O.assign wd rfl rfl (le_ rfl) ?_; refine RestO.nil ?_) | (refine Rest.region (id := 20) ?_; refine O.move wd rfl rfl (le_ rfl) ?_; refine O.call_ wd rfl rfl rfl rfl rfl (mc rfl mn) rfl rfl (one_ct _) rfl rfl (le_ rfl) rfl rfl ?_; refine O.fieldAddrV wd rfl rfl rfl rfl rfl rfl (le_ rfl) ?_; refine O.store wd rfl rfl rfl rfl rfl rfl rfl rfl (le_ rfl) ?_; refine O.fieldAddrV wd rfl rfl rfl rfl rfl rfl (le_ rfl) ?_; refine O.store wd rfl rfl rfl rfl rfl rfl rfl rfl (le_ rfl) ?_; refine RestO.nil ?_) | (refine Rest.region (id := 21) ?_; refine O.fieldAddrV wd rfl rfl rfl rfl rfl rfl (le_ rfl) ?_; refine O.load wd rfl rfl rfl rfl rfl (le_ rfl) ?_; refine O.binK false wd rfl rfl rfl rfl (cF (by omega)) (le_ rfl) ?_; refine RestO.nil ?_) | (refine Rest.region (id := 23) ?_; refine O.move wd rfl rfl (le_ rfl) ?_; refine O.subFrom wd rfl rfl rfl rfl (by omega) (by first | omega | (simp only [List.length_cons, List.length_nil] at *; omega)) (by first | assumption | rfl) (le_ rfl) ?_; refine O.assign wd rfl rfl (le_ rfl) ?_; refine RestO.nil ?_) | (refine Rest.region (id := 30) ?_; refine O.move wd rfl rfl (le_ rfl) ?_; refine O.call_ wd rfl rfl rfl rfl rfl (mc rfl mn) rfl rfl hb1 rfl rfl (le_ rfl) rfl rfl ?_; refine O.move wd rfl rfl (le_ rfl) ?_; refine O.extract wd rfl rfl rfl (le_ rfl) ?_; refine O.extract wd rfl rfl rfl (le_ rfl) ?_; refine O.extract wd rfl rfl rfl (le_ rfl) ?_; refine O.alloc wd rfl rfl (le_ rfl) ?_; refine O.store wd rfl rfl rfl rfl rfl rfl rfl rfl (le_ rfl) ?_; refine O.assign wd rfl rfl (le_ rfl) ?_; refine O.assign wd rfl rfl (le_ rfl) ?_; refine RestO.nil ?_) | (refine Rest.region (id := 31) ?_; refine O.move wd rfl rfl (le_ rfl) ?_; refine O.move wd rfl rfl (le_ rfl) ?_; refine O.lenM wd rfl rfl rfl (le_ rfl) ?_; refine O.move wd rfl rfl (le_ rfl) ?_; refine O.lenM wd rfl rfl rfl (le_ rfl) ?_; refine O.subI wd rfl rfl rfl (by omega) (le_ rfl) ?_; refine O.subTo wd rfl rfl rfl rfl (by omega) (by first | omega | (simp only [List.length_cons, List.length_nil] at *; omega)) (by first | assumption | rfl) (le_ rfl) ?_; refine O.fieldAddrV wd rfl rfl rfl rfl rfl rfl (le_ rfl) ?_; refine O.store wd rfl rfl rfl rfl rfl rfl rfl rfl (le_ rfl) ?_; refine RestO.nil ?_) | (refine Rest.region (id := 32) ?_; refine O.move wd rfl rfl (le_ rfl) ?_; refine O.move wd rfl rfl (le_ rfl) ?_; refine O.fieldAddrV wd rfl rfl rfl rfl rfl rfl (le_ rfl) ?_; refine O.load wd rfl rfl rfl rfl rfl (le_ rfl) ?_; refine O.binK false wd rfl rfl rfl rfl (beqF (by omega)) (le_ rfl) ?_; refine O.pickT wd rfl rfl rfl rfl (opd_any rfl) (le_ rfl) ?_; refine RestO.nil ?_) | (refine Rest.region (id := 36) ?_; refine O.move wd rfl rfl (le_ rfl) ?_; refine O.un wd rfl rfl rfl (le_ rfl) ?_; refine RestO.nil ?_) | (refine Rest.region (id := 38) ?_; refine O.load wd rfl rfl rfl rfl rfl (le_ rfl) ?_; refine O.move wd rfl rfl (le_ rfl) ?_; refine O.store wd rfl rfl rfl rfl rfl rfl rfl rfl (le_ rfl) ?_; refine O.assign wd rfl rfl (le_ rfl) ?_; refine O.assign wd rfl rfl (le_ rfl) ?_; refine RestO.nil ?_) | refine Rest.ifT (E := Ee) rfl rfl ?_ | refine Rest.ifF (E := Ee) rfl rfl ?_))
  rw [ho']
  exact Rest.ret (gives_fin rfl (gvT (gwc (gwA (gc rfl (gc rfl (gc rfl (gc rfl (gc rfl gn)))))) (gwc (gwO rfl) (gwc (gwO rfl) gwn)))))
theorem nameRoom_ct (c d : UInt8) (t r : List UInt8) (h0 : How) (hb1 : Ct Tryd.prog 110 [bS t] (.tup [bHow h0, bS r, bB true])) (hr : r.length < t.length)
    (hq : t.length ≤ 300) (hc : (c.toNat : Int) = 114) (hd : 49 ≤ (d.toNat : Int) ∧ (d.toNat : Int) ≤ 57) :
    Ct Tryd.prog 110 [bS (c :: d :: t)] (.tup [bHow ⟨6, 0, (d.toNat : Int) - 48, Kw.ahead t r, []⟩, bS r, bB true]) := by
  have ho : oneL (c :: d :: t) = -1 := oneL_no (by omega)
  have hl : (c :: d :: t).length = t.length + 2 := rfl
  have hdr : (c :: d :: t).drop (1 : Int).toNat = d :: t := rfl
  have hdr' : (d :: t).drop (1 : Int).toNat = t := rfl
  have hl' : (d :: t).length = t.length + 1 := rfl
  have hs1 : (c :: d :: t) ≠ [] := by simp
  have hs2 : (d :: t) ≠ [] := by simp
  refine Ct.enter wd Tryd.func110 rfl rfl Tryd.ntmps110 rfl rfl rfl rfl ?_
  (repeat (first | refine Rest.seq ?_ | refine Rest.skip ?_ | refine Rest.block ?_ | refine Rest.blockEnd ?_ | refine Rest.exit rfl ?_ | refine Rest.again ?_ | (refine Rest.region (id := 0) ?_; refine O.alloc wd rfl rfl (le_ rfl) ?_; refine O.assign wd rfl rfl (le_ rfl) ?_; refine O.assign wd rfl rfl (le_ rfl) ?_; refine RestO.nil ?_) | (refine Rest.region (id := 1) ?_; refine O.move wd rfl rfl (le_ rfl) ?_; refine O.eqK false wd rfl rfl rfl (cF (by first | rfl | assumption | (simp; done) | (simp; assumption))) (le_ rfl) ?_; refine RestO.nil ?_) | (refine Rest.region (id := 3) ?_; refine O.move wd rfl rfl (le_ rfl) ?_; refine O.call_ wd rfl rfl rfl rfl rfl (mc rfl mn) rfl rfl (one_ct _) rfl rfl (le_ rfl) rfl rfl ?_; refine O.assign wd rfl rfl (le_ rfl) ?_; refine RestO.nil ?_) | (refine Rest.region (id := 4) ?_; refine O.move wd rfl rfl (le_ rfl) ?_; refine O.binK false wd rfl rfl rfl rfl (cF (by omega)) (le_ rfl) ?_; refine RestO.nil ?_) | (refine Rest.region (id := 9) ?_; refine O.build wd rfl rfl rfl rfl (le_ rfl) ?_; refine O.alloc wd rfl rfl (le_ rfl) ?_; refine O.store wd rfl rfl rfl rfl rfl rfl rfl rfl (le_ rfl) ?_; refine RestO.nil ?_) | (refine Rest.region (id := 10) ?_; refine O.move wd rfl rfl (le_ rfl) ?_; refine O.subFrom wd rfl rfl rfl rfl (by omega) (by first | omega | (simp only [List.length_cons, List.length_nil] at *; omega)) (by first | assumption | rfl) (le_ rfl) ?_; refine O.assign wd rfl rfl (le_ rfl) ?_; refine RestO.nil ?_) | (refine Rest.region (id := 11) ?_; refine O.move wd rfl rfl (le_ rfl) ?_; refine O.idxS wd rfl rfl rfl rfl (by omega) (by first | rfl | assumption) (le_ rfl) ?_; refine RestO.nil ?_) | (refine Rest.region (id := 13) ?_; refine O.binK false wd rfl rfl rfl rfl (beqF (by omega)) (le_ rfl) ?_; refine O.assign wd rfl rfl (le_ rfl) ?_; refine RestO.nil ?_) | (refine Rest.region (id := 15) ?_; refine O.binK false wd rfl rfl rfl rfl (beqF (by omega)) (le_ rfl) ?_; refine O.assign wd rfl rfl (le_ rfl) ?_; refine RestO.nil ?_) | (refine Rest.region (id := 17) ?_; refine O.binK false wd rfl rfl rfl rfl (beqF (by omega)) (le_ rfl) ?_; refine O.assign wd rfl rfl (le_ rfl) ?_; refine RestO.nil ?_) | (refine Rest.region (id := 19) ?_; refine O.binK false wd rfl rfl rfl rfl (beqF (by omega)) (le_ rfl) ?_; refine O.assign wd rfl rfl (le_ rfl) ?_; refine RestO.nil ?_) | (refine Rest.region (id := 24) ?_; refine O.binK true wd rfl rfl rfl rfl (beqT (by omega)) (le_ rfl) ?_; refine O.assign wd rfl rfl (le_ rfl) ?_; refine RestO.nil ?_) | (refine Rest.region (id := 25) ?_; refine O.fieldAddrV wd rfl rfl rfl rfl rfl rfl (le_ rfl) ?_; refine O.store wd rfl rfl rfl rfl rfl rfl rfl rfl (le_ rfl) ?_; refine RestO.nil ?_) | (refine Rest.region (id := 26) ?_; refine O.move wd rfl rfl (le_ rfl) ?_; refine O.eqK false wd rfl rfl rfl (cF (by first | rfl | assumption | (simp; done) | (simp; assumption))) (le_ rfl) ?_; refine O.move wd rfl rfl (le_ rfl) ?_; refine O.move wd rfl rfl (le_ rfl) ?_; refine O.idxS wd rfl rfl rfl rfl (by omega) (by first | rfl | assumption) (le_ rfl) ?_; refine O.binK false wd rfl rfl rfl rfl (cF (by omega)) (le_ rfl) ?_; refine O.pickF wd rfl rfl rfl (opd_any rfl) rfl (le_ rfl) ?_; refine O.move wd rfl rfl (le_ rfl) ?_; refine O.move wd rfl rfl (le_ rfl) ?_; refine O.idxS wd rfl rfl rfl rfl (by omega) (by first | rfl | assumption) (le_ rfl) ?_; refine O.binK false wd rfl rfl rfl rfl (cF (by omega)) (le_ rfl) ?_; refine O.pickF wd rfl rfl rfl (opd_any rfl) rfl (le_ rfl) ?_; refine RestO.nil ?_) | (refine Rest.region (id := 28) ?_; refine O.move wd rfl rfl (le_ rfl) ?_; refine O.idxS wd rfl rfl rfl rfl (by omega) (by first | rfl | assumption) (le_ rfl) ?_; refine O.subB wd rfl rfl rfl (by omega) (le_ rfl) ?_; refine O.conv64 wd rfl rfl rfl rfl (by omega) (le_ rfl) ?_; refine O.fieldAddrV wd rfl rfl rfl rfl rfl rfl (le_ rfl) ?_; refine O.store wd rfl rfl rfl rfl rfl rfl rfl rfl (le_ rfl) ?_; refine RestO.nil ?_) | (refine Rest.region (id := 29) ?_; refine O.move wd rfl rfl (le_ rfl) ?_; refine O.subFrom wd rfl rfl rfl rfl (by omega) (by first | omega | (simp only [List.length_cons, List.length_nil] at *; omega)) (by first | assumption | rfl) (le_ rfl) ?_; refine O.assign wd rfl rfl (le_ rfl) ?_; refine RestO.nil ?_) | (refine Rest.region (id := 30) ?_; refine O.move wd rfl rfl (le_ rfl) ?_; refine O.call_ wd rfl rfl rfl rfl rfl (mc rfl mn) rfl rfl hb1 rfl rfl (le_ rfl) rfl rfl ?_; refine O.move wd rfl rfl (le_ rfl) ?_; refine O.extract wd rfl rfl rfl (le_ rfl) ?_; refine O.extract wd rfl rfl rfl (le_ rfl) ?_; refine O.extract wd rfl rfl rfl (le_ rfl) ?_; refine O.alloc wd rfl rfl (le_ rfl) ?_; refine O.store wd rfl rfl rfl rfl rfl rfl rfl rfl (le_ rfl) ?_; refine O.assign wd rfl rfl (le_ rfl) ?_; refine O.assign wd rfl rfl (le_ rfl) ?_; refine RestO.nil ?_) | (refine Rest.region (id := 31) ?_; refine O.move wd rfl rfl (le_ rfl) ?_; refine O.move wd rfl rfl (le_ rfl) ?_; refine O.lenM wd rfl rfl rfl (le_ rfl) ?_; refine O.move wd rfl rfl (le_ rfl) ?_; refine O.lenM wd rfl rfl rfl (le_ rfl) ?_; refine O.subI wd rfl rfl rfl (by omega) (le_ rfl) ?_; refine O.subTo wd rfl rfl rfl rfl (by omega) (by first | omega | (simp only [List.length_cons, List.length_nil] at *; omega)) (by first | assumption | rfl) (le_ rfl) ?_; refine O.fieldAddrV wd rfl rfl rfl rfl rfl rfl (le_ rfl) ?_; refine O.store wd rfl rfl rfl rfl rfl rfl rfl rfl (le_ rfl) ?_; refine RestO.nil ?_) | (refine Rest.region (id := 32) ?_; refine O.move wd rfl rfl (le_ rfl) ?_; refine O.move wd rfl rfl (le_ rfl) ?_; refine O.fieldAddrV wd rfl rfl rfl rfl rfl rfl (le_ rfl) ?_; refine O.load wd rfl rfl rfl rfl rfl (le_ rfl) ?_; refine O.binK false wd rfl rfl rfl rfl (beqF (by omega)) (le_ rfl) ?_; refine O.pickT wd rfl rfl rfl rfl (opd_any rfl) (le_ rfl) ?_; refine RestO.nil ?_) | (refine Rest.region (id := 36) ?_; refine O.move wd rfl rfl (le_ rfl) ?_; refine O.un wd rfl rfl rfl (le_ rfl) ?_; refine RestO.nil ?_) | (refine Rest.region (id := 38) ?_; refine O.load wd rfl rfl rfl rfl rfl (le_ rfl) ?_; refine O.move wd rfl rfl (le_ rfl) ?_; refine O.store wd rfl rfl rfl rfl rfl rfl rfl rfl (le_ rfl) ?_; refine O.assign wd rfl rfl (le_ rfl) ?_; refine O.assign wd rfl rfl (le_ rfl) ?_; refine RestO.nil ?_) | refine Rest.ifT (E := Ee) rfl rfl ?_ | refine Rest.ifF (E := Ee) rfl rfl ?_))
  exact Rest.ret (gives_fin rfl (gvT (gwc (gwA (gc rfl (gc rfl (gc rfl (gc rfl (gc rfl gn)))))) (gwc (gwO rfl) (gwc (gwO rfl) gwn)))))
theorem nameTwo_ct (c : UInt8) (t r r2 : List UInt8) (h0 h1 : How) (hb1 : Ct Tryd.prog 110 [bS t] (.tup [bHow h0, bS r, bB true])) (hr : r.length < t.length)
    (hb2 : Ct Tryd.prog 110 [bS r] (.tup [bHow h1, bS r2, bB true])) (hr2 : r2.length < r.length)
    (hq : t.length ≤ 300) (hc : (c.toNat : Int) = 101) :
    Ct Tryd.prog 110 [bS (c :: t)] (.tup [bHow ⟨4, 0, 0, Kw.ahead t r, Kw.ahead r r2⟩, bS r2, bB true]) := by
  have ho : oneL (c :: t) = -1 := oneL_no (by omega)
  have hl : (c :: t).length = t.length + 1 := rfl
  have hdr : (c :: t).drop (1 : Int).toNat = t := rfl
  have hs1 : (c :: t) ≠ [] := by simp
  refine Ct.enter wd Tryd.func110 rfl rfl Tryd.ntmps110 rfl rfl rfl rfl ?_
  (repeat (first | refine Rest.seq ?_ | refine Rest.skip ?_ | refine Rest.block ?_ | refine Rest.blockEnd ?_ | refine Rest.exit rfl ?_ | refine Rest.again ?_ | (refine Rest.region (id := 0) ?_; refine O.alloc wd rfl rfl (le_ rfl) ?_; refine O.assign wd rfl rfl (le_ rfl) ?_; refine O.assign wd rfl rfl (le_ rfl) ?_; refine RestO.nil ?_) | (refine Rest.region (id := 1) ?_; refine O.move wd rfl rfl (le_ rfl) ?_; refine O.eqK false wd rfl rfl rfl (cF (by first | rfl | assumption | (simp; done) | (simp; assumption))) (le_ rfl) ?_; refine RestO.nil ?_) | (refine Rest.region (id := 3) ?_; refine O.move wd rfl rfl (le_ rfl) ?_; refine O.call_ wd rfl rfl rfl rfl rfl (mc rfl mn) rfl rfl (one_ct _) rfl rfl (le_ rfl) rfl rfl ?_; refine O.assign wd rfl rfl (le_ rfl) ?_; refine RestO.nil ?_) | (refine Rest.region (id := 4) ?_; refine O.move wd rfl rfl (le_ rfl) ?_; refine O.binK false wd rfl rfl rfl rfl (cF (by omega)) (le_ rfl) ?_; refine RestO.nil ?_) | (refine Rest.region (id := 9) ?_; refine O.build wd rfl rfl rfl rfl (le_ rfl) ?_; refine O.alloc wd rfl rfl (le_ rfl) ?_; refine O.store wd rfl rfl rfl rfl rfl rfl rfl rfl (le_ rfl) ?_; refine RestO.nil ?_) | (refine Rest.region (id := 10) ?_; refine O.move wd rfl rfl (le_ rfl) ?_; refine O.subFrom wd rfl rfl rfl rfl (by omega) (by first | omega | (simp only [List.length_cons, List.length_nil] at *; omega)) (by first | assumption | rfl) (le_ rfl) ?_; refine O.assign wd rfl rfl (le_ rfl) ?_; refine RestO.nil ?_) | (refine Rest.region (id := 11) ?_; refine O.move wd rfl rfl (le_ rfl) ?_; refine O.idxS wd rfl rfl rfl rfl (by omega) (by first | rfl | assumption) (le_ rfl) ?_; refine RestO.nil ?_) | (refine Rest.region (id := 13) ?_; refine O.binK false wd rfl rfl rfl rfl (beqF (by omega)) (le_ rfl) ?_; refine O.assign wd rfl rfl (le_ rfl) ?_; refine RestO.nil ?_) | (refine Rest.region (id := 15) ?_; refine O.binK false wd rfl rfl rfl rfl (beqF (by omega)) (le_ rfl) ?_; refine O.assign wd rfl rfl (le_ rfl) ?_; refine RestO.nil ?_) | (refine Rest.region (id := 17) ?_; refine O.binK true wd rfl rfl rfl rfl (beqT (by omega)) (le_ rfl) ?_; refine O.assign wd rfl rfl (le_ rfl) ?_; refine RestO.nil ?_) | (refine Rest.region (id := 18) ?_; refine O.fieldAddrV wd rfl rfl rfl rfl rfl rfl (le_ rfl) ?_; refine O.store wd rfl rfl rfl rfl rfl rfl rfl rfl (le_ rfl) ?_; refine RestO.nil ?_) | (refine Rest.region (id := 30) ?_; refine O.move wd rfl rfl (le_ rfl) ?_; refine O.call_ wd rfl rfl rfl rfl rfl (mc rfl mn) rfl rfl hb1 rfl rfl (le_ rfl) rfl rfl ?_; refine O.move wd rfl rfl (le_ rfl) ?_; refine O.extract wd rfl rfl rfl (le_ rfl) ?_; refine O.extract wd rfl rfl rfl (le_ rfl) ?_; refine O.extract wd rfl rfl rfl (le_ rfl) ?_; refine O.alloc wd rfl rfl (le_ rfl) ?_; refine O.store wd rfl rfl rfl rfl rfl rfl rfl rfl (le_ rfl) ?_; refine O.assign wd rfl rfl (le_ rfl) ?_; refine O.assign wd rfl rfl (le_ rfl) ?_; refine RestO.nil ?_) | (refine Rest.region (id := 31) ?_; refine O.move wd rfl rfl (le_ rfl) ?_; refine O.move wd rfl rfl (le_ rfl) ?_; refine O.lenM wd rfl rfl rfl (le_ rfl) ?_; refine O.move wd rfl rfl (le_ rfl) ?_; refine O.lenM wd rfl rfl rfl (le_ rfl) ?_; refine O.subI wd rfl rfl rfl (by omega) (le_ rfl) ?_; refine O.subTo wd rfl rfl rfl rfl (by omega) (by first | omega | (simp only [List.length_cons, List.length_nil] at *; omega)) (by first | assumption | rfl) (le_ rfl) ?_; refine O.fieldAddrV wd rfl rfl rfl rfl rfl rfl (le_ rfl) ?_; refine O.store wd rfl rfl rfl rfl rfl rfl rfl rfl (le_ rfl) ?_; refine RestO.nil ?_) | (refine Rest.region (id := 32) ?_; refine O.move wd rfl rfl (le_ rfl) ?_; refine O.move wd rfl rfl (le_ rfl) ?_; refine O.fieldAddrV wd rfl rfl rfl rfl rfl rfl (le_ rfl) ?_; refine O.load wd rfl rfl rfl rfl rfl (le_ rfl) ?_; refine O.binK true wd rfl rfl rfl rfl (beqT (by omega)) (le_ rfl) ?_; refine O.pickT wd rfl rfl rfl rfl (opd_any rfl) (le_ rfl) ?_; refine RestO.nil ?_) | (refine Rest.region (id := 33) ?_; refine O.move wd rfl rfl (le_ rfl) ?_; refine O.assign wd rfl rfl (le_ rfl) ?_; refine RestO.nil ?_) | (refine Rest.region (id := 34) ?_; refine O.move wd rfl rfl (le_ rfl) ?_; refine O.call_ wd rfl rfl rfl rfl rfl (mc rfl mn) rfl rfl hb2 rfl rfl (le_ rfl) rfl rfl ?_; refine O.move wd rfl rfl (le_ rfl) ?_; refine O.extract wd rfl rfl rfl (le_ rfl) ?_; refine O.extract wd rfl rfl rfl (le_ rfl) ?_; refine O.extract wd rfl rfl rfl (le_ rfl) ?_; refine O.assign wd rfl rfl (le_ rfl) ?_; refine O.assign wd rfl rfl (le_ rfl) ?_; refine RestO.nil ?_) | (refine Rest.region (id := 35) ?_; refine O.move wd rfl rfl (le_ rfl) ?_; refine O.move wd rfl rfl (le_ rfl) ?_; refine O.lenM wd rfl rfl rfl (le_ rfl) ?_; refine O.move wd rfl rfl (le_ rfl) ?_; refine O.lenM wd rfl rfl rfl (le_ rfl) ?_; refine O.subI wd rfl rfl rfl (by omega) (le_ rfl) ?_; refine O.subTo wd rfl rfl rfl rfl (by omega) (by first | omega | (simp only [List.length_cons, List.length_nil] at *; omega)) (by first | assumption | rfl) (le_ rfl) ?_; refine O.fieldAddrV wd rfl rfl rfl rfl rfl rfl (le_ rfl) ?_; refine O.store wd rfl rfl rfl rfl rfl rfl rfl rfl (le_ rfl) ?_; refine RestO.nil ?_) | (refine Rest.region (id := 36) ?_; refine O.move wd rfl rfl (le_ rfl) ?_; refine O.un wd rfl rfl rfl (le_ rfl) ?_; refine RestO.nil ?_) | (refine Rest.region (id := 38) ?_; refine O.load wd rfl rfl rfl rfl rfl (le_ rfl) ?_; refine O.move wd rfl rfl (le_ rfl) ?_; refine O.store wd rfl rfl rfl rfl rfl rfl rfl rfl (le_ rfl) ?_; refine O.assign wd rfl rfl (le_ rfl) ?_; refine O.assign wd rfl rfl (le_ rfl) ?_; refine RestO.nil ?_) | refine Rest.ifT (E := Ee) rfl rfl ?_ | refine Rest.ifF (E := Ee) rfl rfl ?_))
  exact Rest.ret (gives_fin rfl (gvT (gwc (gwA (gc rfl (gc rfl (gc rfl (gc rfl (gc rfl gn)))))) (gwc (gwO rfl) (gwc (gwO rfl) gwn)))))
end Go.Proofs.YtfokmnafgabdiaaDoor.Eng
/- Names of secrets: what the program says of those that are, and how it makes them. -/
namespace Go.Proofs.YtfokmnafgabdiaaDoor.Eng
open Go Go.RowKit Kw
set_option linter.unusedVariables false
set_option linter.unusedSimpArgs false
set_option maxRecDepth 4000
theorem u8 {c : UInt8} {n : UInt8} (h : c = n) : (c.toNat : Int) = (n.toNat : Int) := by rw [h]
theorem name_ct : ∀ (k : Nat) (s r : List UInt8) (h : How), nameF k s = some (h, r) → s.length ≤ 301 → Ct Tryd.prog 110 [bS s] (.tup [bHow h, bS r, bB true])
  | 0, s, r, h, e, _ => by cases e
  | k + 1, [], r, h, e, _ => by cases e
  | k + 1, c :: t, r, h, e, hq => by
    have hq' : t.length ≤ 300 := by simp only [List.length_cons] at hq; omega
    simp only [nameF] at e
    split at e
    · rename_i hc
      split at e
      · rename_i d t'
        split at e
        · rename_i hd
          split at e
          · rename_i x y hn
            split at e
            · rename_i hx
              simp only [Option.some.injEq, Prod.mk.injEq] at e
              obtain ⟨rfl, rfl⟩ := e
              exact nameNew_ct c d t' y hc hd.1 hd.2 (by rw [hn, hx])
            · cases e
          · cases e
        · cases e
      · cases e
    · rename_i hc
      split at e
      · rename_i h1
        split at e
        · rename_i h0 r0 hn
          simp only [Option.some.injEq, Prod.mk.injEq] at e
          obtain ⟨rfl, rfl⟩ := e
          exact nameUp_ct c t r0 2 h0 (name_ct k t r0 h0 hn (by omega)) (nameF_len hn) hq' (.inl ⟨u8 h1, rfl⟩)
        · cases e
      · split at e
        · rename_i h1
          split at e
          · rename_i h0 r0 hn
            simp only [Option.some.injEq, Prod.mk.injEq] at e
            obtain ⟨rfl, rfl⟩ := e
            exact nameUp_ct c t r0 3 h0 (name_ct k t r0 h0 hn (by omega)) (nameF_len hn) hq' (.inr ⟨u8 h1, rfl⟩)
          · cases e
        · split at e
          · rename_i h1
            split at e
            · rename_i h0 r0 hn
              split at e
              · rename_i h2 r2 hn2
                simp only [Option.some.injEq, Prod.mk.injEq] at e
                obtain ⟨rfl, rfl⟩ := e
                have := nameF_len hn
                exact nameTwo_ct c t r0 r2 h0 h2 (name_ct k t r0 h0 hn (by omega)) (nameF_len hn) (name_ct k r0 r2 h2 hn2 (by omega)) (nameF_len hn2) hq' (u8 h1)
              · cases e
            · cases e
          · split at e
            · rename_i h1
              split at e
              · rename_i d t'
                split at e
                · rename_i hd
                  split at e
                  · rename_i h0 r0 hn
                    simp only [Option.some.injEq, Prod.mk.injEq] at e
                    obtain ⟨rfl, rfl⟩ := e
                    have : t'.length ≤ 300 := by simp only [List.length_cons] at hq'; omega
                    exact nameSay_ct c d t' r0 h0 (name_ct k t' r0 h0 hn (by omega)) (nameF_len hn) this (u8 h1) hd
                  · cases e
                · cases e
              · cases e
            · split at e
              · rename_i h1
                split at e
                · rename_i d t'
                  split at e
                  · rename_i hd
                    split at e
                    · rename_i h0 r0 hn
                      simp only [Option.some.injEq, Prod.mk.injEq] at e
                      obtain ⟨rfl, rfl⟩ := e
                      have : t'.length ≤ 300 := by simp only [List.length_cons] at hq'; omega
                      exact nameRoom_ct c d t' r0 h0 (name_ct k t' r0 h0 hn (by omega)) (nameF_len hn) this (u8 h1) hd
                    · cases e
                  · cases e
                · cases e
              · cases e
/-- A text is the name of a secret that was made so. -/
def Nm (s : List UInt8) (h : How) : Prop := s.length ≤ 300 ∧ h.op ≠ 0 ∧ ∃ k, nameF k s = some (h, [])
theorem nm_ct {s : List UInt8} {h : How} (H : Nm s h) : Ct Tryd.prog 110 [bS s] (.tup [bHow h, bS [], bB true]) := by
  obtain ⟨h1, _, k, h2⟩ := H
  exact name_ct k s [] h h2 (by omega)
theorem secMade_ct {s : List UInt8} {h : How} (H : Nm s h) : Ct Tryd.prog 67 [bS s] (.w (bHow h)) := by
  have hl := H.1
  refine Ct.enter wd Tryd.func67 rfl rfl Tryd.ntmps67 rfl rfl rfl rfl ?_
  (repeat (first | refine Rest.seq ?_ | refine Rest.skip ?_ | refine Rest.block ?_ | refine Rest.blockEnd ?_ | refine Rest.exit rfl ?_ | refine Rest.again ?_ | (refine Rest.region (id := 0) ?_; refine O.alloc wd rfl rfl (le_ rfl) ?_; refine RestO.nil ?_) | (refine Rest.region (id := 1) ?_; refine O.move wd rfl rfl (le_ rfl) ?_; refine O.lenM wd rfl rfl rfl (le_ rfl) ?_; refine O.binK false wd rfl rfl rfl rfl (cF (by omega)) (le_ rfl) ?_; refine RestO.nil ?_) | (refine Rest.region (id := 3) ?_; refine O.move wd rfl rfl (le_ rfl) ?_; refine O.call_ wd rfl rfl rfl rfl rfl (mc rfl mn) rfl rfl (nm_ct (by assumption)) rfl rfl (le_ rfl) rfl rfl ?_; refine O.move wd rfl rfl (le_ rfl) ?_; refine O.extract wd rfl rfl rfl (le_ rfl) ?_; refine O.extract wd rfl rfl rfl (le_ rfl) ?_; refine O.extract wd rfl rfl rfl (le_ rfl) ?_; refine O.alloc wd rfl rfl (le_ rfl) ?_; refine O.store wd rfl rfl rfl rfl rfl rfl rfl rfl (le_ rfl) ?_; refine O.assign wd rfl rfl (le_ rfl) ?_; refine O.assign wd rfl rfl (le_ rfl) ?_; refine RestO.nil ?_) | (refine Rest.region (id := 4) ?_; refine O.move wd rfl rfl (le_ rfl) ?_; refine O.un wd rfl rfl rfl (le_ rfl) ?_; refine O.move wd rfl rfl (le_ rfl) ?_; refine O.move wd rfl rfl (le_ rfl) ?_; refine O.neK false wd rfl rfl rfl (cF (by first | (simp; done) | (simp; assumption))) (le_ rfl) ?_; refine O.pickF wd rfl rfl rfl (opd_any rfl) rfl (le_ rfl) ?_; refine RestO.nil ?_) | (refine Rest.region (id := 6) ?_; refine O.load wd rfl rfl rfl rfl rfl (le_ rfl) ?_; refine O.store wd rfl rfl rfl rfl rfl rfl rfl rfl (le_ rfl) ?_; refine RestO.nil ?_) | refine Rest.ifT (E := Ee) rfl rfl ?_ | refine Rest.ifF (E := Ee) rfl rfl ?_))
  exact Rest.ret (gives_fin rfl (gvA (gc rfl (gc rfl (gc rfl (gc rfl (gc rfl gn)))))))
theorem secMadeNil_ct : Ct Tryd.prog 67 [bS []] (.w (bHow how0)) := by
  have hl : ([] : List UInt8).length = 0 := rfl
  refine Ct.enter wd Tryd.func67 rfl rfl Tryd.ntmps67 rfl rfl rfl rfl ?_
  (repeat (first | refine Rest.seq ?_ | refine Rest.skip ?_ | refine Rest.block ?_ | refine Rest.blockEnd ?_ | refine Rest.exit rfl ?_ | refine Rest.again ?_ | (refine Rest.region (id := 0) ?_; refine O.alloc wd rfl rfl (le_ rfl) ?_; refine RestO.nil ?_) | (refine Rest.region (id := 1) ?_; refine O.move wd rfl rfl (le_ rfl) ?_; refine O.lenM wd rfl rfl rfl (le_ rfl) ?_; refine O.binK false wd rfl rfl rfl rfl (cF (by omega)) (le_ rfl) ?_; refine RestO.nil ?_) | (refine Rest.region (id := 3) ?_; refine O.move wd rfl rfl (le_ rfl) ?_; refine O.call_ wd rfl rfl rfl rfl rfl (mc rfl mn) rfl rfl nameNil_ct rfl rfl (le_ rfl) rfl rfl ?_; refine O.move wd rfl rfl (le_ rfl) ?_; refine O.extract wd rfl rfl rfl (le_ rfl) ?_; refine O.extract wd rfl rfl rfl (le_ rfl) ?_; refine O.extract wd rfl rfl rfl (le_ rfl) ?_; refine O.alloc wd rfl rfl (le_ rfl) ?_; refine O.store wd rfl rfl rfl rfl rfl rfl rfl rfl (le_ rfl) ?_; refine O.assign wd rfl rfl (le_ rfl) ?_; refine O.assign wd rfl rfl (le_ rfl) ?_; refine RestO.nil ?_) | (refine Rest.region (id := 4) ?_; refine O.move wd rfl rfl (le_ rfl) ?_; refine O.un wd rfl rfl rfl (le_ rfl) ?_; refine O.move wd rfl rfl (le_ rfl) ?_; refine RestO.no wd rfl ?_; refine RestO.no wd rfl ?_; refine O.pickT wd rfl rfl rfl rfl (opd_any rfl) (le_ rfl) ?_; refine RestO.nil ?_) | (refine Rest.region (id := 5) ?_; refine O.build wd rfl rfl rfl rfl (le_ rfl) ?_; refine O.store wd rfl rfl rfl rfl rfl rfl rfl rfl (le_ rfl) ?_; refine RestO.nil ?_) | refine Rest.ifT (E := Ee) rfl rfl ?_ | refine Rest.ifF (E := Ee) rfl rfl ?_))
  exact Rest.ret (gives_fin rfl (gvA (gc rfl (gc rfl (gc rfl (gc rfl (gc rfl gn)))))))
theorem secOk_ct {s : List UInt8} {h : How} (H : Nm s h) : Ct Tryd.prog 81 [bS s] (.w (bB true)) := by
  have hl := H.2.1
  refine Ct.enter wd Tryd.func81 rfl rfl Tryd.ntmps81 rfl rfl rfl rfl ?_
  (repeat (first | refine Rest.seq ?_ | refine Rest.skip ?_ | refine Rest.block ?_ | refine Rest.blockEnd ?_ | refine Rest.exit rfl ?_ | refine Rest.again ?_ | (refine Rest.region (id := 0) ?_; refine O.assign wd rfl rfl (le_ rfl) ?_; refine RestO.nil ?_) | (refine Rest.region (id := 1) ?_; refine O.move wd rfl rfl (le_ rfl) ?_; refine O.call_ wd rfl rfl rfl rfl rfl (mc rfl mn) rfl rfl (secMade_ct (by assumption)) rfl rfl (le_ rfl) rfl rfl ?_; refine O.field wd rfl rfl rfl rfl rfl rfl (le_ rfl) ?_; refine O.binK true wd rfl rfl rfl rfl (bneT (by omega)) (le_ rfl) ?_; refine O.assign wd rfl rfl (le_ rfl) ?_; refine RestO.nil ?_) | refine Rest.ifT (E := Ee) rfl rfl ?_ | refine Rest.ifF (E := Ee) rfl rfl ?_))
  exact Rest.ret (gives_fin rfl (gvO rfl))
theorem isKey_ct {s : List UInt8} {h : How} (H : Nm s h) (h3 : h.op = 3) : Ct Tryd.prog 57 [bS s] (.w (bB true)) := by
  refine Ct.enter wd Tryd.func57 rfl rfl Tryd.ntmps57 rfl rfl rfl rfl ?_
  (repeat (first | refine Rest.seq ?_ | refine Rest.skip ?_ | refine Rest.block ?_ | refine Rest.blockEnd ?_ | refine Rest.exit rfl ?_ | refine Rest.again ?_ | (refine Rest.region (id := 0) ?_; refine O.assign wd rfl rfl (le_ rfl) ?_; refine RestO.nil ?_) | (refine Rest.region (id := 1) ?_; refine O.move wd rfl rfl (le_ rfl) ?_; refine O.call_ wd rfl rfl rfl rfl rfl (mc rfl mn) rfl rfl (secMade_ct (by assumption)) rfl rfl (le_ rfl) rfl rfl ?_; refine O.field wd rfl rfl rfl rfl rfl rfl (le_ rfl) ?_; refine O.binK true wd rfl rfl rfl rfl (beqT (by omega)) (le_ rfl) ?_; refine O.assign wd rfl rfl (le_ rfl) ?_; refine RestO.nil ?_) | refine Rest.ifT (E := Ee) rfl rfl ?_ | refine Rest.ifF (E := Ee) rfl rfl ?_))
  exact Rest.ret (gives_fin rfl (gvO rfl))
end Go.Proofs.YtfokmnafgabdiaaDoor.Eng
/- Names of secrets: how the program makes them. -/
namespace Go.Proofs.YtfokmnafgabdiaaDoor.Eng
open Go Go.RowKit Kw
set_option linter.unusedVariables false
set_option linter.unusedSimpArgs false
set_option maxRecDepth 4000
theorem letterL_len (who : Int) : (letterL who).length = 1 := rfl
theorem dec2_len (n : Int) : (dec2 n).length ≤ 2 := by unfold dec2; split <;> simp
theorem makNew_ct (who n : Int) (h : 0 ≤ who ∧ who ≤ 7) (hn : 1 ≤ n ∧ n ≤ 99) : Ct Tryd.prog 13 [bI who, bI n] (.w (bS (letterL who ++ dec2 n ++ [59]))) := by
  have hd := dec2_len n
  refine Ct.enter wd Tryd.func13 rfl rfl Tryd.ntmps13 rfl rfl rfl rfl ?_
  (repeat (first | refine Rest.seq ?_ | refine Rest.skip ?_ | refine Rest.block ?_ | refine Rest.blockEnd ?_ | refine Rest.exit rfl ?_ | refine Rest.again ?_ | (refine Rest.region (id := 0) ?_; refine O.assign wd rfl rfl (le_ rfl) ?_; refine RestO.nil ?_) | (refine Rest.region (id := 1) ?_; refine O.move wd rfl rfl (le_ rfl) ?_; refine O.call_ wd rfl rfl rfl rfl rfl (mc rfl mn) rfl rfl (Ct.kn true (isOne_ct _) (by first | assumption | exact cT (by omega))) rfl rfl (le_ rfl) rfl rfl ?_; refine O.un wd rfl rfl rfl (le_ rfl) ?_; refine O.move wd rfl rfl (le_ rfl) ?_; refine O.move wd rfl rfl (le_ rfl) ?_; refine O.call_ wd rfl rfl rfl rfl rfl (mc rfl (mc rfl (mc rfl mn))) rfl rfl (Ct.kn true (in_ct _ _ _) (by first | assumption | exact cT (by omega))) rfl rfl (le_ rfl) rfl rfl ?_; refine O.un wd rfl rfl rfl (le_ rfl) ?_; refine O.pickF wd rfl rfl rfl (opd_any rfl) rfl (le_ rfl) ?_; refine RestO.nil ?_) | (refine Rest.region (id := 3) ?_; refine O.move wd rfl rfl (le_ rfl) ?_; refine O.call_ wd rfl rfl rfl rfl rfl (mc rfl mn) rfl rfl (letter_ct _ (by omega)) rfl rfl (le_ rfl) rfl rfl ?_; refine O.move wd rfl rfl (le_ rfl) ?_; refine O.call_ wd rfl rfl rfl rfl rfl (mc rfl mn) rfl rfl (itoa_ct _ (by omega)) rfl rfl (le_ rfl) rfl rfl ?_; refine O.cat wd rfl rfl rfl (by simp only [strMost, mostRows, rS_len, rI_len, List.length_append, List.length_cons, List.length_nil, letterL_len] at *; omega) (le_ rfl) ?_; refine O.cat wd rfl rfl rfl (by simp only [strMost, mostRows, rS_len, rI_len, List.length_append, List.length_cons, List.length_nil, letterL_len] at *; omega) (le_ rfl) ?_; refine O.assign wd rfl rfl (le_ rfl) ?_; refine RestO.nil ?_) | refine Rest.ifT (E := Ee) rfl rfl ?_ | refine Rest.ifF (E := Ee) rfl rfl ?_))
  exact Rest.ret (gives_fin rfl (gvO rfl))
theorem joinOne_ct (s : List UInt8) : Ct Tryd.prog 105 [bSs [s], bS []] (.w (bS s)) := by
  refine Ct.enter wd Tryd.func105 rfl rfl Tryd.ntmps105 rfl rfl rfl rfl ?_
  (repeat (first | refine Rest.seq ?_ | refine Rest.skip ?_ | refine Rest.block ?_ | refine Rest.blockEnd ?_ | refine Rest.exit rfl ?_ | refine Rest.again ?_ | (refine Rest.region (id := 0) ?_; refine O.assign wd rfl rfl (le_ rfl) ?_; refine RestO.nil ?_) | (refine Rest.region (id := 1) ?_; refine O.move wd rfl rfl (le_ rfl) ?_; refine O.len wd rfl rfl rfl (by first | exact rows1 rfl (by first | rfl | assumption | (simp only [rS_len, rI_len, List.length_append, List.length_map, List.length_set, List.length_replicate, List.length_cons, List.length_nil, Nat.zero_add, letterL_len]; done) | (simp only [rS_len, rI_len, List.length_append, List.length_map, List.length_set, List.length_replicate, List.length_cons, List.length_nil, letterL_len] at *; omega)) | rfl) (by first | exact rS_len _ | exact rI_len _ | exact bR_len _ | rfl) (le_ rfl) ?_; refine RestO.nil ?_) | (refine Rest.region (id := 2) ?_; refine O.bin wd rfl rfl rfl rfl (le_ rfl) ?_; refine O.assign wd rfl rfl (le_ rfl) ?_; refine RestO.nil ?_) | (refine Rest.region (id := 4) ?_; refine O.bin wd rfl rfl rfl rfl (le_ rfl) ?_; refine O.assign wd rfl rfl (le_ rfl) ?_; refine RestO.nil ?_) | (refine Rest.region (id := 5) ?_; refine O.move wd rfl rfl (le_ rfl) ?_; refine O.idxRo wd rfl rfl rfl rfl rfl rfl rfl (by omega) (by first | assumption | exact rS_get (by assumption) | exact rI_get (by assumption) | exact rS_get (by rw [Nat.zero_add]; assumption) | exact rI_get (by rw [Nat.zero_add]; assumption) | exact rS_get rfl | exact rI_get rfl | rfl) (le_ rfl) ?_; refine O.load wd rfl rfl rfl rfl rfl (le_ rfl) ?_; refine O.assign wd rfl rfl (le_ rfl) ?_; refine RestO.nil ?_) | refine Rest.ifT (E := Ee) rfl rfl ?_ | refine Rest.ifF (E := Ee) rfl rfl ?_))
  exact Rest.ret (gives_fin rfl (gvO rfl))
theorem madeOne_ct (a s : List UInt8) (h : How) (H : Nm s h) (hl : (a ++ s).length ≤ 300) : Ct Tryd.prog 65 [bS a, bSs [s]] (.w (bS (a ++ s))) := by
  refine Ct.enter wd Tryd.func65 rfl rfl Tryd.ntmps65 rfl rfl rfl rfl ?_
  (repeat (first | refine Rest.seq ?_ | refine Rest.skip ?_ | refine Rest.block ?_ | refine Rest.blockEnd ?_ | refine Rest.exit rfl ?_ | refine Rest.again ?_ | (refine Rest.region (id := 0) ?_; refine O.assign wd rfl rfl (le_ rfl) ?_; refine RestO.nil ?_) | (refine Rest.region (id := 1) ?_; refine O.move wd rfl rfl (le_ rfl) ?_; refine O.len wd rfl rfl rfl (by first | exact rows1 rfl (by first | rfl | assumption | (simp only [rS_len, rI_len, List.length_append, List.length_map, List.length_set, List.length_replicate, List.length_cons, List.length_nil, Nat.zero_add, letterL_len]; done) | (simp only [rS_len, rI_len, List.length_append, List.length_map, List.length_set, List.length_replicate, List.length_cons, List.length_nil, letterL_len] at *; omega)) | rfl) (by first | exact rS_len _ | exact rI_len _ | exact bR_len _ | rfl) (le_ rfl) ?_; refine O.move wd rfl rfl (le_ rfl) ?_; refine RestO.nil ?_) | refine Rest.ifT (E := Ee) rfl rfl ?_ | refine Rest.ifF (E := Ee) rfl rfl ?_))
  refine Rest.loop 3 ?_
  (repeat (first | refine Rest.seq ?_ | refine Rest.skip ?_ | refine Rest.block ?_ | refine Rest.blockEnd ?_ | refine Rest.exit rfl ?_ | refine Rest.again ?_ | (refine Rest.region (id := 2) ?_; refine O.bin wd rfl rfl rfl rfl (le_ rfl) ?_; refine RestO.nil ?_) | (refine Rest.region (id := 3) ?_; refine O.idxRo wd rfl rfl rfl rfl rfl rfl rfl (by omega) (by first | assumption | exact rS_get (by assumption) | exact rI_get (by assumption) | exact rS_get (by rw [Nat.zero_add]; assumption) | exact rI_get (by rw [Nat.zero_add]; assumption) | exact rS_get rfl | exact rI_get rfl | rfl) (le_ rfl) ?_; refine O.load wd rfl rfl rfl rfl rfl (le_ rfl) ?_; refine O.assign wd rfl rfl (le_ rfl) ?_; refine RestO.nil ?_) | (refine Rest.region (id := 4) ?_; refine O.move wd rfl rfl (le_ rfl) ?_; refine O.call_ wd rfl rfl rfl rfl rfl (mc rfl mn) rfl rfl (secOk_ct (by assumption)) rfl rfl (le_ rfl) rfl rfl ?_; refine O.un wd rfl rfl rfl (le_ rfl) ?_; refine RestO.nil ?_) | (refine Rest.region (id := 6) ?_; refine O.addI wd rfl rfl rfl (by omega) (le_ rfl) ?_; refine O.move wd rfl rfl (le_ rfl) ?_; refine RestO.nil ?_) | (refine Rest.region (id := 7) ?_; refine O.move wd rfl rfl (le_ rfl) ?_; refine O.move wd rfl rfl (le_ rfl) ?_; refine O.call_ wd rfl rfl rfl rfl rfl (mc (by first | exact cl1 rfl (by first | rfl | assumption | (simp only [rS_len, rI_len, List.length_append, List.length_map, List.length_set, List.length_replicate, List.length_cons, List.length_nil, Nat.zero_add, letterL_len]; done) | (simp only [rS_len, rI_len, List.length_append, List.length_map, List.length_set, List.length_replicate, List.length_cons, List.length_nil, letterL_len] at *; omega)) | exact clT rfl (by assumption) | rfl) (mc rfl mn)) rfl rfl (joinOne_ct _) rfl rfl (le_ rfl) rfl rfl ?_; refine O.cat wd rfl rfl rfl (by simp only [strMost, mostRows, rS_len, rI_len, List.length_append, List.length_cons, List.length_nil, letterL_len] at *; omega) (le_ rfl) ?_; refine O.assign wd rfl rfl (le_ rfl) ?_; refine RestO.nil ?_) | (refine Rest.region (id := 8) ?_; refine O.move wd rfl rfl (le_ rfl) ?_; refine O.lenM wd rfl rfl rfl (le_ rfl) ?_; refine O.binK true wd rfl rfl rfl rfl (cT (by omega)) (le_ rfl) ?_; refine RestO.nil ?_) | (refine Rest.region (id := 9) ?_; refine O.move wd rfl rfl (le_ rfl) ?_; refine O.assign wd rfl rfl (le_ rfl) ?_; refine RestO.nil ?_) | refine Rest.ifT (E := Ee) rfl rfl ?_ | refine Rest.ifF (E := Ee) rfl rfl ?_))
  exact Rest.ret (gives_fin rfl (gvO rfl))
theorem makNext_ct {s : List UInt8} {h : How} (H : Nm s h) (hl : ([110] ++ s).length ≤ 300) : Ct Tryd.prog 124 [bS s] (.w (bS ([110] ++ s))) := by
  refine Ct.enter wd Tryd.func124 rfl rfl Tryd.ntmps124 rfl rfl rfl rfl ?_
  (repeat (first | refine Rest.seq ?_ | refine Rest.skip ?_ | refine Rest.block ?_ | refine Rest.blockEnd ?_ | refine Rest.exit rfl ?_ | refine Rest.again ?_ | (refine Rest.region (id := 0) ?_; refine O.assign wd rfl rfl (le_ rfl) ?_; refine RestO.nil ?_) | (refine Rest.region (id := 1) ?_; refine O.move wd rfl rfl (le_ rfl) ?_; refine O.slice1 wd rfl rfl rfl rfl rfl rfl rfl rfl rfl (le_ rfl) ?_; refine O.call_ wd rfl rfl rfl rfl rfl (mc rfl (mc (by first | exact cl1 rfl (by first | rfl | assumption | (simp only [rS_len, rI_len, List.length_append, List.length_map, List.length_set, List.length_replicate, List.length_cons, List.length_nil, Nat.zero_add, letterL_len]; done) | (simp only [rS_len, rI_len, List.length_append, List.length_map, List.length_set, List.length_replicate, List.length_cons, List.length_nil, letterL_len] at *; omega)) | exact clT rfl (by assumption) | rfl) mn)) rfl rfl (madeOne_ct _ _ _ (by assumption) (by assumption)) rfl rfl (le_ rfl) rfl rfl ?_; refine O.assign wd rfl rfl (le_ rfl) ?_; refine RestO.nil ?_) | refine Rest.ifT (E := Ee) rfl rfl ?_ | refine Rest.ifF (E := Ee) rfl rfl ?_))
  exact Rest.ret (gives_fin rfl (gvO rfl))
theorem makKey_ct {s : List UInt8} {h : How} (H : Nm s h) (hl : ([107] ++ s).length ≤ 300) : Ct Tryd.prog 100 [bS s] (.w (bS ([107] ++ s))) := by
  refine Ct.enter wd Tryd.func100 rfl rfl Tryd.ntmps100 rfl rfl rfl rfl ?_
  (repeat (first | refine Rest.seq ?_ | refine Rest.skip ?_ | refine Rest.block ?_ | refine Rest.blockEnd ?_ | refine Rest.exit rfl ?_ | refine Rest.again ?_ | (refine Rest.region (id := 0) ?_; refine O.assign wd rfl rfl (le_ rfl) ?_; refine RestO.nil ?_) | (refine Rest.region (id := 1) ?_; refine O.move wd rfl rfl (le_ rfl) ?_; refine O.slice1 wd rfl rfl rfl rfl rfl rfl rfl rfl rfl (le_ rfl) ?_; refine O.call_ wd rfl rfl rfl rfl rfl (mc rfl (mc (by first | exact cl1 rfl (by first | rfl | assumption | (simp only [rS_len, rI_len, List.length_append, List.length_map, List.length_set, List.length_replicate, List.length_cons, List.length_nil, Nat.zero_add, letterL_len]; done) | (simp only [rS_len, rI_len, List.length_append, List.length_map, List.length_set, List.length_replicate, List.length_cons, List.length_nil, letterL_len] at *; omega)) | exact clT rfl (by assumption) | rfl) mn)) rfl rfl (madeOne_ct _ _ _ (by assumption) (by assumption)) rfl rfl (le_ rfl) rfl rfl ?_; refine O.assign wd rfl rfl (le_ rfl) ?_; refine RestO.nil ?_) | refine Rest.ifT (E := Ee) rfl rfl ?_ | refine Rest.ifF (E := Ee) rfl rfl ?_))
  exact Rest.ret (gives_fin rfl (gvO rfl))
theorem makSay_ct {s : List UInt8} {h : How} {who : Int} (H : Nm s h) (hw : 0 ≤ who ∧ who ≤ 7) (hl : ([109] ++ letterL who ++ s).length ≤ 300) : Ct Tryd.prog 23 [bS s, bI who] (.w (bS ([109] ++ letterL who ++ s))) := by
  refine Ct.enter wd Tryd.func23 rfl rfl Tryd.ntmps23 rfl rfl rfl rfl ?_
  (repeat (first | refine Rest.seq ?_ | refine Rest.skip ?_ | refine Rest.block ?_ | refine Rest.blockEnd ?_ | refine Rest.exit rfl ?_ | refine Rest.again ?_ | (refine Rest.region (id := 0) ?_; refine O.assign wd rfl rfl (le_ rfl) ?_; refine RestO.nil ?_) | (refine Rest.region (id := 1) ?_; refine O.move wd rfl rfl (le_ rfl) ?_; refine O.call_ wd rfl rfl rfl rfl rfl (mc rfl mn) rfl rfl (Ct.kn true (isOne_ct _) (by first | assumption | exact cT (by omega))) rfl rfl (le_ rfl) rfl rfl ?_; refine O.un wd rfl rfl rfl (le_ rfl) ?_; refine RestO.nil ?_) | (refine Rest.region (id := 3) ?_; refine O.move wd rfl rfl (le_ rfl) ?_; refine O.call_ wd rfl rfl rfl rfl rfl (mc rfl mn) rfl rfl (letter_ct _ (by omega)) rfl rfl (le_ rfl) rfl rfl ?_; refine O.cat wd rfl rfl rfl (by simp only [strMost, mostRows, rS_len, rI_len, List.length_append, List.length_cons, List.length_nil, letterL_len] at *; omega) (le_ rfl) ?_; refine O.move wd rfl rfl (le_ rfl) ?_; refine O.slice1 wd rfl rfl rfl rfl rfl rfl rfl rfl rfl (le_ rfl) ?_; refine O.call_ wd rfl rfl rfl rfl rfl (mc rfl (mc (by first | exact cl1 rfl (by first | rfl | assumption | (simp only [rS_len, rI_len, List.length_append, List.length_map, List.length_set, List.length_replicate, List.length_cons, List.length_nil, Nat.zero_add, letterL_len]; done) | (simp only [rS_len, rI_len, List.length_append, List.length_map, List.length_set, List.length_replicate, List.length_cons, List.length_nil, letterL_len] at *; omega)) | exact clT rfl (by assumption) | rfl) mn)) rfl rfl (madeOne_ct _ _ _ (by assumption) (by assumption)) rfl rfl (le_ rfl) rfl rfl ?_; refine O.assign wd rfl rfl (le_ rfl) ?_; refine RestO.nil ?_) | refine Rest.ifT (E := Ee) rfl rfl ?_ | refine Rest.ifF (E := Ee) rfl rfl ?_))
  exact Rest.ret (gives_fin rfl (gvO rfl))
end Go.Proofs.YtfokmnafgabdiaaDoor.Eng
/- Trees. -/
namespace Go.Proofs.YtfokmnafgabdiaaDoor.Eng
open Go Go.RowKit Kw
set_option linter.unusedVariables false
set_option linter.unusedSimpArgs false
set_option maxRecDepth 4000
abbrev vI (n : Int) : V := .w (.one (.c (.lit (.int .i64 n))))
abbrev vB (b : Bool) : V := .w (.one (.c (.lit (.bool b))))
abbrev vS (s : List UInt8) : V := .w (.one (.c (.lit (.string (mk s)))))
abbrev vSs (l : List (List UInt8)) : V := .w (.one (.c (.ro 1 (rS l))))
abbrev vIs (l : List Int) : V := .w (.one (.c (.ro 1 (rI l))))
theorem treOk1_ct (s : List UInt8) (h : s = [] ∨ ∃ w, Nm s w ∧ w.op = 3) : Ct Tryd.prog 56 [bS s] (.w (bB false)) := by
  rcases h with rfl | ⟨w, H, h3⟩
  · refine Ct.enter wd Tryd.func56 rfl rfl Tryd.ntmps56 rfl rfl rfl rfl ?_
    (repeat (first | refine Rest.seq ?_ | refine Rest.skip ?_ | refine Rest.block ?_ | refine Rest.blockEnd ?_ | refine Rest.exit rfl ?_ | refine Rest.again ?_ | (refine Rest.region (id := 0) ?_; refine O.assign wd rfl rfl (le_ rfl) ?_; refine RestO.nil ?_) | (refine Rest.region (id := 1) ?_; refine O.move wd rfl rfl (le_ rfl) ?_; refine O.neK false wd rfl rfl rfl (cF (by first | (simp; done) | (simp; assumption))) (le_ rfl) ?_; refine O.move wd rfl rfl (le_ rfl) ?_; refine RestO.no wd rfl ?_; refine RestO.no wd rfl ?_; refine RestO.no wd rfl ?_; refine O.pickF wd rfl rfl rfl (opd_any rfl) rfl (le_ rfl) ?_; refine O.assign wd rfl rfl (le_ rfl) ?_; refine RestO.nil ?_) | refine Rest.ifT (E := Ee) rfl rfl ?_ | refine Rest.ifF (E := Ee) rfl rfl ?_))
    exact Rest.ret (gives_fin rfl (gvO rfl))
  · have hne : s ≠ [] := by
      rintro rfl
      obtain ⟨_, _, k, e⟩ := H
      cases k <;> cases e
    refine Ct.enter wd Tryd.func56 rfl rfl Tryd.ntmps56 rfl rfl rfl rfl ?_
    (repeat (first | refine Rest.seq ?_ | refine Rest.skip ?_ | refine Rest.block ?_ | refine Rest.blockEnd ?_ | refine Rest.exit rfl ?_ | refine Rest.again ?_ | (refine Rest.region (id := 0) ?_; refine O.assign wd rfl rfl (le_ rfl) ?_; refine RestO.nil ?_) | (refine Rest.region (id := 1) ?_; refine O.move wd rfl rfl (le_ rfl) ?_; refine O.neK true wd rfl rfl rfl (cT (by first | rfl | assumption | (simp; done) | (simp; assumption))) (le_ rfl) ?_; refine O.move wd rfl rfl (le_ rfl) ?_; refine O.move wd rfl rfl (le_ rfl) ?_; refine O.call_ wd rfl rfl rfl rfl rfl (mc rfl mn) rfl rfl (isKey_ct (by assumption) (by assumption)) rfl rfl (le_ rfl) rfl rfl ?_; refine O.un wd rfl rfl rfl (le_ rfl) ?_; refine O.pickT wd rfl rfl rfl rfl (opd_any rfl) (le_ rfl) ?_; refine O.assign wd rfl rfl (le_ rfl) ?_; refine RestO.nil ?_) | refine Rest.ifT (E := Ee) rfl rfl ?_ | refine Rest.ifF (E := Ee) rfl rfl ?_))
    exact Rest.ret (gives_fin rfl (gvO rfl))
/-- A list of which each is a key, or none. -/
def Keys (l : List (List UInt8)) : Prop := ∀ s ∈ l, s = [] ∨ ∃ w, Nm s w ∧ w.op = 3
theorem idxKeys_ct (l : List (List UInt8)) (hp : Keys l) (hl : l.length ≤ mostRows) : Ct Tryd.prog 102 [bSs l, .one (.clo 56 [])] (.w (bI (-1))) := by
  simp only [mostRows] at hl
  refine Ct.enter wd Tryd.func102 rfl rfl Tryd.ntmps102 rfl rfl rfl rfl ?_
  (repeat (first | refine Rest.seq ?_ | refine Rest.skip ?_ | refine Rest.block ?_ | refine Rest.blockEnd ?_ | refine Rest.exit rfl ?_ | refine Rest.again ?_ | (refine Rest.region (id := 0) ?_; refine O.assign wd rfl rfl (le_ rfl) ?_; refine RestO.nil ?_) | (refine Rest.region (id := 1) ?_; refine O.move wd rfl rfl (le_ rfl) ?_; refine O.len wd rfl rfl rfl (by first | exact rows1 rfl (by first | rfl | assumption | (simp only [rS_len, rI_len, List.length_append, List.length_map, List.length_set, List.length_replicate, List.length_cons, List.length_nil, Nat.zero_add, letterL_len]; done) | (simp only [rS_len, rI_len, List.length_append, List.length_map, List.length_set, List.length_replicate, List.length_cons, List.length_nil, letterL_len] at *; omega)) | rfl) (by first | exact rS_len _ | exact rI_len _ | exact bR_len _ | rfl) (le_ rfl) ?_; refine O.move wd rfl rfl (le_ rfl) ?_; refine RestO.nil ?_) | refine Rest.ifT (E := Ee) rfl rfl ?_ | refine Rest.ifF (E := Ee) rfl rfl ?_))
  refine Rest.loopI (α := Nat) (fun i => [(8, vI i), (7, vI l.length), (0, vSs l), (1, .w (.one (.clo 56 [])))]) (fun i => nb 0 []) (fun i => ([] : List Root).length) (fun i => i ≤ l.length) (fun i => l.length - i) 0 (by omega) (fun H => Rest.gcX [] (st := (fun (i : Nat) => [(8, vI i), (7, vI l.length), (0, vSs l), (1, .w (.one (.clo 56 [])))]) 0) (hp := (fun (i : Nat) => []) 0) rfl rfl rfl rfl rfl rfl rfl rfl rfl (le_ rfl) H) ?_; intro nF i hI next
  by_cases hlt : i < l.length
  · have hs : l[i]? = some l[i] := List.getElem?_eq_getElem hlt
    have hm : l[i] ∈ l := List.getElem_mem hlt
    (repeat (first | refine Rest.seq ?_ | refine Rest.skip ?_ | refine Rest.block ?_ | refine Rest.blockEnd ?_ | refine Rest.exit rfl ?_ | refine Rest.again ?_ | (refine Rest.region (id := 2) ?_; refine O.binK true wd rfl rfl rfl rfl (cT (by omega)) (le_ rfl) ?_; refine RestO.nil ?_) | (refine Rest.region (id := 3) ?_; refine O.move wd rfl rfl (le_ rfl) ?_; refine O.assign wd rfl rfl (le_ rfl) ?_; refine RestO.nil ?_) | (refine Rest.region (id := 4) ?_; refine O.move wd rfl rfl (le_ rfl) ?_; refine O.move wd rfl rfl (le_ rfl) ?_; refine O.move wd rfl rfl (le_ rfl) ?_; refine O.idxRo wd rfl rfl rfl rfl rfl rfl rfl (by omega) (by first | assumption | exact rS_get (by assumption) | exact rI_get (by assumption) | exact rS_get (by rw [Nat.zero_add]; assumption) | exact rI_get (by rw [Nat.zero_add]; assumption) | exact rS_get rfl | exact rI_get rfl | rfl) (le_ rfl) ?_; refine O.load wd rfl rfl rfl rfl rfl (le_ rfl) ?_; refine O.call_ wd rfl rfl rfl rfl rfl rfl rfl rfl (treOk1_ct _ (hp _ (by assumption))) rfl rfl (le_ rfl) rfl rfl ?_; refine RestO.nil ?_) | (refine Rest.region (id := 6) ?_; refine O.addI wd rfl rfl rfl (by omega) (le_ rfl) ?_; refine O.move wd rfl rfl (le_ rfl) ?_; refine RestO.nil ?_) | refine Rest.ifT (E := Ee) rfl rfl ?_ | refine Rest.ifF (E := Ee) rfl rfl ?_))
    exact Rest.gcX [] (st := (fun (i : Nat) => [(8, vI i), (7, vI l.length), (0, vSs l), (1, .w (.one (.clo 56 [])))]) (i + 1)) (hp := (fun (i : Nat) => []) (i + 1)) rfl rfl rfl rfl rfl rfl rfl rfl rfl (le_ rfl) (next (i + 1) (by omega) (by omega))
  · (repeat (first | refine Rest.seq ?_ | refine Rest.skip ?_ | refine Rest.block ?_ | refine Rest.blockEnd ?_ | refine Rest.exit rfl ?_ | refine Rest.again ?_ | (refine Rest.region (id := 2) ?_; refine O.binK false wd rfl rfl rfl rfl (cF (by omega)) (le_ rfl) ?_; refine RestO.nil ?_) | (refine Rest.region (id := 7) ?_; refine O.assign wd rfl rfl (le_ rfl) ?_; refine RestO.nil ?_) | refine Rest.ifT (E := Ee) rfl rfl ?_ | refine Rest.ifF (E := Ee) rfl rfl ?_))
    exact Rest.ret (gives_fin rfl (gvO rfl))
theorem hasFunc_ct (l : List (List UInt8)) (hp : Keys l) (hl : l.length ≤ mostRows) : Ct Tryd.prog 55 [bSs l, .one (.clo 56 [])] (.w (bB false)) := by
  refine Ct.enter wd Tryd.func55 rfl rfl Tryd.ntmps55 rfl rfl rfl rfl ?_
  (repeat (first | refine Rest.seq ?_ | refine Rest.skip ?_ | refine Rest.block ?_ | refine Rest.blockEnd ?_ | refine Rest.exit rfl ?_ | refine Rest.again ?_ | (refine Rest.region (id := 0) ?_; refine O.assign wd rfl rfl (le_ rfl) ?_; refine RestO.nil ?_) | (refine Rest.region (id := 1) ?_; refine O.move wd rfl rfl (le_ rfl) ?_; refine O.move wd rfl rfl (le_ rfl) ?_; refine O.call_ wd rfl rfl rfl rfl rfl (mc (by first | exact cl1 rfl (by first | rfl | assumption | (simp only [rS_len, rI_len, List.length_append, List.length_map, List.length_set, List.length_replicate, List.length_cons, List.length_nil, Nat.zero_add, letterL_len]; done) | (simp only [rS_len, rI_len, List.length_append, List.length_map, List.length_set, List.length_replicate, List.length_cons, List.length_nil, letterL_len] at *; omega)) | exact clT rfl (by assumption) | rfl) (mc rfl mn)) rfl rfl (idxKeys_ct _ (by assumption) (by assumption)) rfl rfl (le_ rfl) rfl rfl ?_; refine O.binK false wd rfl rfl rfl rfl (cF (by omega)) (le_ rfl) ?_; refine O.assign wd rfl rfl (le_ rfl) ?_; refine RestO.nil ?_) | refine Rest.ifT (E := Ee) rfl rfl ?_ | refine Rest.ifF (E := Ee) rfl rfl ?_))
  exact Rest.ret (gives_fin rfl (gvO rfl))
abbrev bT (l : List (List UInt8)) : BW := .agg [.b (.c (.ro 1 (rS l)))]
abbrev vT (l : List (List UInt8)) : V := .w (.agg [.c (.ro 1 (rS l))])
theorem treOk_ct (l : List (List UInt8)) (hp : Keys l) (hl : l.length = 15) : Ct Tryd.prog 14 [bT l] (.w (bB true)) := by
  have hl' : l.length ≤ mostRows := by rw [hl]; decide
  refine Ct.enter wd Tryd.func14 rfl rfl Tryd.ntmps14 rfl rfl rfl rfl ?_
  (repeat (first | refine Rest.seq ?_ | refine Rest.skip ?_ | refine Rest.block ?_ | refine Rest.blockEnd ?_ | refine Rest.exit rfl ?_ | refine Rest.again ?_ | (refine Rest.region (id := 0) ?_; refine O.box wd rfl rfl rfl (le_ rfl) ?_; refine O.assign wd rfl rfl (le_ rfl) ?_; refine RestO.nil ?_) | (refine Rest.region (id := 1) ?_; refine O.fieldAddrV wd rfl rfl rfl rfl rfl rfl (le_ rfl) ?_; refine O.load wd rfl rfl rfl rfl rfl (le_ rfl) ?_; refine O.len wd rfl rfl rfl (by first | exact rows1 rfl (by first | rfl | assumption | (simp only [rS_len, rI_len, List.length_append, List.length_map, List.length_set, List.length_replicate, List.length_cons, List.length_nil, Nat.zero_add, letterL_len]; done) | (simp only [rS_len, rI_len, List.length_append, List.length_map, List.length_set, List.length_replicate, List.length_cons, List.length_nil, letterL_len] at *; omega)) | rfl) (by first | exact rS_len _ | exact rI_len _ | exact bR_len _ | rfl) (le_ rfl) ?_; refine O.binK true wd rfl rfl rfl rfl (beqT (by omega)) (le_ rfl) ?_; refine O.move wd rfl rfl (le_ rfl) ?_; refine O.fieldAddrV wd rfl rfl rfl rfl rfl rfl (le_ rfl) ?_; refine O.load wd rfl rfl rfl rfl rfl (le_ rfl) ?_; refine O.call_ wd rfl rfl rfl rfl rfl (mc (by first | exact cl1 rfl (by first | rfl | assumption | (simp only [rS_len, rI_len, List.length_append, List.length_map, List.length_set, List.length_replicate, List.length_cons, List.length_nil, Nat.zero_add, letterL_len]; done) | (simp only [rS_len, rI_len, List.length_append, List.length_map, List.length_set, List.length_replicate, List.length_cons, List.length_nil, letterL_len] at *; omega)) | exact clT rfl (by assumption) | rfl) (mc rfl mn)) rfl rfl (hasFunc_ct _ (by assumption) (by assumption)) rfl rfl (le_ rfl) rfl rfl ?_; refine O.un wd rfl rfl rfl (le_ rfl) ?_; refine O.pickT wd rfl rfl rfl rfl (opd_any rfl) (le_ rfl) ?_; refine O.assign wd rfl rfl (le_ rfl) ?_; refine RestO.nil ?_) | refine Rest.ifT (E := Ee) rfl rfl ?_ | refine Rest.ifF (E := Ee) rfl rfl ?_))
  exact Rest.ret (gives_fin rfl (gvO rfl))
end Go.Proofs.YtfokmnafgabdiaaDoor.Eng
/- Trees: places, copies. -/
namespace Go.Proofs.YtfokmnafgabdiaaDoor.Eng
open Go Go.RowKit Kw
set_option linter.unusedVariables false
set_option linter.unusedSimpArgs false
set_option maxRecDepth 4000
set_option maxHeartbeats 2000000
abbrev oI (l : List Int) (cap : Option Nat) : BV := .w (.one (.b (.own 1 (rI l) cap)))
abbrev oS (l : List (List UInt8)) (cap : Option Nat) : BV := .w (.one (.b (.own 1 (rS l) cap)))
theorem eight {n : Int} (h : 0 ≤ n ∧ n ≤ 7) : n = 0 ∨ n = 1 ∨ n = 2 ∨ n = 3 ∨ n = 4 ∨ n = 5 ∨ n = 6 ∨ n = 7 := by omega
theorem eightL {n : Int} (h : 7 ≤ n ∧ n ≤ 14) : n = 7 ∨ n = 8 ∨ n = 9 ∨ n = 10 ∨ n = 11 ∨ n = 12 ∨ n = 13 ∨ n = 14 := by omega
def upL (n : Int) : List Int := [(n - 1) / 2, ((n - 1) / 2 - 1) / 2, 0]
def pathL (who : Int) : List Int := (7 + who) :: upL (7 + who)
theorem upL_len (n : Int) : (upL n).length = 3 := rfl
theorem pathL_len (n : Int) : (pathL n).length = 4 := rfl
theorem treUp_ct (n : Int) (h : 7 ≤ n ∧ n ≤ 14) : Ct Tryd.prog 20 [bI n] (oI (upL n) (some 3)) := by
  rcases eightL h with rfl | rfl | rfl | rfl | rfl | rfl | rfl | rfl
  all_goals
    refine Ct.enter wd Tryd.func20 rfl rfl Tryd.ntmps20 rfl rfl rfl rfl ?_
    (repeat (first | refine Rest.seq ?_ | refine Rest.skip ?_ | refine Rest.block ?_ | refine Rest.blockEnd ?_ | refine Rest.exit rfl ?_ | refine Rest.again ?_ | (refine Rest.region (id := 0) ?_; refine O.assign wd rfl rfl (le_ rfl) ?_; refine RestO.nil ?_) | (refine Rest.region (id := 1) ?_; refine O.move wd rfl rfl (le_ rfl) ?_; refine O.call_ wd rfl rfl rfl rfl rfl (mc rfl mn) rfl rfl (Ct.kn true (isNode_ct _) (by first | assumption | exact cT (by omega))) rfl rfl (le_ rfl) rfl rfl ?_; refine O.un wd rfl rfl rfl (le_ rfl) ?_; refine RestO.nil ?_) | (refine Rest.region (id := 3) ?_; refine O.assign wd rfl rfl (le_ rfl) ?_; refine RestO.nil ?_) | refine Rest.ifT (E := Ee) rfl rfl ?_ | refine Rest.ifF (E := Ee) rfl rfl ?_))
    refine Rest.loop 4 ?_
    (repeat (first | refine Rest.seq ?_ | refine Rest.skip ?_ | refine Rest.block ?_ | refine Rest.blockEnd ?_ | refine Rest.exit rfl ?_ | refine Rest.again ?_ | (refine Rest.region (id := 4) ?_; refine O.move wd rfl rfl (le_ rfl) ?_; (first | refine O.binK true wd rfl rfl rfl rfl (cT (by omega)) (le_ rfl) ?_ | refine O.binK false wd rfl rfl rfl rfl (cF (by omega)) (le_ rfl) ?_); refine RestO.nil ?_) | (refine Rest.region (id := 5) ?_; refine O.move wd rfl rfl (le_ rfl) ?_; refine O.subI wd rfl rfl rfl (by omega) (le_ rfl) ?_; refine O.quoI wd rfl rfl rfl (by omega) (le_ rfl) ?_; refine O.assign wd rfl rfl (le_ rfl) ?_; refine RestO.nil ?_) | (refine Rest.region (id := 6) ?_; refine O.move wd rfl rfl (le_ rfl) ?_; refine O.move wd rfl rfl (le_ rfl) ?_; refine O.slice1 wd rfl rfl rfl rfl rfl rfl rfl rfl rfl (le_ rfl) ?_; (first | refine O.appNil1 wd rfl rfl rfl rfl rfl rfl (by first | exact rows1 rfl rfl | exact rows1 rfl (by first | rfl | assumption | (simp only [rS_len, rI_len, List.length_append, List.length_map, List.length_set, List.length_replicate, List.length_cons, List.length_nil, Nat.zero_add, letterL_len, upL_len, pathL_len]; done) | (simp only [rS_len, rI_len, List.length_append, List.length_map, List.length_set, List.length_replicate, List.length_cons, List.length_nil, letterL_len, upL_len, pathL_len] at *; omega)) | rfl) rfl rfl (le_ rfl) ?_ | refine O.app1 wd rfl rfl rfl rfl rfl rfl rfl (by first | exact rows1 rfl rfl | exact rows1 rfl (by first | rfl | assumption | (simp only [rS_len, rI_len, List.length_append, List.length_map, List.length_set, List.length_replicate, List.length_cons, List.length_nil, Nat.zero_add, letterL_len, upL_len, pathL_len]; done) | (simp only [rS_len, rI_len, List.length_append, List.length_map, List.length_set, List.length_replicate, List.length_cons, List.length_nil, letterL_len, upL_len, pathL_len] at *; omega)) | rfl) rfl rfl rfl (by first | rfl | assumption | (simp only [rS_len, rI_len, List.length_append, List.length_map, List.length_set, List.length_replicate, List.length_cons, List.length_nil, Nat.zero_add, letterL_len, upL_len, pathL_len]; done) | (simp only [rS_len, rI_len, List.length_append, List.length_map, List.length_set, List.length_replicate, List.length_cons, List.length_nil, letterL_len, upL_len, pathL_len] at *; omega)) (by simp only [strMost, mostRows, rS_len, rI_len, List.length_append, List.length_cons, List.length_nil, letterL_len, upL_len, pathL_len] at *; omega) (le_ rfl) ?_); refine O.assign wd rfl rfl (le_ rfl) ?_; refine RestO.nil ?_) | (refine Rest.region (id := 7) ?_; refine O.move wd rfl rfl (le_ rfl) ?_; refine O.hcall wd rfl rfl rfl rfl rfl rfl rfl rfl rfl (iClip_hc _ _) rfl rfl rfl rfl rfl rfl rfl rfl rfl (le_ rfl) rfl rfl ?_; refine O.assign wd rfl rfl (le_ rfl) ?_; refine RestO.nil ?_) | refine Rest.ifT (E := Ee) rfl rfl ?_ | refine Rest.ifF (E := Ee) rfl rfl ?_))
    exact Rest.ret (gives_fin rfl (gvO (by first | exact gv1 rfl (by first | rfl | assumption | (simp only [rS_len, rI_len, List.length_append, List.length_map, List.length_set, List.length_replicate, List.length_cons, List.length_nil, Nat.zero_add, letterL_len, upL_len, pathL_len]; done) | (simp only [rS_len, rI_len, List.length_append, List.length_map, List.length_set, List.length_replicate, List.length_cons, List.length_nil, letterL_len, upL_len, pathL_len] at *; omega)) | rfl)))
theorem path_ct (n : Int) (h : 0 ≤ n ∧ n ≤ 7) : Ct Tryd.prog 93 [bI n] (oI (pathL n) none) := by
  rcases eight h with rfl | rfl | rfl | rfl | rfl | rfl | rfl | rfl
  all_goals
    refine Ct.enter wd Tryd.func93 rfl rfl Tryd.ntmps93 rfl rfl rfl rfl ?_
    (repeat (first | refine Rest.seq ?_ | refine Rest.skip ?_ | refine Rest.block ?_ | refine Rest.blockEnd ?_ | refine Rest.exit rfl ?_ | refine Rest.again ?_ | (refine Rest.region (id := 0) ?_; refine O.assign wd rfl rfl (le_ rfl) ?_; refine RestO.nil ?_) | (refine Rest.region (id := 1) ?_; refine O.move wd rfl rfl (le_ rfl) ?_; refine O.call_ wd rfl rfl rfl rfl rfl (mc rfl mn) rfl rfl (leaf_ct _ (by omega)) rfl rfl (le_ rfl) rfl rfl ?_; refine O.slice1 wd rfl rfl rfl rfl rfl rfl rfl rfl rfl (le_ rfl) ?_; refine O.move wd rfl rfl (le_ rfl) ?_; refine O.call_ wd rfl rfl rfl rfl rfl (mc rfl mn) rfl rfl (leaf_ct _ (by omega)) rfl rfl (le_ rfl) rfl rfl ?_; refine O.call_ wd rfl rfl rfl rfl rfl (mc rfl mn) rfl rfl (treUp_ct _ (by omega)) rfl rfl (le_ rfl) rfl rfl ?_; refine O.app (hl2 := []) wd rfl rfl rfl rfl rfl rfl rfl (by first | exact rows1 rfl rfl | exact rows1 rfl (by first | rfl | assumption | (simp only [rS_len, rI_len, List.length_append, List.length_map, List.length_set, List.length_replicate, List.length_cons, List.length_nil, Nat.zero_add, letterL_len, upL_len, pathL_len]; done) | (simp only [rS_len, rI_len, List.length_append, List.length_map, List.length_set, List.length_replicate, List.length_cons, List.length_nil, letterL_len, upL_len, pathL_len] at *; omega)) | rfl) rfl rfl rfl (by first | rfl | assumption | (simp only [rS_len, rI_len, List.length_append, List.length_map, List.length_set, List.length_replicate, List.length_cons, List.length_nil, Nat.zero_add, letterL_len, upL_len, pathL_len]; done) | (simp only [rS_len, rI_len, List.length_append, List.length_map, List.length_set, List.length_replicate, List.length_cons, List.length_nil, letterL_len, upL_len, pathL_len] at *; omega)) (by simp only [strMost, mostRows, rS_len, rI_len, List.length_append, List.length_cons, List.length_nil, letterL_len, upL_len, pathL_len] at *; omega) rfl (le_ rfl) ?_; refine O.assign wd rfl rfl (le_ rfl) ?_; refine RestO.nil ?_) | refine Rest.ifT (E := Ee) rfl rfl ?_ | refine Rest.ifF (E := Ee) rfl rfl ?_))
    exact Rest.ret (gives_fin rfl (gvO (by first | exact gv1 rfl (by first | rfl | assumption | (simp only [rS_len, rI_len, List.length_append, List.length_map, List.length_set, List.length_replicate, List.length_cons, List.length_nil, Nat.zero_add, letterL_len, upL_len, pathL_len]; done) | (simp only [rS_len, rI_len, List.length_append, List.length_map, List.length_set, List.length_replicate, List.length_cons, List.length_nil, letterL_len, upL_len, pathL_len] at *; omega)) | rfl)))
theorem cloneS_ct (l : List (List UInt8)) (hl : l.length ≤ mostRows) : Ct Tryd.prog 123 [bSs l] (oS l (some l.length)) := by
  rw [show oS l (some l.length) = oS l (some (rS l).length) from by rw [rS_len]]
  refine Ct.enter wd Tryd.func123 rfl rfl Tryd.ntmps123 rfl rfl rfl rfl ?_
  (repeat (first | refine Rest.seq ?_ | refine Rest.skip ?_ | refine Rest.block ?_ | refine Rest.blockEnd ?_ | refine Rest.exit rfl ?_ | refine Rest.again ?_ | (refine Rest.region (id := 0) ?_; refine O.assign wd rfl rfl (le_ rfl) ?_; refine RestO.nil ?_) | (refine Rest.region (id := 1) ?_; refine O.move wd rfl rfl (le_ rfl) ?_; refine O.call_ wd rfl rfl rfl rfl rfl (mc (by first | exact cl1 rfl (by first | rfl | assumption | (simp only [rS_len, rI_len, List.length_append, List.length_map, List.length_set, List.length_replicate, List.length_cons, List.length_nil, Nat.zero_add, letterL_len, upL_len, pathL_len]; done) | (simp only [rS_len, rI_len, List.length_append, List.length_map, List.length_set, List.length_replicate, List.length_cons, List.length_nil, letterL_len, upL_len, pathL_len] at *; omega)) | exact clT rfl (by assumption) | rfl) mn) rfl rfl (sClone_ct _ (by simp only [strMost, mostRows, rS_len, rI_len, List.length_append, List.length_cons, List.length_nil, letterL_len, upL_len, pathL_len] at *; omega)) (backV_oS _ _ _) rfl (le_ rfl) rfl rfl ?_; refine O.hcall wd rfl rfl rfl rfl rfl rfl rfl rfl rfl (sClip_hc _ _) rfl rfl rfl rfl rfl rfl rfl rfl rfl (le_ rfl) rfl rfl ?_; refine O.assign wd rfl rfl (le_ rfl) ?_; refine RestO.nil ?_) | refine Rest.ifT (E := Ee) rfl rfl ?_ | refine Rest.ifF (E := Ee) rfl rfl ?_))
  exact Rest.ret (gives_fin rfl (gvO (by first | exact gv1 rfl (by first | rfl | assumption | (simp only [rS_len, rI_len, List.length_append, List.length_map, List.length_set, List.length_replicate, List.length_cons, List.length_nil, Nat.zero_add, letterL_len, upL_len, pathL_len]; done) | (simp only [rS_len, rI_len, List.length_append, List.length_map, List.length_set, List.length_replicate, List.length_cons, List.length_nil, letterL_len, upL_len, pathL_len] at *; omega)) | rfl)))
theorem cloneI_ct (l : List Int) (hl : l.length ≤ mostRows) : Ct Tryd.prog 58 [bIs l] (oI l (some l.length)) := by
  rw [show oI l (some l.length) = oI l (some (rI l).length) from by rw [rI_len]]
  refine Ct.enter wd Tryd.func58 rfl rfl Tryd.ntmps58 rfl rfl rfl rfl ?_
  (repeat (first | refine Rest.seq ?_ | refine Rest.skip ?_ | refine Rest.block ?_ | refine Rest.blockEnd ?_ | refine Rest.exit rfl ?_ | refine Rest.again ?_ | (refine Rest.region (id := 0) ?_; refine O.assign wd rfl rfl (le_ rfl) ?_; refine RestO.nil ?_) | (refine Rest.region (id := 1) ?_; refine O.move wd rfl rfl (le_ rfl) ?_; refine O.call_ wd rfl rfl rfl rfl rfl (mc (by first | exact cl1 rfl (by first | rfl | assumption | (simp only [rS_len, rI_len, List.length_append, List.length_map, List.length_set, List.length_replicate, List.length_cons, List.length_nil, Nat.zero_add, letterL_len, upL_len, pathL_len]; done) | (simp only [rS_len, rI_len, List.length_append, List.length_map, List.length_set, List.length_replicate, List.length_cons, List.length_nil, letterL_len, upL_len, pathL_len] at *; omega)) | exact clT rfl (by assumption) | rfl) mn) rfl rfl (iClone_ct _ (by simp only [strMost, mostRows, rS_len, rI_len, List.length_append, List.length_cons, List.length_nil, letterL_len, upL_len, pathL_len] at *; omega)) (backV_oI _ _ _) rfl (le_ rfl) rfl rfl ?_; refine O.hcall wd rfl rfl rfl rfl rfl rfl rfl rfl rfl (iClip_hc _ _) rfl rfl rfl rfl rfl rfl rfl rfl rfl (le_ rfl) rfl rfl ?_; refine O.assign wd rfl rfl (le_ rfl) ?_; refine RestO.nil ?_) | refine Rest.ifT (E := Ee) rfl rfl ?_ | refine Rest.ifF (E := Ee) rfl rfl ?_))
  exact Rest.ret (gives_fin rfl (gvO (by first | exact gv1 rfl (by first | rfl | assumption | (simp only [rS_len, rI_len, List.length_append, List.length_map, List.length_set, List.length_replicate, List.length_cons, List.length_nil, Nat.zero_add, letterL_len, upL_len, pathL_len]; done) | (simp only [rS_len, rI_len, List.length_append, List.length_map, List.length_set, List.length_replicate, List.length_cons, List.length_nil, letterL_len, upL_len, pathL_len] at *; omega)) | rfl)))
abbrev oT (l : List (List UInt8)) (cap : Option Nat) : BV := .w (.agg [.b (.own 1 (rS l) cap)])
theorem copyOf_ct (l : List (List UInt8)) (hl : l.length ≤ mostRows) : Ct Tryd.prog 98 [bT l] (oT l (some l.length)) := by
  refine Ct.enter wd Tryd.func98 rfl rfl Tryd.ntmps98 rfl rfl rfl rfl ?_
  (repeat (first | refine Rest.seq ?_ | refine Rest.skip ?_ | refine Rest.block ?_ | refine Rest.blockEnd ?_ | refine Rest.exit rfl ?_ | refine Rest.again ?_ | (refine Rest.region (id := 0) ?_; refine O.box wd rfl rfl rfl (le_ rfl) ?_; refine O.alloc wd rfl rfl (le_ rfl) ?_; refine RestO.nil ?_) | (refine Rest.region (id := 1) ?_; refine O.fieldAddrV wd rfl rfl rfl rfl rfl rfl (le_ rfl) ?_; refine O.load wd rfl rfl rfl rfl rfl (le_ rfl) ?_; refine O.call_ wd rfl rfl rfl rfl rfl (mc (by first | exact cl1 rfl (by first | rfl | assumption | (simp only [rS_len, rI_len, List.length_append, List.length_map, List.length_set, List.length_replicate, List.length_cons, List.length_nil, Nat.zero_add, letterL_len, upL_len, pathL_len]; done) | (simp only [rS_len, rI_len, List.length_append, List.length_map, List.length_set, List.length_replicate, List.length_cons, List.length_nil, letterL_len, upL_len, pathL_len] at *; omega)) | exact clT rfl (by assumption) | rfl) mn) rfl rfl (cloneS_ct _ (by assumption)) (backV_oS _ _ _) rfl (le_ rfl) rfl rfl ?_; refine O.build wd rfl rfl rfl rfl (le_ rfl) ?_; refine O.store wd rfl rfl rfl rfl rfl rfl rfl rfl (le_ rfl) ?_; refine RestO.nil ?_) | refine Rest.ifT (E := Ee) rfl rfl ?_ | refine Rest.ifF (E := Ee) rfl rfl ?_))
  exact Rest.ret (gives_fin rfl (gvA (gc (by first | exact gv1 rfl (by first | rfl | assumption | (simp only [rS_len, rI_len, List.length_append, List.length_map, List.length_set, List.length_replicate, List.length_cons, List.length_nil, Nat.zero_add, letterL_len, upL_len, pathL_len]; done) | (simp only [rS_len, rI_len, List.length_append, List.length_map, List.length_set, List.length_replicate, List.length_cons, List.length_nil, letterL_len, upL_len, pathL_len] at *; omega)) | rfl) gn)))
theorem treNew_ct : Ct Tryd.prog 11 [] (oT (List.replicate 15 []) none) := by
  refine Ct.enter wd Tryd.func11 rfl rfl Tryd.ntmps11 rfl rfl rfl rfl ?_
  (repeat (first | refine Rest.seq ?_ | refine Rest.skip ?_ | refine Rest.block ?_ | refine Rest.blockEnd ?_ | refine Rest.exit rfl ?_ | refine Rest.again ?_ | (refine Rest.region (id := 0) ?_; refine O.alloc wd rfl rfl (le_ rfl) ?_; refine RestO.nil ?_) | (refine Rest.region (id := 1) ?_; refine O.makeS wd rfl rfl rfl rfl rfl (by omega) (by omega) (by first | omega | (simp only [mostRows]; omega)) rfl rfl rfl (le_ rfl) ?_; refine O.build wd rfl rfl rfl rfl (le_ rfl) ?_; refine O.store wd rfl rfl rfl rfl rfl rfl rfl rfl (le_ rfl) ?_; refine RestO.nil ?_) | refine Rest.ifT (E := Ee) rfl rfl ?_ | refine Rest.ifF (E := Ee) rfl rfl ?_))
  exact Rest.ret (gives_fin rfl (gvA (gc (by first | exact gv1 rfl (by first | rfl | assumption | (simp only [rS_len, rI_len, List.length_append, List.length_map, List.length_set, List.length_replicate, List.length_cons, List.length_nil, Nat.zero_add, letterL_len, upL_len, pathL_len]; done) | (simp only [rS_len, rI_len, List.length_append, List.length_map, List.length_set, List.length_replicate, List.length_cons, List.length_nil, letterL_len, upL_len, pathL_len] at *; omega)) | rfl) gn)))
end Go.Proofs.YtfokmnafgabdiaaDoor.Eng
/- Trees: keys set, keys cleared. -/
namespace Go.Proofs.YtfokmnafgabdiaaDoor.Eng
open Go Go.RowKit Kw
set_option linter.unusedVariables false
set_option linter.unusedSimpArgs false
set_option maxRecDepth 4000
set_option maxHeartbeats 2000000
def clearL (l : List (List UInt8)) (who : Int) : List (List UInt8) :=
  (((l.set (0 + (7 + who).toNat) []).set (0 + ((7 + who - 1) / 2).toNat) []).set (0 + (((7 + who - 1) / 2 - 1) / 2).toNat) []).set (0 + (0 : Int).toNat) []
abbrev n1 (s : List UInt8) : List UInt8 := [110] ++ s
abbrev k1 (s : List UInt8) : List UInt8 := [107] ++ s
def setL (l : List (List UInt8)) (who : Int) (s : List UInt8) : List (List UInt8) :=
  (((l.set (0 + (7 + who).toNat) (k1 s)).set (0 + ((7 + who - 1) / 2).toNat) (k1 (n1 s))).set (0 + (((7 + who - 1) / 2 - 1) / 2).toNat) (k1 (n1 (n1 s)))).set (0 + (0 : Int).toNat) (k1 (n1 (n1 (n1 s))))
theorem setL_len (l : List (List UInt8)) (who : Int) (s : List UInt8) : (setL l who s).length = l.length := by simp [setL]
theorem clearL_len (l : List (List UInt8)) (who : Int) : (clearL l who).length = l.length := by simp [clearL]
theorem clear_ct (l : List (List UInt8)) (who : Int) (hl : l.length = 15) (h : 0 ≤ who ∧ who ≤ 7) : Ct Tryd.prog 62 [bT l, bI who] (oT (clearL l who) (some l.length)) := by
  have hl' : l.length ≤ mostRows := by rw [hl]; decide
  refine Ct.enter wd Tryd.func62 rfl rfl Tryd.ntmps62 rfl rfl rfl rfl ?_
  (repeat (first | refine Rest.seq ?_ | refine Rest.skip ?_ | refine Rest.block ?_ | refine Rest.blockEnd ?_ | refine Rest.exit rfl ?_ | refine Rest.again ?_ | (refine Rest.region (id := 0) ?_; refine O.box wd rfl rfl rfl (le_ rfl) ?_; refine O.alloc wd rfl rfl (le_ rfl) ?_; refine RestO.nil ?_) | (refine Rest.region (id := 1) ?_; refine O.load wd rfl rfl rfl rfl rfl (le_ rfl) ?_; refine O.call_ wd rfl rfl rfl rfl rfl (mc (clG (mc (by first | exact clA rfl (by first | rfl | assumption | (simp only [rS_len, rI_len, List.length_append, List.length_map, List.length_set, List.length_replicate, List.length_cons, List.length_nil, Nat.zero_add, letterL_len, upL_len, pathL_len, setL_len, clearL_len]; done) | (simp only [rS_len, rI_len, List.length_append, List.length_map, List.length_set, List.length_replicate, List.length_cons, List.length_nil, letterL_len, upL_len, pathL_len, setL_len, clearL_len] at *; omega)) | rfl) mn)) mn) rfl rfl (copyOf_ct _ (by assumption)) (backV_oT _ _ _) rfl (le_ rfl) rfl rfl ?_; refine O.alloc wd rfl rfl (le_ rfl) ?_; refine O.store wd rfl rfl rfl rfl rfl rfl rfl rfl (le_ rfl) ?_; refine RestO.nil ?_) | (refine Rest.region (id := 2) ?_; refine O.move wd rfl rfl (le_ rfl) ?_; refine O.call_ wd rfl rfl rfl rfl rfl (mc rfl mn) rfl rfl (path_ct _ (by omega)) rfl rfl (le_ rfl) rfl rfl ?_; refine O.lenR wd rfl rfl rfl rfl (by first | rfl | assumption | (simp only [rS_len, rI_len, List.length_append, List.length_map, List.length_set, List.length_replicate, List.length_cons, List.length_nil, Nat.zero_add, letterL_len, upL_len, pathL_len, setL_len, clearL_len]; done) | (simp only [rS_len, rI_len, List.length_append, List.length_map, List.length_set, List.length_replicate, List.length_cons, List.length_nil, letterL_len, upL_len, pathL_len, setL_len, clearL_len] at *; omega)) (le_ rfl) ?_; refine O.move wd rfl rfl (le_ rfl) ?_; refine RestO.nil ?_) | refine Rest.ifT (E := Ee) rfl rfl ?_ | refine Rest.ifF (E := Ee) rfl rfl ?_))
  refine Rest.loop 5 ?_
  (repeat (first | refine Rest.seq ?_ | refine Rest.skip ?_ | refine Rest.block ?_ | refine Rest.blockEnd ?_ | refine Rest.exit rfl ?_ | refine Rest.again ?_ | (refine Rest.region (id := 3) ?_; refine O.bin wd rfl rfl rfl rfl (le_ rfl) ?_; refine RestO.nil ?_) | (refine Rest.region (id := 4) ?_; refine O.idxRef wd rfl rfl rfl rfl rfl rfl rfl (by omega) (by first | omega | (simp only [rS_len, rI_len, List.length_take, List.length_drop, List.length_set, List.length_append, List.length_map, List.length_replicate, List.length_cons, List.length_nil, letterL_len, upL_len, pathL_len, setL_len, clearL_len] at *; omega)) rfl (le_ rfl) ?_; refine O.loadRow wd rfl rfl rfl rfl (by first | assumption | exact rS_get (by assumption) | exact rI_get (by assumption) | exact rS_get (by rw [Nat.zero_add]; assumption) | exact rI_get (by rw [Nat.zero_add]; assumption) | exact rS_get rfl | exact rI_get rfl | rfl) rfl rfl rfl (le_ rfl) ?_; refine O.assign wd rfl rfl (le_ rfl) ?_; refine RestO.nil ?_) | (refine Rest.region (id := 5) ?_; refine O.fieldAddrV wd rfl rfl rfl rfl rfl rfl (le_ rfl) ?_; refine O.load wd rfl rfl rfl rfl rfl (le_ rfl) ?_; refine O.move wd rfl rfl (le_ rfl) ?_; refine O.idxRef wd rfl rfl rfl rfl rfl rfl rfl (by omega) (by first | omega | (simp only [rS_len, rI_len, List.length_take, List.length_drop, List.length_set, List.length_append, List.length_map, List.length_replicate, List.length_cons, List.length_nil, letterL_len, upL_len, pathL_len, setL_len, clearL_len] at *; omega)) rfl (le_ rfl) ?_; refine O.storeRS wd rfl rfl rfl rfl rfl (by first | omega | (simp only [rS_len, rI_len, List.length_take, List.length_drop, List.length_set, List.length_append, List.length_map, List.length_replicate, List.length_cons, List.length_nil, letterL_len, upL_len, pathL_len, setL_len, clearL_len] at *; omega)) (le_ rfl) ?_; refine RestO.nil ?_) | (refine Rest.region (id := 6) ?_; refine O.addI wd rfl rfl rfl (by omega) (le_ rfl) ?_; refine O.move wd rfl rfl (le_ rfl) ?_; refine RestO.nil ?_) | (refine Rest.region (id := 7) ?_; refine O.load wd rfl rfl rfl rfl rfl (le_ rfl) ?_; refine O.store wd rfl rfl rfl rfl rfl rfl rfl rfl (le_ rfl) ?_; refine RestO.nil ?_) | refine Rest.ifT (E := Ee) rfl rfl ?_ | refine Rest.ifF (E := Ee) rfl rfl ?_))
  exact Rest.ret (gives_fin rfl (gvA (gc (by first | exact gv1 rfl (by first | rfl | assumption | (simp only [rS_len, rI_len, List.length_append, List.length_map, List.length_set, List.length_replicate, List.length_cons, List.length_nil, Nat.zero_add, letterL_len, upL_len, pathL_len, setL_len, clearL_len]; done) | (simp only [rS_len, rI_len, List.length_append, List.length_map, List.length_set, List.length_replicate, List.length_cons, List.length_nil, letterL_len, upL_len, pathL_len, setL_len, clearL_len] at *; omega)) | rfl) gn)))
theorem treClear_ct (l : List (List UInt8)) (who : Int) (hk : Keys l) (hl : l.length = 15) (h : 0 ≤ who ∧ who ≤ 7) : Ct Tryd.prog 18 [bT l, bI who] (oT (clearL l who) (some l.length)) := by
  refine Ct.enter wd Tryd.func18 rfl rfl Tryd.ntmps18 rfl rfl rfl rfl ?_
  (repeat (first | refine Rest.seq ?_ | refine Rest.skip ?_ | refine Rest.block ?_ | refine Rest.blockEnd ?_ | refine Rest.exit rfl ?_ | refine Rest.again ?_ | (refine Rest.region (id := 0) ?_; refine O.box wd rfl rfl rfl (le_ rfl) ?_; refine O.alloc wd rfl rfl (le_ rfl) ?_; refine RestO.nil ?_) | (refine Rest.region (id := 1) ?_; refine O.load wd rfl rfl rfl rfl rfl (le_ rfl) ?_; refine O.call_ wd rfl rfl rfl rfl rfl (mc (clG (mc (by first | exact clA rfl (by first | rfl | assumption | (simp only [rS_len, rI_len, List.length_append, List.length_map, List.length_set, List.length_replicate, List.length_cons, List.length_nil, Nat.zero_add, letterL_len, upL_len, pathL_len, setL_len, clearL_len]; done) | (simp only [rS_len, rI_len, List.length_append, List.length_map, List.length_set, List.length_replicate, List.length_cons, List.length_nil, letterL_len, upL_len, pathL_len, setL_len, clearL_len] at *; omega)) | rfl) mn)) mn) rfl rfl (treOk_ct _ (by assumption) (by assumption)) rfl rfl (le_ rfl) rfl rfl ?_; refine O.un wd rfl rfl rfl (le_ rfl) ?_; refine O.move wd rfl rfl (le_ rfl) ?_; refine O.move wd rfl rfl (le_ rfl) ?_; refine O.call_ wd rfl rfl rfl rfl rfl (mc rfl mn) rfl rfl (Ct.kn true (isOne_ct _) (by first | assumption | exact cT (by omega))) rfl rfl (le_ rfl) rfl rfl ?_; refine O.un wd rfl rfl rfl (le_ rfl) ?_; refine O.pickF wd rfl rfl rfl (opd_any rfl) rfl (le_ rfl) ?_; refine RestO.nil ?_) | (refine Rest.region (id := 3) ?_; refine O.load wd rfl rfl rfl rfl rfl (le_ rfl) ?_; refine O.move wd rfl rfl (le_ rfl) ?_; refine O.call_ wd rfl rfl rfl rfl rfl (mc (clG (mc (by first | exact clA rfl (by first | rfl | assumption | (simp only [rS_len, rI_len, List.length_append, List.length_map, List.length_set, List.length_replicate, List.length_cons, List.length_nil, Nat.zero_add, letterL_len, upL_len, pathL_len, setL_len, clearL_len]; done) | (simp only [rS_len, rI_len, List.length_append, List.length_map, List.length_set, List.length_replicate, List.length_cons, List.length_nil, letterL_len, upL_len, pathL_len, setL_len, clearL_len] at *; omega)) | rfl) mn)) (mc rfl mn)) rfl rfl (clear_ct _ _ (by assumption) (by omega)) (backV_oT _ _ _) rfl (le_ rfl) rfl rfl ?_; refine O.store wd rfl rfl rfl rfl rfl rfl rfl rfl (le_ rfl) ?_; refine RestO.nil ?_) | refine Rest.ifT (E := Ee) rfl rfl ?_ | refine Rest.ifF (E := Ee) rfl rfl ?_))
  exact Rest.ret (gives_fin rfl (gvA (gc (by first | exact gv1 rfl (by first | rfl | assumption | (simp only [rS_len, rI_len, List.length_append, List.length_map, List.length_set, List.length_replicate, List.length_cons, List.length_nil, Nat.zero_add, letterL_len, upL_len, pathL_len, setL_len, clearL_len]; done) | (simp only [rS_len, rI_len, List.length_append, List.length_map, List.length_set, List.length_replicate, List.length_cons, List.length_nil, letterL_len, upL_len, pathL_len, setL_len, clearL_len] at *; omega)) | rfl) gn)))
theorem short_ct {s : List UInt8} {h : How} (H : Nm s h) (hl : s.length ≤ 292) : Ct Tryd.prog 50 [bS s] (.w (bB true)) := by
  refine Ct.enter wd Tryd.func50 rfl rfl Tryd.ntmps50 rfl rfl rfl rfl ?_
  (repeat (first | refine Rest.seq ?_ | refine Rest.skip ?_ | refine Rest.block ?_ | refine Rest.blockEnd ?_ | refine Rest.exit rfl ?_ | refine Rest.again ?_ | (refine Rest.region (id := 0) ?_; refine O.assign wd rfl rfl (le_ rfl) ?_; refine RestO.nil ?_) | (refine Rest.region (id := 1) ?_; refine O.move wd rfl rfl (le_ rfl) ?_; refine O.call_ wd rfl rfl rfl rfl rfl (mc rfl mn) rfl rfl (secOk_ct (by assumption)) rfl rfl (le_ rfl) rfl rfl ?_; refine O.move wd rfl rfl (le_ rfl) ?_; refine O.move wd rfl rfl (le_ rfl) ?_; refine O.lenM wd rfl rfl rfl (le_ rfl) ?_; refine O.binK true wd rfl rfl rfl rfl (cT (by omega)) (le_ rfl) ?_; refine O.pickT wd rfl rfl rfl rfl (opd_any rfl) (le_ rfl) ?_; refine O.assign wd rfl rfl (le_ rfl) ?_; refine RestO.nil ?_) | refine Rest.ifT (E := Ee) rfl rfl ?_ | refine Rest.ifF (E := Ee) rfl rfl ?_))
  exact Rest.ret (gives_fin rfl (gvO rfl))
theorem nm_up {s : List UInt8} {h : How} (H : Nm s h) (hl : s.length < 300) : Nm ([110] ++ s) ⟨2, 0, 0, s, []⟩ := by
  obtain ⟨_, _, k, e⟩ := H
  refine ⟨by simp; omega, by simp, k + 1, ?_⟩
  show nameF (k + 1) (110 :: s) = _
  simp [nameF, e, Kw.ahead]
theorem nm_key {s : List UInt8} {h : How} (H : Nm s h) (hl : s.length < 300) : Nm ([107] ++ s) ⟨3, 0, 0, s, []⟩ := by
  obtain ⟨_, _, k, e⟩ := H
  refine ⟨by simp; omega, by simp, k + 1, ?_⟩
  show nameF (k + 1) (107 :: s) = _
  simp [nameF, e, Kw.ahead]
theorem chain_ct {s : List UInt8} {h : How} (H : Nm s h) (hl : s.length ≤ 292) : Ct Tryd.prog 99 [bS s, bI 4] (oS [s, n1 s, n1 (n1 s), n1 (n1 (n1 s))] none) := by
  have h0 : s.length < 300 := by omega
  have l1 : ([110] ++ s).length ≤ 300 := by simp; omega
  have l2 : ([110] ++ ([110] ++ s)).length ≤ 300 := by simp; omega
  have l3 : ([110] ++ ([110] ++ ([110] ++ s))).length ≤ 300 := by simp; omega
  have e1 : ([[C.lit (.string (mk s))]] : List (List C)).length = 1 := rfl
  have H1 := nm_up H h0
  have H2 := nm_up H1 (by simp; omega)
  refine Ct.enter wd Tryd.func99 rfl rfl Tryd.ntmps99 rfl rfl rfl rfl ?_
  (repeat (first | refine Rest.seq ?_ | refine Rest.skip ?_ | refine Rest.block ?_ | refine Rest.blockEnd ?_ | refine Rest.exit rfl ?_ | refine Rest.again ?_ | (refine Rest.region (id := 0) ?_; refine O.assign wd rfl rfl (le_ rfl) ?_; refine RestO.nil ?_) | (refine Rest.region (id := 1) ?_; refine O.move wd rfl rfl (le_ rfl) ?_; refine O.slice1 wd rfl rfl rfl rfl rfl rfl rfl rfl rfl (le_ rfl) ?_; refine O.assign wd rfl rfl (le_ rfl) ?_; refine RestO.nil ?_) | refine Rest.ifT (E := Ee) rfl rfl ?_ | refine Rest.ifF (E := Ee) rfl rfl ?_))
  refine Rest.loop 4 ?_
  (repeat (first | refine Rest.seq ?_ | refine Rest.skip ?_ | refine Rest.block ?_ | refine Rest.blockEnd ?_ | refine Rest.exit rfl ?_ | refine Rest.again ?_ | (refine Rest.region (id := 2) ?_; refine O.move wd rfl rfl (le_ rfl) ?_; refine O.lenR wd rfl rfl rfl rfl (by first | rfl | assumption | (simp only [rS_len, rI_len, List.length_append, List.length_map, List.length_set, List.length_replicate, List.length_cons, List.length_nil, Nat.zero_add, letterL_len, upL_len, pathL_len, setL_len, clearL_len]; done) | (simp only [rS_len, rI_len, List.length_append, List.length_map, List.length_set, List.length_replicate, List.length_cons, List.length_nil, letterL_len, upL_len, pathL_len, setL_len, clearL_len] at *; omega)) (le_ rfl) ?_; refine O.move wd rfl rfl (le_ rfl) ?_; (first | refine O.binK true wd rfl rfl rfl rfl (cT (by omega)) (le_ rfl) ?_ | refine O.binK false wd rfl rfl rfl rfl (cF (by omega)) (le_ rfl) ?_); refine RestO.nil ?_) | (refine Rest.region (id := 3) ?_; refine O.move wd rfl rfl (le_ rfl) ?_; refine O.move wd rfl rfl (le_ rfl) ?_; refine O.move wd rfl rfl (le_ rfl) ?_; refine O.lenR wd rfl rfl rfl rfl (by first | rfl | assumption | (simp only [rS_len, rI_len, List.length_append, List.length_map, List.length_set, List.length_replicate, List.length_cons, List.length_nil, Nat.zero_add, letterL_len, upL_len, pathL_len, setL_len, clearL_len]; done) | (simp only [rS_len, rI_len, List.length_append, List.length_map, List.length_set, List.length_replicate, List.length_cons, List.length_nil, letterL_len, upL_len, pathL_len, setL_len, clearL_len] at *; omega)) (le_ rfl) ?_; refine O.subI wd rfl rfl rfl (by omega) (le_ rfl) ?_; refine O.idxRef wd rfl rfl rfl rfl rfl rfl rfl (by omega) (by first | omega | (simp only [rS_len, rI_len, List.length_take, List.length_drop, List.length_set, List.length_append, List.length_map, List.length_replicate, List.length_cons, List.length_nil, letterL_len, upL_len, pathL_len, setL_len, clearL_len] at *; omega)) rfl (le_ rfl) ?_; refine O.loadRow wd rfl rfl rfl rfl (by first | assumption | exact rS_get (by assumption) | exact rI_get (by assumption) | exact rS_get (by rw [Nat.zero_add]; assumption) | exact rI_get (by rw [Nat.zero_add]; assumption) | exact rS_get rfl | exact rI_get rfl | rfl) rfl rfl rfl (le_ rfl) ?_; refine O.call_ wd rfl rfl rfl rfl rfl (mc rfl mn) rfl rfl (makNext_ct (by assumption) (by assumption)) rfl rfl (le_ rfl) rfl rfl ?_; refine O.slice1 wd rfl rfl rfl rfl rfl rfl rfl rfl rfl (le_ rfl) ?_; refine O.app1 wd rfl rfl rfl rfl rfl rfl rfl (by first | exact rows1 rfl rfl | exact rows1 rfl (by first | rfl | assumption | (simp only [rS_len, rI_len, List.length_append, List.length_map, List.length_set, List.length_replicate, List.length_cons, List.length_nil, Nat.zero_add, letterL_len, upL_len, pathL_len, setL_len, clearL_len]; done) | (simp only [rS_len, rI_len, List.length_append, List.length_map, List.length_set, List.length_replicate, List.length_cons, List.length_nil, letterL_len, upL_len, pathL_len, setL_len, clearL_len] at *; omega)) | rfl) rfl rfl rfl (by first | rfl | assumption | (simp only [rS_len, rI_len, List.length_append, List.length_map, List.length_set, List.length_replicate, List.length_cons, List.length_nil, Nat.zero_add, letterL_len, upL_len, pathL_len, setL_len, clearL_len]; done) | (simp only [rS_len, rI_len, List.length_append, List.length_map, List.length_set, List.length_replicate, List.length_cons, List.length_nil, letterL_len, upL_len, pathL_len, setL_len, clearL_len] at *; omega)) (by simp only [strMost, mostRows, rS_len, rI_len, List.length_append, List.length_cons, List.length_nil, letterL_len, upL_len, pathL_len, setL_len, clearL_len] at *; omega) (le_ rfl) ?_; refine O.assign wd rfl rfl (le_ rfl) ?_; refine RestO.nil ?_) | (refine Rest.region (id := 4) ?_; refine O.move wd rfl rfl (le_ rfl) ?_; refine O.assign wd rfl rfl (le_ rfl) ?_; refine RestO.nil ?_) | refine Rest.ifT (E := Ee) rfl rfl ?_ | refine Rest.ifF (E := Ee) rfl rfl ?_))
  exact Rest.ret (gives_fin rfl (gvO (by first | exact gv1 rfl (by first | rfl | assumption | (simp only [rS_len, rI_len, List.length_append, List.length_map, List.length_set, List.length_replicate, List.length_cons, List.length_nil, Nat.zero_add, letterL_len, upL_len, pathL_len, setL_len, clearL_len]; done) | (simp only [rS_len, rI_len, List.length_append, List.length_map, List.length_set, List.length_replicate, List.length_cons, List.length_nil, letterL_len, upL_len, pathL_len, setL_len, clearL_len] at *; omega)) | rfl)))
theorem set_ct (l : List (List UInt8)) (who : Int) {s : List UInt8} {hw : How} (hl : l.length = 15) (h : 0 ≤ who ∧ who ≤ 7) (H : Nm s hw) (hs : s.length ≤ 292) : Ct Tryd.prog 51 [bT l, bI who, bS s] (oT (setL l who s) (some l.length)) := by
  have hl' : l.length ≤ mostRows := by rw [hl]; decide
  have h0 : s.length < 300 := by omega
  have H1 := nm_up H h0
  have H2 := nm_up H1 (by simp; omega)
  have H3 := nm_up H2 (by simp; omega)
  have l0 : ([107] ++ s).length ≤ 300 := by simp; omega
  have l1 : ([107] ++ ([110] ++ s)).length ≤ 300 := by simp; omega
  have l2 : ([107] ++ ([110] ++ ([110] ++ s))).length ≤ 300 := by simp; omega
  have l3 : ([107] ++ ([110] ++ ([110] ++ ([110] ++ s)))).length ≤ 300 := by simp; omega
  refine Ct.enter wd Tryd.func51 rfl rfl Tryd.ntmps51 rfl rfl rfl rfl ?_
  (repeat (first | refine Rest.seq ?_ | refine Rest.skip ?_ | refine Rest.block ?_ | refine Rest.blockEnd ?_ | refine Rest.exit rfl ?_ | refine Rest.again ?_ | (refine Rest.region (id := 0) ?_; refine O.box wd rfl rfl rfl (le_ rfl) ?_; refine O.alloc wd rfl rfl (le_ rfl) ?_; refine RestO.nil ?_) | (refine Rest.region (id := 1) ?_; refine O.load wd rfl rfl rfl rfl rfl (le_ rfl) ?_; refine O.call_ wd rfl rfl rfl rfl rfl (mc (clG (mc (by first | exact clA rfl (by first | rfl | assumption | (simp only [rS_len, rI_len, List.length_append, List.length_map, List.length_set, List.length_replicate, List.length_cons, List.length_nil, Nat.zero_add, letterL_len, upL_len, pathL_len, setL_len, clearL_len]; done) | (simp only [rS_len, rI_len, List.length_append, List.length_map, List.length_set, List.length_replicate, List.length_cons, List.length_nil, letterL_len, upL_len, pathL_len, setL_len, clearL_len] at *; omega)) | rfl) mn)) mn) rfl rfl (copyOf_ct _ (by assumption)) (backV_oT _ _ _) rfl (le_ rfl) rfl rfl ?_; refine O.alloc wd rfl rfl (le_ rfl) ?_; refine O.store wd rfl rfl rfl rfl rfl rfl rfl rfl (le_ rfl) ?_; refine RestO.nil ?_) | (refine Rest.region (id := 2) ?_; refine O.move wd rfl rfl (le_ rfl) ?_; refine O.call_ wd rfl rfl rfl rfl rfl (mc rfl mn) rfl rfl (path_ct _ (by omega)) rfl rfl (le_ rfl) rfl rfl ?_; refine O.assign wd rfl rfl (le_ rfl) ?_; refine RestO.nil ?_) | (refine Rest.region (id := 3) ?_; refine O.move wd rfl rfl (le_ rfl) ?_; refine O.move wd rfl rfl (le_ rfl) ?_; refine O.lenR wd rfl rfl rfl rfl (by first | rfl | assumption | (simp only [rS_len, rI_len, List.length_append, List.length_map, List.length_set, List.length_replicate, List.length_cons, List.length_nil, Nat.zero_add, letterL_len, upL_len, pathL_len, setL_len, clearL_len]; done) | (simp only [rS_len, rI_len, List.length_append, List.length_map, List.length_set, List.length_replicate, List.length_cons, List.length_nil, letterL_len, upL_len, pathL_len, setL_len, clearL_len] at *; omega)) (le_ rfl) ?_; refine O.call_ wd rfl rfl rfl rfl rfl (mc rfl (mc rfl mn)) rfl rfl (chain_ct (by assumption) (by assumption)) rfl rfl (le_ rfl) rfl rfl ?_; refine O.lenR wd rfl rfl rfl rfl (by first | rfl | assumption | (simp only [rS_len, rI_len, List.length_append, List.length_map, List.length_set, List.length_replicate, List.length_cons, List.length_nil, Nat.zero_add, letterL_len, upL_len, pathL_len, setL_len, clearL_len]; done) | (simp only [rS_len, rI_len, List.length_append, List.length_map, List.length_set, List.length_replicate, List.length_cons, List.length_nil, letterL_len, upL_len, pathL_len, setL_len, clearL_len] at *; omega)) (le_ rfl) ?_; refine O.move wd rfl rfl (le_ rfl) ?_; refine RestO.nil ?_) | refine Rest.ifT (E := Ee) rfl rfl ?_ | refine Rest.ifF (E := Ee) rfl rfl ?_))
  refine Rest.loop 5 ?_
  (repeat (first | refine Rest.seq ?_ | refine Rest.skip ?_ | refine Rest.block ?_ | refine Rest.blockEnd ?_ | refine Rest.exit rfl ?_ | refine Rest.again ?_ | (refine Rest.region (id := 4) ?_; refine O.bin wd rfl rfl rfl rfl (le_ rfl) ?_; refine RestO.nil ?_) | (refine Rest.region (id := 5) ?_; refine O.move wd rfl rfl (le_ rfl) ?_; refine O.idxRef wd rfl rfl rfl rfl rfl rfl rfl (by omega) (by first | omega | (simp only [rS_len, rI_len, List.length_take, List.length_drop, List.length_set, List.length_append, List.length_map, List.length_replicate, List.length_cons, List.length_nil, letterL_len, upL_len, pathL_len, setL_len, clearL_len] at *; omega)) rfl (le_ rfl) ?_; refine O.loadRow wd rfl rfl rfl rfl (by first | assumption | exact rS_get (by assumption) | exact rI_get (by assumption) | exact rS_get (by rw [Nat.zero_add]; assumption) | exact rI_get (by rw [Nat.zero_add]; assumption) | exact rS_get rfl | exact rI_get rfl | rfl) rfl rfl rfl (le_ rfl) ?_; refine O.assign wd rfl rfl (le_ rfl) ?_; refine O.assign wd rfl rfl (le_ rfl) ?_; refine RestO.nil ?_) | refine Rest.ifT (E := Ee) rfl rfl ?_ | refine Rest.ifF (E := Ee) rfl rfl ?_))
  refine Rest.draw (id := 6) (wd.okC (one_ok (makKey_ct H l0))) (le_ rfl) ?_
  refine D.q rfl (by kernel_rfl) rfl rfl (Q.fieldAddrV rfl rfl rfl rfl rfl) rfl rfl ?_
  refine D.q rfl (by kernel_rfl) rfl rfl (Q.load rfl rfl rfl rfl) rfl rfl ?_
  refine D.q rfl (by kernel_rfl) rfl rfl (Q.move rfl) rfl rfl ?_
  refine D.q rfl (by kernel_rfl) rfl rfl (Q.move rfl) rfl rfl ?_
  refine D.q rfl (by kernel_rfl) rfl rfl (Q.idxRef rfl rfl rfl rfl rfl rfl (by omega) (by first | omega | (simp only [rS_len, rI_len, List.length_take, List.length_drop, List.length_set, List.length_append, List.length_map, List.length_replicate, List.length_cons, List.length_nil, letterL_len, upL_len, pathL_len, setL_len, clearL_len] at *; omega)) rfl) rfl rfl ?_
  refine D.q rfl (by kernel_rfl) rfl rfl (Q.loadRow rfl rfl rfl (by first | assumption | exact rS_get (by assumption) | exact rI_get (by assumption) | exact rS_get (by rw [Nat.zero_add]; assumption) | exact rI_get (by rw [Nat.zero_add]; assumption) | exact rS_get rfl | exact rI_get rfl | rfl) rfl rfl rfl) rfl rfl ?_
  refine D.q rfl (by kernel_rfl) rfl rfl (Q.move rfl) rfl rfl ?_
  refine D.call_ rfl (by kernel_rfl) rfl rfl rfl rfl rfl (mc rfl mn) rfl rfl (by first | exact one_self _ _ _ | exact orC_1 (one_self _ _ _) | exact orC_2 (one_f rfl) (one_self _ _ _) | exact orC_2 (one_b (by assumption)) (one_self _ _ _) | exact orC_2 (one_f rfl) (orC_1 (one_self _ _ _)) | exact orC_2 (one_f rfl) (orC_2 (one_f rfl) (one_self _ _ _))) rfl rfl rfl rfl ?_
  refine D.q rfl (by kernel_rfl) rfl rfl (Q.idxRef rfl rfl rfl rfl rfl rfl (by omega) (by first | omega | (simp only [rS_len, rI_len, List.length_take, List.length_drop, List.length_set, List.length_append, List.length_map, List.length_replicate, List.length_cons, List.length_nil, letterL_len, upL_len, pathL_len, setL_len, clearL_len] at *; omega)) rfl) rfl rfl ?_
  refine D.storeRS rfl (by kernel_rfl) rfl rfl rfl rfl rfl (by first | omega | (simp only [rS_len, rI_len, List.length_take, List.length_drop, List.length_set, List.length_append, List.length_map, List.length_replicate, List.length_cons, List.length_nil, letterL_len, upL_len, pathL_len, setL_len, clearL_len] at *; omega)) (by kernel_rfl) (by kernel_rfl) ?_
  refine RestD.nil ?_
  (repeat (first | refine Rest.seq ?_ | refine Rest.skip ?_ | refine Rest.block ?_ | refine Rest.blockEnd ?_ | refine Rest.exit rfl ?_ | refine Rest.again ?_ | (refine Rest.region (id := 4) ?_; refine O.bin wd rfl rfl rfl rfl (le_ rfl) ?_; refine RestO.nil ?_) | (refine Rest.region (id := 5) ?_; refine O.move wd rfl rfl (le_ rfl) ?_; refine O.idxRef wd rfl rfl rfl rfl rfl rfl rfl (by omega) (by first | omega | (simp only [rS_len, rI_len, List.length_take, List.length_drop, List.length_set, List.length_append, List.length_map, List.length_replicate, List.length_cons, List.length_nil, letterL_len, upL_len, pathL_len, setL_len, clearL_len] at *; omega)) rfl (le_ rfl) ?_; refine O.loadRow wd rfl rfl rfl rfl (by first | assumption | exact rS_get (by assumption) | exact rI_get (by assumption) | exact rS_get (by rw [Nat.zero_add]; assumption) | exact rI_get (by rw [Nat.zero_add]; assumption) | exact rS_get rfl | exact rI_get rfl | rfl) rfl rfl rfl (le_ rfl) ?_; refine O.assign wd rfl rfl (le_ rfl) ?_; refine O.assign wd rfl rfl (le_ rfl) ?_; refine RestO.nil ?_) | (refine Rest.region (id := 7) ?_; refine O.addI wd rfl rfl rfl (by omega) (le_ rfl) ?_; refine O.move wd rfl rfl (le_ rfl) ?_; refine RestO.nil ?_) | refine Rest.ifT (E := Ee) rfl rfl ?_ | refine Rest.ifF (E := Ee) rfl rfl ?_))
  refine Rest.draw (id := 6) (wd.okC (one_ok (makKey_ct H1 l1))) (le_ rfl) ?_
  refine D.q rfl (by kernel_rfl) rfl rfl (Q.fieldAddrV rfl rfl rfl rfl rfl) rfl rfl ?_
  refine D.q rfl (by kernel_rfl) rfl rfl (Q.load rfl rfl rfl rfl) rfl rfl ?_
  refine D.q rfl (by kernel_rfl) rfl rfl (Q.move rfl) rfl rfl ?_
  refine D.q rfl (by kernel_rfl) rfl rfl (Q.move rfl) rfl rfl ?_
  refine D.q rfl (by kernel_rfl) rfl rfl (Q.idxRef rfl rfl rfl rfl rfl rfl (by omega) (by first | omega | (simp only [rS_len, rI_len, List.length_take, List.length_drop, List.length_set, List.length_append, List.length_map, List.length_replicate, List.length_cons, List.length_nil, letterL_len, upL_len, pathL_len, setL_len, clearL_len] at *; omega)) rfl) rfl rfl ?_
  refine D.q rfl (by kernel_rfl) rfl rfl (Q.loadRow rfl rfl rfl (by first | assumption | exact rS_get (by assumption) | exact rI_get (by assumption) | exact rS_get (by rw [Nat.zero_add]; assumption) | exact rI_get (by rw [Nat.zero_add]; assumption) | exact rS_get rfl | exact rI_get rfl | rfl) rfl rfl rfl) rfl rfl ?_
  refine D.q rfl (by kernel_rfl) rfl rfl (Q.move rfl) rfl rfl ?_
  refine D.call_ rfl (by kernel_rfl) rfl rfl rfl rfl rfl (mc rfl mn) rfl rfl (by first | exact one_self _ _ _ | exact orC_1 (one_self _ _ _) | exact orC_2 (one_f rfl) (one_self _ _ _) | exact orC_2 (one_b (by assumption)) (one_self _ _ _) | exact orC_2 (one_f rfl) (orC_1 (one_self _ _ _)) | exact orC_2 (one_f rfl) (orC_2 (one_f rfl) (one_self _ _ _))) rfl rfl rfl rfl ?_
  refine D.q rfl (by kernel_rfl) rfl rfl (Q.idxRef rfl rfl rfl rfl rfl rfl (by omega) (by first | omega | (simp only [rS_len, rI_len, List.length_take, List.length_drop, List.length_set, List.length_append, List.length_map, List.length_replicate, List.length_cons, List.length_nil, letterL_len, upL_len, pathL_len, setL_len, clearL_len] at *; omega)) rfl) rfl rfl ?_
  refine D.storeRS rfl (by kernel_rfl) rfl rfl rfl rfl rfl (by first | omega | (simp only [rS_len, rI_len, List.length_take, List.length_drop, List.length_set, List.length_append, List.length_map, List.length_replicate, List.length_cons, List.length_nil, letterL_len, upL_len, pathL_len, setL_len, clearL_len] at *; omega)) (by kernel_rfl) (by kernel_rfl) ?_
  refine RestD.nil ?_
  (repeat (first | refine Rest.seq ?_ | refine Rest.skip ?_ | refine Rest.block ?_ | refine Rest.blockEnd ?_ | refine Rest.exit rfl ?_ | refine Rest.again ?_ | (refine Rest.region (id := 4) ?_; refine O.bin wd rfl rfl rfl rfl (le_ rfl) ?_; refine RestO.nil ?_) | (refine Rest.region (id := 5) ?_; refine O.move wd rfl rfl (le_ rfl) ?_; refine O.idxRef wd rfl rfl rfl rfl rfl rfl rfl (by omega) (by first | omega | (simp only [rS_len, rI_len, List.length_take, List.length_drop, List.length_set, List.length_append, List.length_map, List.length_replicate, List.length_cons, List.length_nil, letterL_len, upL_len, pathL_len, setL_len, clearL_len] at *; omega)) rfl (le_ rfl) ?_; refine O.loadRow wd rfl rfl rfl rfl (by first | assumption | exact rS_get (by assumption) | exact rI_get (by assumption) | exact rS_get (by rw [Nat.zero_add]; assumption) | exact rI_get (by rw [Nat.zero_add]; assumption) | exact rS_get rfl | exact rI_get rfl | rfl) rfl rfl rfl (le_ rfl) ?_; refine O.assign wd rfl rfl (le_ rfl) ?_; refine O.assign wd rfl rfl (le_ rfl) ?_; refine RestO.nil ?_) | (refine Rest.region (id := 7) ?_; refine O.addI wd rfl rfl rfl (by omega) (le_ rfl) ?_; refine O.move wd rfl rfl (le_ rfl) ?_; refine RestO.nil ?_) | refine Rest.ifT (E := Ee) rfl rfl ?_ | refine Rest.ifF (E := Ee) rfl rfl ?_))
  refine Rest.draw (id := 6) (wd.okC (one_ok (makKey_ct H2 l2))) (le_ rfl) ?_
  refine D.q rfl (by kernel_rfl) rfl rfl (Q.fieldAddrV rfl rfl rfl rfl rfl) rfl rfl ?_
  refine D.q rfl (by kernel_rfl) rfl rfl (Q.load rfl rfl rfl rfl) rfl rfl ?_
  refine D.q rfl (by kernel_rfl) rfl rfl (Q.move rfl) rfl rfl ?_
  refine D.q rfl (by kernel_rfl) rfl rfl (Q.move rfl) rfl rfl ?_
  refine D.q rfl (by kernel_rfl) rfl rfl (Q.idxRef rfl rfl rfl rfl rfl rfl (by omega) (by first | omega | (simp only [rS_len, rI_len, List.length_take, List.length_drop, List.length_set, List.length_append, List.length_map, List.length_replicate, List.length_cons, List.length_nil, letterL_len, upL_len, pathL_len, setL_len, clearL_len] at *; omega)) rfl) rfl rfl ?_
  refine D.q rfl (by kernel_rfl) rfl rfl (Q.loadRow rfl rfl rfl (by first | assumption | exact rS_get (by assumption) | exact rI_get (by assumption) | exact rS_get (by rw [Nat.zero_add]; assumption) | exact rI_get (by rw [Nat.zero_add]; assumption) | exact rS_get rfl | exact rI_get rfl | rfl) rfl rfl rfl) rfl rfl ?_
  refine D.q rfl (by kernel_rfl) rfl rfl (Q.move rfl) rfl rfl ?_
  refine D.call_ rfl (by kernel_rfl) rfl rfl rfl rfl rfl (mc rfl mn) rfl rfl (by first | exact one_self _ _ _ | exact orC_1 (one_self _ _ _) | exact orC_2 (one_f rfl) (one_self _ _ _) | exact orC_2 (one_b (by assumption)) (one_self _ _ _) | exact orC_2 (one_f rfl) (orC_1 (one_self _ _ _)) | exact orC_2 (one_f rfl) (orC_2 (one_f rfl) (one_self _ _ _))) rfl rfl rfl rfl ?_
  refine D.q rfl (by kernel_rfl) rfl rfl (Q.idxRef rfl rfl rfl rfl rfl rfl (by omega) (by first | omega | (simp only [rS_len, rI_len, List.length_take, List.length_drop, List.length_set, List.length_append, List.length_map, List.length_replicate, List.length_cons, List.length_nil, letterL_len, upL_len, pathL_len, setL_len, clearL_len] at *; omega)) rfl) rfl rfl ?_
  refine D.storeRS rfl (by kernel_rfl) rfl rfl rfl rfl rfl (by first | omega | (simp only [rS_len, rI_len, List.length_take, List.length_drop, List.length_set, List.length_append, List.length_map, List.length_replicate, List.length_cons, List.length_nil, letterL_len, upL_len, pathL_len, setL_len, clearL_len] at *; omega)) (by kernel_rfl) (by kernel_rfl) ?_
  refine RestD.nil ?_
  (repeat (first | refine Rest.seq ?_ | refine Rest.skip ?_ | refine Rest.block ?_ | refine Rest.blockEnd ?_ | refine Rest.exit rfl ?_ | refine Rest.again ?_ | (refine Rest.region (id := 4) ?_; refine O.bin wd rfl rfl rfl rfl (le_ rfl) ?_; refine RestO.nil ?_) | (refine Rest.region (id := 5) ?_; refine O.move wd rfl rfl (le_ rfl) ?_; refine O.idxRef wd rfl rfl rfl rfl rfl rfl rfl (by omega) (by first | omega | (simp only [rS_len, rI_len, List.length_take, List.length_drop, List.length_set, List.length_append, List.length_map, List.length_replicate, List.length_cons, List.length_nil, letterL_len, upL_len, pathL_len, setL_len, clearL_len] at *; omega)) rfl (le_ rfl) ?_; refine O.loadRow wd rfl rfl rfl rfl (by first | assumption | exact rS_get (by assumption) | exact rI_get (by assumption) | exact rS_get (by rw [Nat.zero_add]; assumption) | exact rI_get (by rw [Nat.zero_add]; assumption) | exact rS_get rfl | exact rI_get rfl | rfl) rfl rfl rfl (le_ rfl) ?_; refine O.assign wd rfl rfl (le_ rfl) ?_; refine O.assign wd rfl rfl (le_ rfl) ?_; refine RestO.nil ?_) | (refine Rest.region (id := 7) ?_; refine O.addI wd rfl rfl rfl (by omega) (le_ rfl) ?_; refine O.move wd rfl rfl (le_ rfl) ?_; refine RestO.nil ?_) | refine Rest.ifT (E := Ee) rfl rfl ?_ | refine Rest.ifF (E := Ee) rfl rfl ?_))
  refine Rest.draw (id := 6) (wd.okC (one_ok (makKey_ct H3 l3))) (le_ rfl) ?_
  refine D.q rfl (by kernel_rfl) rfl rfl (Q.fieldAddrV rfl rfl rfl rfl rfl) rfl rfl ?_
  refine D.q rfl (by kernel_rfl) rfl rfl (Q.load rfl rfl rfl rfl) rfl rfl ?_
  refine D.q rfl (by kernel_rfl) rfl rfl (Q.move rfl) rfl rfl ?_
  refine D.q rfl (by kernel_rfl) rfl rfl (Q.move rfl) rfl rfl ?_
  refine D.q rfl (by kernel_rfl) rfl rfl (Q.idxRef rfl rfl rfl rfl rfl rfl (by omega) (by first | omega | (simp only [rS_len, rI_len, List.length_take, List.length_drop, List.length_set, List.length_append, List.length_map, List.length_replicate, List.length_cons, List.length_nil, letterL_len, upL_len, pathL_len, setL_len, clearL_len] at *; omega)) rfl) rfl rfl ?_
  refine D.q rfl (by kernel_rfl) rfl rfl (Q.loadRow rfl rfl rfl (by first | assumption | exact rS_get (by assumption) | exact rI_get (by assumption) | exact rS_get (by rw [Nat.zero_add]; assumption) | exact rI_get (by rw [Nat.zero_add]; assumption) | exact rS_get rfl | exact rI_get rfl | rfl) rfl rfl rfl) rfl rfl ?_
  refine D.q rfl (by kernel_rfl) rfl rfl (Q.move rfl) rfl rfl ?_
  refine D.call_ rfl (by kernel_rfl) rfl rfl rfl rfl rfl (mc rfl mn) rfl rfl (by first | exact one_self _ _ _ | exact orC_1 (one_self _ _ _) | exact orC_2 (one_f rfl) (one_self _ _ _) | exact orC_2 (one_b (by assumption)) (one_self _ _ _) | exact orC_2 (one_f rfl) (orC_1 (one_self _ _ _)) | exact orC_2 (one_f rfl) (orC_2 (one_f rfl) (one_self _ _ _))) rfl rfl rfl rfl ?_
  refine D.q rfl (by kernel_rfl) rfl rfl (Q.idxRef rfl rfl rfl rfl rfl rfl (by omega) (by first | omega | (simp only [rS_len, rI_len, List.length_take, List.length_drop, List.length_set, List.length_append, List.length_map, List.length_replicate, List.length_cons, List.length_nil, letterL_len, upL_len, pathL_len, setL_len, clearL_len] at *; omega)) rfl) rfl rfl ?_
  refine D.storeRS rfl (by kernel_rfl) rfl rfl rfl rfl rfl (by first | omega | (simp only [rS_len, rI_len, List.length_take, List.length_drop, List.length_set, List.length_append, List.length_map, List.length_replicate, List.length_cons, List.length_nil, letterL_len, upL_len, pathL_len, setL_len, clearL_len] at *; omega)) (by kernel_rfl) (by kernel_rfl) ?_
  refine RestD.nil ?_
  (repeat (first | refine Rest.seq ?_ | refine Rest.skip ?_ | refine Rest.block ?_ | refine Rest.blockEnd ?_ | refine Rest.exit rfl ?_ | refine Rest.again ?_ | (refine Rest.region (id := 4) ?_; refine O.bin wd rfl rfl rfl rfl (le_ rfl) ?_; refine RestO.nil ?_) | (refine Rest.region (id := 7) ?_; refine O.addI wd rfl rfl rfl (by omega) (le_ rfl) ?_; refine O.move wd rfl rfl (le_ rfl) ?_; refine RestO.nil ?_) | (refine Rest.region (id := 8) ?_; refine O.load wd rfl rfl rfl rfl rfl (le_ rfl) ?_; refine O.store wd rfl rfl rfl rfl rfl rfl rfl rfl (le_ rfl) ?_; refine RestO.nil ?_) | refine Rest.ifT (E := Ee) rfl rfl ?_ | refine Rest.ifF (E := Ee) rfl rfl ?_))
  exact Rest.ret (gives_fin rfl (gvA (gc (by first | exact gv1 rfl (by first | rfl | assumption | (simp only [rS_len, rI_len, List.length_append, List.length_map, List.length_set, List.length_replicate, List.length_cons, List.length_nil, Nat.zero_add, letterL_len, upL_len, pathL_len, setL_len, clearL_len]; done) | (simp only [rS_len, rI_len, List.length_append, List.length_map, List.length_set, List.length_replicate, List.length_cons, List.length_nil, letterL_len, upL_len, pathL_len, setL_len, clearL_len] at *; omega)) | rfl) gn)))
theorem treSet_ct (l : List (List UInt8)) (who : Int) {s : List UInt8} {hw : How} (hk : Keys l) (hl : l.length = 15) (h : 0 ≤ who ∧ who ≤ 7) (H : Nm s hw) (hs : s.length ≤ 292) : Ct Tryd.prog 12 [bT l, bI who, bS s] (oT (setL l who s) (some l.length)) := by
  refine Ct.enter wd Tryd.func12 rfl rfl Tryd.ntmps12 rfl rfl rfl rfl ?_
  (repeat (first | refine Rest.seq ?_ | refine Rest.skip ?_ | refine Rest.block ?_ | refine Rest.blockEnd ?_ | refine Rest.exit rfl ?_ | refine Rest.again ?_ | (refine Rest.region (id := 0) ?_; refine O.box wd rfl rfl rfl (le_ rfl) ?_; refine O.alloc wd rfl rfl (le_ rfl) ?_; refine RestO.nil ?_) | (refine Rest.region (id := 1) ?_; refine O.load wd rfl rfl rfl rfl rfl (le_ rfl) ?_; refine O.call_ wd rfl rfl rfl rfl rfl (mc (clG (mc (by first | exact clA rfl (by first | rfl | assumption | (simp only [rS_len, rI_len, List.length_append, List.length_map, List.length_set, List.length_replicate, List.length_cons, List.length_nil, Nat.zero_add, letterL_len, upL_len, pathL_len, setL_len, clearL_len]; done) | (simp only [rS_len, rI_len, List.length_append, List.length_map, List.length_set, List.length_replicate, List.length_cons, List.length_nil, letterL_len, upL_len, pathL_len, setL_len, clearL_len] at *; omega)) | rfl) mn)) mn) rfl rfl (treOk_ct _ (by assumption) (by assumption)) rfl rfl (le_ rfl) rfl rfl ?_; refine O.un wd rfl rfl rfl (le_ rfl) ?_; refine O.move wd rfl rfl (le_ rfl) ?_; refine O.move wd rfl rfl (le_ rfl) ?_; refine O.call_ wd rfl rfl rfl rfl rfl (mc rfl mn) rfl rfl (Ct.kn true (isOne_ct _) (by first | assumption | exact cT (by omega))) rfl rfl (le_ rfl) rfl rfl ?_; refine O.un wd rfl rfl rfl (le_ rfl) ?_; refine O.pickF wd rfl rfl rfl (opd_any rfl) rfl (le_ rfl) ?_; refine O.move wd rfl rfl (le_ rfl) ?_; refine O.move wd rfl rfl (le_ rfl) ?_; refine O.call_ wd rfl rfl rfl rfl rfl (mc rfl mn) rfl rfl (short_ct (by assumption) (by assumption)) rfl rfl (le_ rfl) rfl rfl ?_; refine O.un wd rfl rfl rfl (le_ rfl) ?_; refine O.pickF wd rfl rfl rfl (opd_any rfl) rfl (le_ rfl) ?_; refine RestO.nil ?_) | (refine Rest.region (id := 3) ?_; refine O.load wd rfl rfl rfl rfl rfl (le_ rfl) ?_; refine O.move wd rfl rfl (le_ rfl) ?_; refine O.move wd rfl rfl (le_ rfl) ?_; refine O.call_ wd rfl rfl rfl rfl rfl (mc (clG (mc (by first | exact clA rfl (by first | rfl | assumption | (simp only [rS_len, rI_len, List.length_append, List.length_map, List.length_set, List.length_replicate, List.length_cons, List.length_nil, Nat.zero_add, letterL_len, upL_len, pathL_len, setL_len, clearL_len]; done) | (simp only [rS_len, rI_len, List.length_append, List.length_map, List.length_set, List.length_replicate, List.length_cons, List.length_nil, letterL_len, upL_len, pathL_len, setL_len, clearL_len] at *; omega)) | rfl) mn)) (mc rfl (mc rfl mn))) rfl rfl (set_ct _ _ (by assumption) (by omega) (by assumption) (by assumption)) (backV_oT _ _ _) rfl (le_ rfl) rfl rfl ?_; refine O.store wd rfl rfl rfl rfl rfl rfl rfl rfl (le_ rfl) ?_; refine RestO.nil ?_) | refine Rest.ifT (E := Ee) rfl rfl ?_ | refine Rest.ifF (E := Ee) rfl rfl ?_))
  exact Rest.ret (gives_fin rfl (gvA (gc (by first | exact gv1 rfl (by first | rfl | assumption | (simp only [rS_len, rI_len, List.length_append, List.length_map, List.length_set, List.length_replicate, List.length_cons, List.length_nil, Nat.zero_add, letterL_len, upL_len, pathL_len, setL_len, clearL_len]; done) | (simp only [rS_len, rI_len, List.length_append, List.length_map, List.length_set, List.length_replicate, List.length_cons, List.length_nil, letterL_len, upL_len, pathL_len, setL_len, clearL_len] at *; omega)) | rfl) gn)))
end Go.Proofs.YtfokmnafgabdiaaDoor.Eng
/- Trees: what covers a place, who has keys. -/
namespace Go.Proofs.YtfokmnafgabdiaaDoor.Eng
open Go Go.RowKit Kw
set_option linter.unusedVariables false
set_option linter.unusedSimpArgs false
set_option maxRecDepth 4000
set_option maxHeartbeats 2000000
theorem keInts_ct (a b : List Int) (hl : a.length ≤ mostRows) (hl2 : b.length ≤ mostRows) : Ct Tryd.prog 16 [bIs a, bIs b] (.w (bB (decide (a = b)))) := by
  simp only [mostRows] at hl hl2
  by_cases hq : a.length = b.length
  · refine Ct.enter wd Tryd.func16 rfl rfl Tryd.ntmps16 rfl rfl rfl rfl ?_
    (repeat (first | refine Rest.seq ?_ | refine Rest.skip ?_ | refine Rest.block ?_ | refine Rest.blockEnd ?_ | refine Rest.exit rfl ?_ | refine Rest.again ?_ | (refine Rest.region (id := 0) ?_; refine O.assign wd rfl rfl (le_ rfl) ?_; refine RestO.nil ?_) | (refine Rest.region (id := 1) ?_; refine O.move wd rfl rfl (le_ rfl) ?_; refine O.len wd rfl rfl rfl (by first | exact rows1 rfl (by first | rfl | assumption | (simp only [rS_len, rI_len, List.length_append, List.length_map, List.length_set, List.length_replicate, List.length_cons, List.length_nil, Nat.zero_add, letterL_len, upL_len, pathL_len, setL_len, clearL_len]; done) | (simp only [rS_len, rI_len, List.length_append, List.length_map, List.length_set, List.length_replicate, List.length_cons, List.length_nil, letterL_len, upL_len, pathL_len, setL_len, clearL_len] at *; omega)) | rfl) (by first | exact rS_len _ | exact rI_len _ | exact bR_len _ | rfl) (le_ rfl) ?_; refine O.move wd rfl rfl (le_ rfl) ?_; refine O.len wd rfl rfl rfl (by first | exact rows1 rfl (by first | rfl | assumption | (simp only [rS_len, rI_len, List.length_append, List.length_map, List.length_set, List.length_replicate, List.length_cons, List.length_nil, Nat.zero_add, letterL_len, upL_len, pathL_len, setL_len, clearL_len]; done) | (simp only [rS_len, rI_len, List.length_append, List.length_map, List.length_set, List.length_replicate, List.length_cons, List.length_nil, letterL_len, upL_len, pathL_len, setL_len, clearL_len] at *; omega)) | rfl) (by first | exact rS_len _ | exact rI_len _ | exact bR_len _ | rfl) (le_ rfl) ?_; refine O.binK false wd rfl rfl rfl rfl (bneF (by omega)) (le_ rfl) ?_; refine RestO.nil ?_) | (refine Rest.region (id := 3) ?_; refine O.assign wd rfl rfl (le_ rfl) ?_; refine RestO.nil ?_) | refine Rest.ifT (E := Ee) rfl rfl ?_ | refine Rest.ifF (E := Ee) rfl rfl ?_))
    refine Rest.loopI (α := Nat) (fun i => [(5, vI i), (0, vIs a), (1, vIs b)]) (fun i => nb 0 []) (fun i => ([] : List Root).length) (fun i => i ≤ a.length ∧ a.take i = b.take i) (fun i => a.length - i) 0 (by simp) (fun H => Rest.gcX [] (st := (fun (i : Nat) => [(5, vI i), (0, vIs a), (1, vIs b)]) 0) (hp := (fun (i : Nat) => []) 0) rfl rfl rfl rfl rfl rfl rfl rfl rfl (le_ rfl) H) ?_; intro nF i hI next
    obtain ⟨hi, ht⟩ := hI
    by_cases hlt : i < a.length
    · have ha : a[i]? = some a[i] := List.getElem?_eq_getElem hlt
      have hb : b[i]? = some b[i] := List.getElem?_eq_getElem (by omega)
      by_cases e : a[i] = b[i]
      · (repeat (first | refine Rest.seq ?_ | refine Rest.skip ?_ | refine Rest.block ?_ | refine Rest.blockEnd ?_ | refine Rest.exit rfl ?_ | refine Rest.again ?_ | (refine Rest.region (id := 4) ?_; refine O.move wd rfl rfl (le_ rfl) ?_; refine O.move wd rfl rfl (le_ rfl) ?_; refine O.len wd rfl rfl rfl (by first | exact rows1 rfl (by first | rfl | assumption | (simp only [rS_len, rI_len, List.length_append, List.length_map, List.length_set, List.length_replicate, List.length_cons, List.length_nil, Nat.zero_add, letterL_len, upL_len, pathL_len, setL_len, clearL_len]; done) | (simp only [rS_len, rI_len, List.length_append, List.length_map, List.length_set, List.length_replicate, List.length_cons, List.length_nil, letterL_len, upL_len, pathL_len, setL_len, clearL_len] at *; omega)) | rfl) (by first | exact rS_len _ | exact rI_len _ | exact bR_len _ | rfl) (le_ rfl) ?_; refine O.binK true wd rfl rfl rfl rfl (cT (by omega)) (le_ rfl) ?_; refine RestO.nil ?_) | (refine Rest.draw (id := 6) wd.ok (le_ rfl) ?_; refine D.q rfl (by kernel_rfl) rfl rfl (Q.move rfl) rfl rfl ?_; refine D.q rfl (by kernel_rfl) rfl rfl (Q.move rfl) rfl rfl ?_; refine D.q rfl (by kernel_rfl) rfl rfl (Q.idxRo rfl rfl rfl rfl rfl rfl (by omega) (by first | assumption | exact rS_get (by assumption) | exact rI_get (by assumption) | exact rS_get (by rw [Nat.zero_add]; assumption) | exact rI_get (by rw [Nat.zero_add]; assumption) | exact rS_get rfl | exact rI_get rfl | rfl)) rfl rfl ?_; refine D.q rfl (by kernel_rfl) rfl rfl (Q.load rfl rfl rfl rfl) rfl rfl ?_; refine D.q rfl (by kernel_rfl) rfl rfl (Q.move rfl) rfl rfl ?_; refine D.q rfl (by kernel_rfl) rfl rfl (Q.move rfl) rfl rfl ?_; refine D.q rfl (by kernel_rfl) rfl rfl (Q.idxRo rfl rfl rfl rfl rfl rfl (by omega) (by first | assumption | exact rS_get (by assumption) | exact rI_get (by assumption) | exact rS_get (by rw [Nat.zero_add]; assumption) | exact rI_get (by rw [Nat.zero_add]; assumption) | exact rS_get rfl | exact rI_get rfl | rfl)) rfl rfl ?_; refine D.q rfl (by kernel_rfl) rfl rfl (Q.load rfl rfl rfl rfl) rfl rfl ?_; refine D.q rfl (by kernel_rfl) rfl rfl (Q.binK false rfl rfl rfl (bneF (by omega))) rfl rfl ?_; refine RestD.nil ?_) | (refine Rest.region (id := 5) ?_; refine O.move wd rfl rfl (le_ rfl) ?_; refine O.addI wd rfl rfl rfl (by omega) (le_ rfl) ?_; refine O.assign wd rfl rfl (le_ rfl) ?_; refine RestO.nil ?_) | refine Rest.ifT (E := Ee) rfl rfl ?_ | refine Rest.ifF (E := Ee) rfl rfl ?_))
        exact Rest.gcX [] (st := (fun (i : Nat) => [(5, vI i), (0, vIs a), (1, vIs b)]) (i + 1)) (hp := (fun (i : Nat) => []) (i + 1)) rfl rfl rfl rfl rfl rfl rfl rfl rfl (le_ rfl) (next (i + 1) (by exact ⟨by omega, by rw [List.take_add_one, List.take_add_one, ht, ha, hb, e]⟩) (by omega))
      · rw [show decide (a = b) = false from decide_eq_false fun h => e (by subst h; rfl)]
        (repeat (first | refine Rest.seq ?_ | refine Rest.skip ?_ | refine Rest.block ?_ | refine Rest.blockEnd ?_ | refine Rest.exit rfl ?_ | refine Rest.again ?_ | (refine Rest.region (id := 4) ?_; refine O.move wd rfl rfl (le_ rfl) ?_; refine O.move wd rfl rfl (le_ rfl) ?_; refine O.len wd rfl rfl rfl (by first | exact rows1 rfl (by first | rfl | assumption | (simp only [rS_len, rI_len, List.length_append, List.length_map, List.length_set, List.length_replicate, List.length_cons, List.length_nil, Nat.zero_add, letterL_len, upL_len, pathL_len, setL_len, clearL_len]; done) | (simp only [rS_len, rI_len, List.length_append, List.length_map, List.length_set, List.length_replicate, List.length_cons, List.length_nil, letterL_len, upL_len, pathL_len, setL_len, clearL_len] at *; omega)) | rfl) (by first | exact rS_len _ | exact rI_len _ | exact bR_len _ | rfl) (le_ rfl) ?_; refine O.binK true wd rfl rfl rfl rfl (cT (by omega)) (le_ rfl) ?_; refine RestO.nil ?_) | (refine Rest.draw (id := 6) wd.ok (le_ rfl) ?_; refine D.q rfl (by kernel_rfl) rfl rfl (Q.move rfl) rfl rfl ?_; refine D.q rfl (by kernel_rfl) rfl rfl (Q.move rfl) rfl rfl ?_; refine D.q rfl (by kernel_rfl) rfl rfl (Q.idxRo rfl rfl rfl rfl rfl rfl (by omega) (by first | assumption | exact rS_get (by assumption) | exact rI_get (by assumption) | exact rS_get (by rw [Nat.zero_add]; assumption) | exact rI_get (by rw [Nat.zero_add]; assumption) | exact rS_get rfl | exact rI_get rfl | rfl)) rfl rfl ?_; refine D.q rfl (by kernel_rfl) rfl rfl (Q.load rfl rfl rfl rfl) rfl rfl ?_; refine D.q rfl (by kernel_rfl) rfl rfl (Q.move rfl) rfl rfl ?_; refine D.q rfl (by kernel_rfl) rfl rfl (Q.move rfl) rfl rfl ?_; refine D.q rfl (by kernel_rfl) rfl rfl (Q.idxRo rfl rfl rfl rfl rfl rfl (by omega) (by first | assumption | exact rS_get (by assumption) | exact rI_get (by assumption) | exact rS_get (by rw [Nat.zero_add]; assumption) | exact rI_get (by rw [Nat.zero_add]; assumption) | exact rS_get rfl | exact rI_get rfl | rfl)) rfl rfl ?_; refine D.q rfl (by kernel_rfl) rfl rfl (Q.load rfl rfl rfl rfl) rfl rfl ?_; refine D.q rfl (by kernel_rfl) rfl rfl (Q.binK true rfl rfl rfl (bneT (by omega))) rfl rfl ?_; refine RestD.nil ?_) | (refine Rest.region (id := 7) ?_; refine O.assign wd rfl rfl (le_ rfl) ?_; refine RestO.nil ?_) | refine Rest.ifT (E := Ee) rfl rfl ?_ | refine Rest.ifF (E := Ee) rfl rfl ?_))
        exact Rest.ret (gives_fin rfl (gvO rfl))
    · rw [show decide (a = b) = true from decide_eq_true (by rw [List.take_of_length_le (by omega), List.take_of_length_le (by omega)] at ht; exact ht)]
      (repeat (first | refine Rest.seq ?_ | refine Rest.skip ?_ | refine Rest.block ?_ | refine Rest.blockEnd ?_ | refine Rest.exit rfl ?_ | refine Rest.again ?_ | (refine Rest.region (id := 4) ?_; refine O.move wd rfl rfl (le_ rfl) ?_; refine O.move wd rfl rfl (le_ rfl) ?_; refine O.len wd rfl rfl rfl (by first | exact rows1 rfl (by first | rfl | assumption | (simp only [rS_len, rI_len, List.length_append, List.length_map, List.length_set, List.length_replicate, List.length_cons, List.length_nil, Nat.zero_add, letterL_len, upL_len, pathL_len, setL_len, clearL_len]; done) | (simp only [rS_len, rI_len, List.length_append, List.length_map, List.length_set, List.length_replicate, List.length_cons, List.length_nil, letterL_len, upL_len, pathL_len, setL_len, clearL_len] at *; omega)) | rfl) (by first | exact rS_len _ | exact rI_len _ | exact bR_len _ | rfl) (le_ rfl) ?_; refine O.binK false wd rfl rfl rfl rfl (cF (by omega)) (le_ rfl) ?_; refine RestO.nil ?_) | (refine Rest.region (id := 8) ?_; refine O.assign wd rfl rfl (le_ rfl) ?_; refine RestO.nil ?_) | refine Rest.ifT (E := Ee) rfl rfl ?_ | refine Rest.ifF (E := Ee) rfl rfl ?_))
      exact Rest.ret (gives_fin rfl (gvO rfl))
  · rw [show decide (a = b) = false from decide_eq_false fun h => hq (by rw [h])]
    refine Ct.enter wd Tryd.func16 rfl rfl Tryd.ntmps16 rfl rfl rfl rfl ?_
    (repeat (first | refine Rest.seq ?_ | refine Rest.skip ?_ | refine Rest.block ?_ | refine Rest.blockEnd ?_ | refine Rest.exit rfl ?_ | refine Rest.again ?_ | (refine Rest.region (id := 0) ?_; refine O.assign wd rfl rfl (le_ rfl) ?_; refine RestO.nil ?_) | (refine Rest.region (id := 1) ?_; refine O.move wd rfl rfl (le_ rfl) ?_; refine O.len wd rfl rfl rfl (by first | exact rows1 rfl (by first | rfl | assumption | (simp only [rS_len, rI_len, List.length_append, List.length_map, List.length_set, List.length_replicate, List.length_cons, List.length_nil, Nat.zero_add, letterL_len, upL_len, pathL_len, setL_len, clearL_len]; done) | (simp only [rS_len, rI_len, List.length_append, List.length_map, List.length_set, List.length_replicate, List.length_cons, List.length_nil, letterL_len, upL_len, pathL_len, setL_len, clearL_len] at *; omega)) | rfl) (by first | exact rS_len _ | exact rI_len _ | exact bR_len _ | rfl) (le_ rfl) ?_; refine O.move wd rfl rfl (le_ rfl) ?_; refine O.len wd rfl rfl rfl (by first | exact rows1 rfl (by first | rfl | assumption | (simp only [rS_len, rI_len, List.length_append, List.length_map, List.length_set, List.length_replicate, List.length_cons, List.length_nil, Nat.zero_add, letterL_len, upL_len, pathL_len, setL_len, clearL_len]; done) | (simp only [rS_len, rI_len, List.length_append, List.length_map, List.length_set, List.length_replicate, List.length_cons, List.length_nil, letterL_len, upL_len, pathL_len, setL_len, clearL_len] at *; omega)) | rfl) (by first | exact rS_len _ | exact rI_len _ | exact bR_len _ | rfl) (le_ rfl) ?_; refine O.binK true wd rfl rfl rfl rfl (bneT (by omega)) (le_ rfl) ?_; refine RestO.nil ?_) | (refine Rest.region (id := 2) ?_; refine O.assign wd rfl rfl (le_ rfl) ?_; refine RestO.nil ?_) | refine Rest.ifT (E := Ee) rfl rfl ?_ | refine Rest.ifF (E := Ee) rfl rfl ?_))
    exact Rest.ret (gives_fin rfl (gvO rfl))
theorem keIn_ct (a : List Int) (m : Int) (hl : a.length ≤ mostRows) : Ct Tryd.prog 21 [bIs a, bI m] (.w (bB (decide (m ∈ a)))) := by
  simp only [mostRows] at hl
  refine Ct.enter wd Tryd.func21 rfl rfl Tryd.ntmps21 rfl rfl rfl rfl ?_
  (repeat (first | refine Rest.seq ?_ | refine Rest.skip ?_ | refine Rest.block ?_ | refine Rest.blockEnd ?_ | refine Rest.exit rfl ?_ | refine Rest.again ?_ | (refine Rest.region (id := 0) ?_; refine O.assign wd rfl rfl (le_ rfl) ?_; refine RestO.nil ?_) | (refine Rest.region (id := 1) ?_; refine O.assign wd rfl rfl (le_ rfl) ?_; refine RestO.nil ?_) | refine Rest.ifT (E := Ee) rfl rfl ?_ | refine Rest.ifF (E := Ee) rfl rfl ?_))
  refine Rest.loopI (α := Nat) (fun i => [(5, vI i), (0, vIs a), (1, vI m)]) (fun i => nb 0 []) (fun i => ([] : List Root).length) (fun i => i ≤ a.length ∧ ¬ m ∈ a.take i) (fun i => a.length - i) 0 (by simp) (fun H => Rest.gcX [] (st := (fun (i : Nat) => [(5, vI i), (0, vIs a), (1, vI m)]) 0) (hp := (fun (i : Nat) => []) 0) rfl rfl rfl rfl rfl rfl rfl rfl rfl (le_ rfl) H) ?_; intro nF i hI next
  obtain ⟨hi, ht⟩ := hI
  by_cases hlt : i < a.length
  · have ha : a[i]? = some a[i] := List.getElem?_eq_getElem hlt
    by_cases e : a[i] = m
    · rw [show decide (m ∈ a) = true from decide_eq_true (by rw [← e]; exact List.getElem_mem hlt)]
      (repeat (first | refine Rest.seq ?_ | refine Rest.skip ?_ | refine Rest.block ?_ | refine Rest.blockEnd ?_ | refine Rest.exit rfl ?_ | refine Rest.again ?_ | (refine Rest.region (id := 2) ?_; refine O.move wd rfl rfl (le_ rfl) ?_; refine O.move wd rfl rfl (le_ rfl) ?_; refine O.len wd rfl rfl rfl (by first | exact rows1 rfl (by first | rfl | assumption | (simp only [rS_len, rI_len, List.length_append, List.length_map, List.length_set, List.length_replicate, List.length_cons, List.length_nil, Nat.zero_add, letterL_len, upL_len, pathL_len, setL_len, clearL_len]; done) | (simp only [rS_len, rI_len, List.length_append, List.length_map, List.length_set, List.length_replicate, List.length_cons, List.length_nil, letterL_len, upL_len, pathL_len, setL_len, clearL_len] at *; omega)) | rfl) (by first | exact rS_len _ | exact rI_len _ | exact bR_len _ | rfl) (le_ rfl) ?_; refine O.binK true wd rfl rfl rfl rfl (cT (by omega)) (le_ rfl) ?_; refine RestO.nil ?_) | (refine Rest.region (id := 4) ?_; refine O.move wd rfl rfl (le_ rfl) ?_; refine O.move wd rfl rfl (le_ rfl) ?_; refine O.idxRo wd rfl rfl rfl rfl rfl rfl rfl (by omega) (by first | assumption | exact rS_get (by assumption) | exact rI_get (by assumption) | exact rS_get (by rw [Nat.zero_add]; assumption) | exact rI_get (by rw [Nat.zero_add]; assumption) | exact rS_get rfl | exact rI_get rfl | rfl) (le_ rfl) ?_; refine O.load wd rfl rfl rfl rfl rfl (le_ rfl) ?_; refine O.move wd rfl rfl (le_ rfl) ?_; refine O.binK true wd rfl rfl rfl rfl (beqT (by omega)) (le_ rfl) ?_; refine RestO.nil ?_) | (refine Rest.region (id := 5) ?_; refine O.assign wd rfl rfl (le_ rfl) ?_; refine RestO.nil ?_) | refine Rest.ifT (E := Ee) rfl rfl ?_ | refine Rest.ifF (E := Ee) rfl rfl ?_))
      exact Rest.ret (gives_fin rfl (gvO rfl))
    · (repeat (first | refine Rest.seq ?_ | refine Rest.skip ?_ | refine Rest.block ?_ | refine Rest.blockEnd ?_ | refine Rest.exit rfl ?_ | refine Rest.again ?_ | (refine Rest.region (id := 2) ?_; refine O.move wd rfl rfl (le_ rfl) ?_; refine O.move wd rfl rfl (le_ rfl) ?_; refine O.len wd rfl rfl rfl (by first | exact rows1 rfl (by first | rfl | assumption | (simp only [rS_len, rI_len, List.length_append, List.length_map, List.length_set, List.length_replicate, List.length_cons, List.length_nil, Nat.zero_add, letterL_len, upL_len, pathL_len, setL_len, clearL_len]; done) | (simp only [rS_len, rI_len, List.length_append, List.length_map, List.length_set, List.length_replicate, List.length_cons, List.length_nil, letterL_len, upL_len, pathL_len, setL_len, clearL_len] at *; omega)) | rfl) (by first | exact rS_len _ | exact rI_len _ | exact bR_len _ | rfl) (le_ rfl) ?_; refine O.binK true wd rfl rfl rfl rfl (cT (by omega)) (le_ rfl) ?_; refine RestO.nil ?_) | (refine Rest.region (id := 4) ?_; refine O.move wd rfl rfl (le_ rfl) ?_; refine O.move wd rfl rfl (le_ rfl) ?_; refine O.idxRo wd rfl rfl rfl rfl rfl rfl rfl (by omega) (by first | assumption | exact rS_get (by assumption) | exact rI_get (by assumption) | exact rS_get (by rw [Nat.zero_add]; assumption) | exact rI_get (by rw [Nat.zero_add]; assumption) | exact rS_get rfl | exact rI_get rfl | rfl) (le_ rfl) ?_; refine O.load wd rfl rfl rfl rfl rfl (le_ rfl) ?_; refine O.move wd rfl rfl (le_ rfl) ?_; refine O.binK false wd rfl rfl rfl rfl (beqF (by omega)) (le_ rfl) ?_; refine RestO.nil ?_) | (refine Rest.region (id := 3) ?_; refine O.move wd rfl rfl (le_ rfl) ?_; refine O.addI wd rfl rfl rfl (by omega) (le_ rfl) ?_; refine O.assign wd rfl rfl (le_ rfl) ?_; refine RestO.nil ?_) | refine Rest.ifT (E := Ee) rfl rfl ?_ | refine Rest.ifF (E := Ee) rfl rfl ?_))
      exact Rest.gcX [] (st := (fun (i : Nat) => [(5, vI i), (0, vIs a), (1, vI m)]) (i + 1)) (hp := (fun (i : Nat) => []) (i + 1)) rfl rfl rfl rfl rfl rfl rfl rfl rfl (le_ rfl) (next (i + 1) (by exact ⟨by omega, fun h => by (rw [List.take_add_one, ha] at h; exact (List.mem_append.1 h).elim ht fun h => e (by simp at h; exact h.symm))⟩) (by omega))
  · rw [show decide (m ∈ a) = false from decide_eq_false (by rw [List.take_of_length_le (by omega)] at ht; exact ht)]
    (repeat (first | refine Rest.seq ?_ | refine Rest.skip ?_ | refine Rest.block ?_ | refine Rest.blockEnd ?_ | refine Rest.exit rfl ?_ | refine Rest.again ?_ | (refine Rest.region (id := 2) ?_; refine O.move wd rfl rfl (le_ rfl) ?_; refine O.move wd rfl rfl (le_ rfl) ?_; refine O.len wd rfl rfl rfl (by first | exact rows1 rfl (by first | rfl | assumption | (simp only [rS_len, rI_len, List.length_append, List.length_map, List.length_set, List.length_replicate, List.length_cons, List.length_nil, Nat.zero_add, letterL_len, upL_len, pathL_len, setL_len, clearL_len]; done) | (simp only [rS_len, rI_len, List.length_append, List.length_map, List.length_set, List.length_replicate, List.length_cons, List.length_nil, letterL_len, upL_len, pathL_len, setL_len, clearL_len] at *; omega)) | rfl) (by first | exact rS_len _ | exact rI_len _ | exact bR_len _ | rfl) (le_ rfl) ?_; refine O.binK false wd rfl rfl rfl rfl (cF (by omega)) (le_ rfl) ?_; refine RestO.nil ?_) | (refine Rest.region (id := 6) ?_; refine O.assign wd rfl rfl (le_ rfl) ?_; refine RestO.nil ?_) | refine Rest.ifT (E := Ee) rfl rfl ?_ | refine Rest.ifF (E := Ee) rfl rfl ?_))
    exact Rest.ret (gives_fin rfl (gvO rfl))
end Go.Proofs.YtfokmnafgabdiaaDoor.Eng
/- Trees: what covers a place, who has keys. -/
namespace Go.Proofs.YtfokmnafgabdiaaDoor.Eng
open Go Go.RowKit Kw
set_option linter.unusedVariables false
set_option linter.unusedSimpArgs false
set_option maxRecDepth 4000
set_option maxHeartbeats 2000000
def sideL (n : Int) : Int := if n % 2 = 1 then n + 1 else n - 1
theorem treSide_ct (n : Int) (h : 1 ≤ n ∧ n ≤ 14) : Ct Tryd.prog 22 [bI n] (.w (bI (sideL n))) := by
  have hd : 0 ≤ n ∧ n ≤ 14 := by omega
  by_cases e : n % 2 = 1
  · rw [show sideL n = n + 1 from if_pos e]
    refine Ct.enter wd Tryd.func22 rfl rfl Tryd.ntmps22 rfl rfl rfl rfl ?_
    (repeat (first | refine Rest.seq ?_ | refine Rest.skip ?_ | refine Rest.block ?_ | refine Rest.blockEnd ?_ | refine Rest.exit rfl ?_ | refine Rest.again ?_ | (refine Rest.region (id := 0) ?_; refine O.assign wd rfl rfl (le_ rfl) ?_; refine RestO.nil ?_) | (refine Rest.region (id := 1) ?_; refine O.move wd rfl rfl (le_ rfl) ?_; refine O.call_ wd rfl rfl rfl rfl rfl (mc rfl mn) rfl rfl (Ct.kn true (isNode_ct _) (by first | assumption | exact cT (by omega))) rfl rfl (le_ rfl) rfl rfl ?_; refine O.un wd rfl rfl rfl (le_ rfl) ?_; refine O.move wd rfl rfl (le_ rfl) ?_; refine O.move wd rfl rfl (le_ rfl) ?_; refine O.binK false wd rfl rfl rfl rfl (beqF (by omega)) (le_ rfl) ?_; refine O.pickF wd rfl rfl rfl (opd_any rfl) rfl (le_ rfl) ?_; refine O.assign wd rfl rfl (le_ rfl) ?_; refine RestO.nil ?_) | (refine Rest.region (id := 3) ?_; refine O.move wd rfl rfl (le_ rfl) ?_; refine O.remI wd rfl rfl rfl (by omega) (le_ rfl) ?_; refine O.binK true wd rfl rfl rfl rfl (beqT (by omega)) (le_ rfl) ?_; refine O.assign wd rfl rfl (le_ rfl) ?_; refine RestO.nil ?_) | (refine Rest.region (id := 4) ?_; refine O.move wd rfl rfl (le_ rfl) ?_; refine O.addI wd rfl rfl rfl (by omega) (le_ rfl) ?_; refine O.assign wd rfl rfl (le_ rfl) ?_; refine RestO.nil ?_) | refine Rest.ifT (E := Ee) rfl rfl ?_ | refine Rest.ifF (E := Ee) rfl rfl ?_))
    exact Rest.ret (gives_fin rfl (gvO rfl))
  · rw [show sideL n = n - 1 from if_neg e]
    refine Ct.enter wd Tryd.func22 rfl rfl Tryd.ntmps22 rfl rfl rfl rfl ?_
    (repeat (first | refine Rest.seq ?_ | refine Rest.skip ?_ | refine Rest.block ?_ | refine Rest.blockEnd ?_ | refine Rest.exit rfl ?_ | refine Rest.again ?_ | (refine Rest.region (id := 0) ?_; refine O.assign wd rfl rfl (le_ rfl) ?_; refine RestO.nil ?_) | (refine Rest.region (id := 1) ?_; refine O.move wd rfl rfl (le_ rfl) ?_; refine O.call_ wd rfl rfl rfl rfl rfl (mc rfl mn) rfl rfl (Ct.kn true (isNode_ct _) (by first | assumption | exact cT (by omega))) rfl rfl (le_ rfl) rfl rfl ?_; refine O.un wd rfl rfl rfl (le_ rfl) ?_; refine O.move wd rfl rfl (le_ rfl) ?_; refine O.move wd rfl rfl (le_ rfl) ?_; refine O.binK false wd rfl rfl rfl rfl (beqF (by omega)) (le_ rfl) ?_; refine O.pickF wd rfl rfl rfl (opd_any rfl) rfl (le_ rfl) ?_; refine O.assign wd rfl rfl (le_ rfl) ?_; refine RestO.nil ?_) | (refine Rest.region (id := 3) ?_; refine O.move wd rfl rfl (le_ rfl) ?_; refine O.remI wd rfl rfl rfl (by omega) (le_ rfl) ?_; refine O.binK false wd rfl rfl rfl rfl (beqF (by omega)) (le_ rfl) ?_; refine O.assign wd rfl rfl (le_ rfl) ?_; refine RestO.nil ?_) | (refine Rest.region (id := 5) ?_; refine O.move wd rfl rfl (le_ rfl) ?_; refine O.subI wd rfl rfl rfl (by omega) (le_ rfl) ?_; refine O.assign wd rfl rfl (le_ rfl) ?_; refine RestO.nil ?_) | refine Rest.ifT (E := Ee) rfl rfl ?_ | refine Rest.ifF (E := Ee) rfl rfl ?_))
    exact Rest.ret (gives_fin rfl (gvO rfl))
/-- What covers a place. -/
def coverL (l : List (List UInt8)) : Nat → Int → List Int
  | 0, _ => []
  | d + 1, n => if l.getD n.toNat [] ≠ [] then [n] else if n ≥ 7 then [] else coverL l d (2 * n + 1) ++ coverL l d (2 * n + 2)
theorem coverL_len (l : List (List UInt8)) : ∀ (d : Nat) (n : Int), (coverL l d n).length ≤ 2 ^ d
  | 0, n => by simp [coverL]
  | d + 1, n => by
    have h1 := coverL_len l d (2 * n + 1)
    have h2 := coverL_len l d (2 * n + 2)
    have : 1 ≤ 2 ^ d := Nat.one_le_two_pow
    simp only [coverL]
    split
    · simp; omega
    · split
      · simp
      · rw [List.length_append, Nat.pow_succ]; omega
theorem coverUp_ct (l : List (List UInt8)) (n : Int) (a b : List Int) (hl : l.length = 15) (h : 0 ≤ n ∧ n ≤ 6) (hz : l[n.toNat]? = some []) (ha : a.length ≤ 8) (hb : b.length ≤ 8)
    (h1 : Ct Tryd.prog 61 [bT l, bI (2 * n + 1)] (oI a none)) (h2 : Ct Tryd.prog 61 [bT l, bI (2 * n + 2)] (oI b none)) :
    Ct Tryd.prog 61 [bT l, bI n] (oI (a ++ b) none) := by
  have hne : [bT l, bI (2 * n + 2)] ≠ [bT l, bI (2 * n + 1)] := by
    intro e
    simp only [List.cons.injEq, BW.one.injEq, B1.b.injEq, B0.c.injEq, C.lit.injEq, Value.int.injEq, and_true, true_and] at e
    omega
  rw [show oI (a ++ b) none = .w (.one (.b (.own 1 (rI a ++ rI b) none))) from by rw [← rI_app]]
  refine Ct.enter wd Tryd.func61 rfl rfl Tryd.ntmps61 rfl rfl rfl rfl ?_
  (repeat (first | refine Rest.seq ?_ | refine Rest.skip ?_ | refine Rest.block ?_ | refine Rest.blockEnd ?_ | refine Rest.exit rfl ?_ | refine Rest.again ?_ | (refine Rest.region (id := 0) ?_; refine O.box wd rfl rfl rfl (le_ rfl) ?_; refine O.assign wd rfl rfl (le_ rfl) ?_; refine RestO.nil ?_) | (refine Rest.region (id := 1) ?_; refine O.fieldAddrV wd rfl rfl rfl rfl rfl rfl (le_ rfl) ?_; refine O.load wd rfl rfl rfl rfl rfl (le_ rfl) ?_; refine O.move wd rfl rfl (le_ rfl) ?_; refine O.idxRo wd rfl rfl rfl rfl rfl rfl rfl (by omega) (by first | assumption | exact rS_get (by assumption) | exact rI_get (by assumption) | exact rS_get (by rw [Nat.zero_add]; assumption) | exact rI_get (by rw [Nat.zero_add]; assumption) | exact rS_get rfl | exact rI_get rfl | rfl) (le_ rfl) ?_; refine O.load wd rfl rfl rfl rfl rfl (le_ rfl) ?_; refine O.neK false wd rfl rfl rfl (cF (by first | (simp; done) | (simp; assumption))) (le_ rfl) ?_; refine O.assign wd rfl rfl (le_ rfl) ?_; refine RestO.nil ?_) | (refine Rest.region (id := 3) ?_; refine O.move wd rfl rfl (le_ rfl) ?_; refine O.binK false wd rfl rfl rfl rfl (cF (by omega)) (le_ rfl) ?_; refine O.assign wd rfl rfl (le_ rfl) ?_; refine RestO.nil ?_) | refine Rest.ifT (E := Ee) rfl rfl ?_ | refine Rest.ifF (E := Ee) rfl rfl ?_))
  refine Rest.draw (id := 5) (wd.okC (orC_ok (one_ok h1) (one_ok h2))) (le_ rfl) ?_
  refine D.q rfl (by kernel_rfl) rfl rfl (Q.load rfl rfl rfl rfl) rfl rfl ?_
  refine D.q rfl (by kernel_rfl) rfl rfl (Q.move rfl) rfl rfl ?_
  refine D.q rfl (by kernel_rfl) rfl rfl (Q.mulI rfl rfl (by omega)) rfl rfl ?_
  refine D.q rfl (by kernel_rfl) rfl rfl (Q.addI rfl rfl (by omega)) rfl rfl ?_
  refine D.call_ rfl (by kernel_rfl) rfl rfl rfl rfl rfl (mc (clG (mc (by first | exact clA rfl (by first | rfl | assumption | (simp only [rS_len, rI_len, List.length_append, List.length_map, List.length_set, List.length_replicate, List.length_cons, List.length_nil, Nat.zero_add, letterL_len, upL_len, pathL_len, setL_len, clearL_len]; done) | (simp only [rS_len, rI_len, List.length_append, List.length_map, List.length_set, List.length_replicate, List.length_cons, List.length_nil, letterL_len, upL_len, pathL_len, setL_len, clearL_len] at *; omega)) | rfl) mn)) (mc rfl mn)) rfl rfl (by first | exact one_self _ _ _ | exact orC_1 (one_self _ _ _) | exact orC_2 (one_f rfl) (one_self _ _ _) | exact orC_2 (one_b (by assumption)) (one_self _ _ _) | exact orC_2 (one_f rfl) (orC_1 (one_self _ _ _)) | exact orC_2 (one_f rfl) (orC_2 (one_f rfl) (one_self _ _ _))) (backV_oI _ _ _) rfl rfl rfl ?_
  refine D.q rfl (by kernel_rfl) rfl rfl (Q.load rfl rfl rfl rfl) rfl rfl ?_
  refine D.q rfl (by kernel_rfl) rfl rfl (Q.move rfl) rfl rfl ?_
  refine D.q rfl (by kernel_rfl) rfl rfl (Q.mulI rfl rfl (by omega)) rfl rfl ?_
  refine D.q rfl (by kernel_rfl) rfl rfl (Q.addI rfl rfl (by omega)) rfl rfl ?_
  refine D.call_ rfl (by kernel_rfl) rfl rfl rfl rfl rfl (mc (clG (mc (by first | exact clA rfl (by first | rfl | assumption | (simp only [rS_len, rI_len, List.length_append, List.length_map, List.length_set, List.length_replicate, List.length_cons, List.length_nil, Nat.zero_add, letterL_len, upL_len, pathL_len, setL_len, clearL_len]; done) | (simp only [rS_len, rI_len, List.length_append, List.length_map, List.length_set, List.length_replicate, List.length_cons, List.length_nil, letterL_len, upL_len, pathL_len, setL_len, clearL_len] at *; omega)) | rfl) mn)) (mc rfl mn)) rfl rfl (by first | exact one_self _ _ _ | exact orC_1 (one_self _ _ _) | exact orC_2 (one_f rfl) (one_self _ _ _) | exact orC_2 (one_b (by assumption)) (one_self _ _ _) | exact orC_2 (one_f rfl) (orC_1 (one_self _ _ _)) | exact orC_2 (one_f rfl) (orC_2 (one_f rfl) (one_self _ _ _))) (backV_oI _ _ _) rfl rfl rfl ?_
  refine D.app rfl (by kernel_rfl) rfl rfl rfl rfl rfl rfl rfl (by first | exact rows1 rfl rfl | exact rows1 rfl (by first | rfl | assumption | (simp only [rS_len, rI_len, List.length_append, List.length_map, List.length_set, List.length_replicate, List.length_cons, List.length_nil, Nat.zero_add, letterL_len, upL_len, pathL_len, setL_len, clearL_len]; done) | (simp only [rS_len, rI_len, List.length_append, List.length_map, List.length_set, List.length_replicate, List.length_cons, List.length_nil, letterL_len, upL_len, pathL_len, setL_len, clearL_len] at *; omega)) | rfl) rfl rfl rfl (by first | rfl | assumption | (simp only [rS_len, rI_len, List.length_append, List.length_map, List.length_set, List.length_replicate, List.length_cons, List.length_nil, Nat.zero_add, letterL_len, upL_len, pathL_len, setL_len, clearL_len]; done) | (simp only [rS_len, rI_len, List.length_append, List.length_map, List.length_set, List.length_replicate, List.length_cons, List.length_nil, letterL_len, upL_len, pathL_len, setL_len, clearL_len] at *; omega)) (by simp only [strMost, mostRows, rS_len, rI_len, List.length_append, List.length_cons, List.length_nil, letterL_len, upL_len, pathL_len, setL_len, clearL_len] at *; omega) rfl (by kernel_rfl) (by kernel_rfl) (by kernel_rfl) ?_
  refine D.q rfl (by kernel_rfl) rfl rfl (Q.assign rfl) rfl rfl ?_
  refine RestD.nil ?_
  exact Rest.ret (gives_fin rfl (gvO (by first | exact gv1 rfl (by first | rfl | assumption | (simp only [rS_len, rI_len, List.length_append, List.length_map, List.length_set, List.length_replicate, List.length_cons, List.length_nil, Nat.zero_add, letterL_len, upL_len, pathL_len, setL_len, clearL_len]; done) | (simp only [rS_len, rI_len, List.length_append, List.length_map, List.length_set, List.length_replicate, List.length_cons, List.length_nil, letterL_len, upL_len, pathL_len, setL_len, clearL_len] at *; omega)) | rfl)))
theorem coverOne_ct (l : List (List UInt8)) (n : Int) {s : List UInt8} (hl : l.length = 15) (h : 0 ≤ n ∧ n ≤ 14) (hz : l[n.toNat]? = some s) (hs : s ≠ []) :
    Ct Tryd.prog 61 [bT l, bI n] (oI [n] none) := by
  refine Ct.enter wd Tryd.func61 rfl rfl Tryd.ntmps61 rfl rfl rfl rfl ?_
  (repeat (first | refine Rest.seq ?_ | refine Rest.skip ?_ | refine Rest.block ?_ | refine Rest.blockEnd ?_ | refine Rest.exit rfl ?_ | refine Rest.again ?_ | (refine Rest.region (id := 0) ?_; refine O.box wd rfl rfl rfl (le_ rfl) ?_; refine O.assign wd rfl rfl (le_ rfl) ?_; refine RestO.nil ?_) | (refine Rest.region (id := 1) ?_; refine O.fieldAddrV wd rfl rfl rfl rfl rfl rfl (le_ rfl) ?_; refine O.load wd rfl rfl rfl rfl rfl (le_ rfl) ?_; refine O.move wd rfl rfl (le_ rfl) ?_; refine O.idxRo wd rfl rfl rfl rfl rfl rfl rfl (by omega) (by first | assumption | exact rS_get (by assumption) | exact rI_get (by assumption) | exact rS_get (by rw [Nat.zero_add]; assumption) | exact rI_get (by rw [Nat.zero_add]; assumption) | exact rS_get rfl | exact rI_get rfl | rfl) (le_ rfl) ?_; refine O.load wd rfl rfl rfl rfl rfl (le_ rfl) ?_; refine O.neK true wd rfl rfl rfl (cT (by first | rfl | assumption | (simp; done) | (simp; assumption))) (le_ rfl) ?_; refine O.assign wd rfl rfl (le_ rfl) ?_; refine RestO.nil ?_) | (refine Rest.region (id := 2) ?_; refine O.move wd rfl rfl (le_ rfl) ?_; refine O.slice1 wd rfl rfl rfl rfl rfl rfl rfl rfl rfl (le_ rfl) ?_; refine O.assign wd rfl rfl (le_ rfl) ?_; refine RestO.nil ?_) | refine Rest.ifT (E := Ee) rfl rfl ?_ | refine Rest.ifF (E := Ee) rfl rfl ?_))
  exact Rest.ret (gives_fin rfl (gvO (by first | exact gv1 rfl (by first | rfl | assumption | (simp only [rS_len, rI_len, List.length_append, List.length_map, List.length_set, List.length_replicate, List.length_cons, List.length_nil, Nat.zero_add, letterL_len, upL_len, pathL_len, setL_len, clearL_len]; done) | (simp only [rS_len, rI_len, List.length_append, List.length_map, List.length_set, List.length_replicate, List.length_cons, List.length_nil, letterL_len, upL_len, pathL_len, setL_len, clearL_len] at *; omega)) | rfl)))
theorem coverNone_ct (l : List (List UInt8)) (n : Int) (hl : l.length = 15) (h : 7 ≤ n ∧ n ≤ 14) (hz : l[n.toNat]? = some []) :
    Ct Tryd.prog 61 [bT l, bI n] (oI [] none) := by
  refine Ct.enter wd Tryd.func61 rfl rfl Tryd.ntmps61 rfl rfl rfl rfl ?_
  (repeat (first | refine Rest.seq ?_ | refine Rest.skip ?_ | refine Rest.block ?_ | refine Rest.blockEnd ?_ | refine Rest.exit rfl ?_ | refine Rest.again ?_ | (refine Rest.region (id := 0) ?_; refine O.box wd rfl rfl rfl (le_ rfl) ?_; refine O.assign wd rfl rfl (le_ rfl) ?_; refine RestO.nil ?_) | (refine Rest.region (id := 1) ?_; refine O.fieldAddrV wd rfl rfl rfl rfl rfl rfl (le_ rfl) ?_; refine O.load wd rfl rfl rfl rfl rfl (le_ rfl) ?_; refine O.move wd rfl rfl (le_ rfl) ?_; refine O.idxRo wd rfl rfl rfl rfl rfl rfl rfl (by omega) (by first | assumption | exact rS_get (by assumption) | exact rI_get (by assumption) | exact rS_get (by rw [Nat.zero_add]; assumption) | exact rI_get (by rw [Nat.zero_add]; assumption) | exact rS_get rfl | exact rI_get rfl | rfl) (le_ rfl) ?_; refine O.load wd rfl rfl rfl rfl rfl (le_ rfl) ?_; refine O.neK false wd rfl rfl rfl (cF (by first | (simp; done) | (simp; assumption))) (le_ rfl) ?_; refine O.assign wd rfl rfl (le_ rfl) ?_; refine RestO.nil ?_) | (refine Rest.region (id := 3) ?_; refine O.move wd rfl rfl (le_ rfl) ?_; refine O.binK true wd rfl rfl rfl rfl (cT (by omega)) (le_ rfl) ?_; refine O.assign wd rfl rfl (le_ rfl) ?_; refine RestO.nil ?_) | (refine Rest.region (id := 4) ?_; refine O.assign wd rfl rfl (le_ rfl) ?_; refine RestO.nil ?_) | refine Rest.ifT (E := Ee) rfl rfl ?_ | refine Rest.ifF (E := Ee) rfl rfl ?_))
  exact Rest.ret (gives_fin rfl (gvO (by first | exact gv1 rfl (by first | rfl | assumption | (simp only [rS_len, rI_len, List.length_append, List.length_map, List.length_set, List.length_replicate, List.length_cons, List.length_nil, Nat.zero_add, letterL_len, upL_len, pathL_len, setL_len, clearL_len]; done) | (simp only [rS_len, rI_len, List.length_append, List.length_map, List.length_set, List.length_replicate, List.length_cons, List.length_nil, letterL_len, upL_len, pathL_len, setL_len, clearL_len] at *; omega)) | rfl)))
theorem has_ct (l : List (List UInt8)) (n : Int) {s : List UInt8} (hl : l.length = 15) (h : 0 ≤ n ∧ n ≤ 7) (hz : l[(7 + n).toNat]? = some s) :
    Ct Tryd.prog 104 [bT l, bI n] (.w (bB (decide (s ≠ [])))) := by
  refine Ct.enter wd Tryd.func104 rfl rfl Tryd.ntmps104 rfl rfl rfl rfl ?_
  (repeat (first | refine Rest.seq ?_ | refine Rest.skip ?_ | refine Rest.block ?_ | refine Rest.blockEnd ?_ | refine Rest.exit rfl ?_ | refine Rest.again ?_ | (refine Rest.region (id := 0) ?_; refine O.box wd rfl rfl rfl (le_ rfl) ?_; refine O.assign wd rfl rfl (le_ rfl) ?_; refine RestO.nil ?_) | refine Rest.ifT (E := Ee) rfl rfl ?_ | refine Rest.ifF (E := Ee) rfl rfl ?_))
  refine Rest.draw (id := 1) (wd.okC (orC_ok (one_ok (Ct.kn true (isOne_ct n) (cT (by omega)))) (one_ok (leaf_ct n h)))) (le_ rfl) ?_
  refine D.q rfl (by kernel_rfl) rfl rfl (Q.move rfl) rfl rfl ?_
  refine D.call_ rfl (by kernel_rfl) rfl rfl rfl rfl rfl (mc rfl mn) rfl rfl (by first | exact one_self _ _ _ | exact orC_1 (one_self _ _ _) | exact orC_2 (one_f rfl) (one_self _ _ _) | exact orC_2 (one_b (by assumption)) (one_self _ _ _) | exact orC_2 (one_f rfl) (orC_1 (one_self _ _ _)) | exact orC_2 (one_f rfl) (orC_2 (one_f rfl) (one_self _ _ _))) rfl rfl rfl rfl ?_
  refine D.q rfl (by kernel_rfl) rfl rfl (Q.move rfl) rfl rfl ?_
  refine D.q rfl (by kernel_rfl) rfl rfl (Q.fieldAddrV rfl rfl rfl rfl rfl) rfl rfl ?_
  refine D.q rfl (by kernel_rfl) rfl rfl (Q.load rfl rfl rfl rfl) rfl rfl ?_
  refine D.q rfl (by kernel_rfl) rfl rfl (Q.move rfl) rfl rfl ?_
  refine D.call_ rfl (by kernel_rfl) rfl rfl rfl rfl rfl (mc rfl mn) rfl rfl (by first | exact one_self _ _ _ | exact orC_1 (one_self _ _ _) | exact orC_2 (one_f rfl) (one_self _ _ _) | exact orC_2 (one_b (by assumption)) (one_self _ _ _) | exact orC_2 (one_f rfl) (orC_1 (one_self _ _ _)) | exact orC_2 (one_f rfl) (orC_2 (one_f rfl) (one_self _ _ _))) rfl rfl rfl rfl ?_
  refine D.q rfl (by kernel_rfl) rfl rfl (Q.idxRo rfl rfl rfl rfl rfl rfl (by omega) (by first | assumption | exact rS_get (by assumption) | exact rI_get (by assumption) | exact rS_get (by rw [Nat.zero_add]; assumption) | exact rI_get (by rw [Nat.zero_add]; assumption) | exact rS_get rfl | exact rI_get rfl | rfl)) rfl rfl ?_
  refine D.q rfl (by kernel_rfl) rfl rfl (Q.load rfl rfl rfl rfl) rfl rfl ?_
  refine D.q rfl (by kernel_rfl) rfl rfl (Q.neS rfl rfl) rfl rfl ?_
  refine D.q rfl (by kernel_rfl) rfl rfl (Q.pickT rfl rfl rfl (opd_any rfl)) rfl rfl ?_
  refine D.q rfl (by kernel_rfl) rfl rfl (Q.assign rfl) rfl rfl ?_
  refine RestD.nil ?_
  exact Rest.ret (gives_fin rfl (gvO rfl))
/-- All whose places have keys. -/
def memL (l : List (List UInt8)) : Nat → List Int
  | 0 => []
  | i + 1 => memL l i ++ (if l.getD (7 + i) [] ≠ [] then [(i : Int)] else [])
theorem memL_len (l : List (List UInt8)) : ∀ i, (memL l i).length ≤ i
  | 0 => by simp [memL]
  | i + 1 => by
    have := memL_len l i
    simp only [memL, List.length_append]
    split <;> simp <;> omega
theorem members_ct (l : List (List UInt8)) (hl : l.length = 15) : Ct Tryd.prog 59 [bT l] (oI (memL l 8) none) := by
  refine Ct.enter wd Tryd.func59 rfl rfl Tryd.ntmps59 rfl rfl rfl rfl ?_
  (repeat (first | refine Rest.seq ?_ | refine Rest.skip ?_ | refine Rest.block ?_ | refine Rest.blockEnd ?_ | refine Rest.exit rfl ?_ | refine Rest.again ?_ | (refine Rest.region (id := 0) ?_; refine O.box wd rfl rfl rfl (le_ rfl) ?_; refine O.assign wd rfl rfl (le_ rfl) ?_; refine RestO.nil ?_) | (refine Rest.region (id := 1) ?_; refine O.assign wd rfl rfl (le_ rfl) ?_; refine RestO.nil ?_) | (refine Rest.region (id := 2) ?_; refine O.move wd rfl rfl (le_ rfl) ?_; refine RestO.nil ?_) | refine Rest.ifT (E := Ee) rfl rfl ?_ | refine Rest.ifF (E := Ee) rfl rfl ?_))
  refine Rest.loopI (α := Nat × Bool × Nat × List (List C)) (fun x => [(5, vI x.1), (1, .w (.one (.pt (.ptr 0 0 0)))), (3, bif x.2.1 then .w (.one (.nil 1)) else .w (.one (.ref 1 0 x.2.2.1 none)))]) (fun x => nb 0 (bif x.2.1 then [.var [.c (.ro 1 (rS l))]] else [.var [.c (.ro 1 (rS l))], .rows 1 x.2.2.2])) (fun x => ((bif x.2.1 then [.var [.c (.ro 1 (rS l))]] else [.var [.c (.ro 1 (rS l))], .rows 1 x.2.2.2]) : List Root).length) (fun x => x.1 ≤ 8 ∧ (x.2.1 = true → x.2.2.2 = []) ∧ x.2.2.2.length = x.2.2.1 ∧ x.2.2.2 = rI (memL l x.1)) (fun x => 8 - x.1) (0, true, 0, []) (by exact ⟨by omega, fun _ => rfl, rfl, rfl⟩) (fun H => Rest.gcX [0] (st := (fun (x : Nat × Bool × Nat × List (List C)) => [(5, vI x.1), (1, .w (.one (.pt (.ptr 0 0 0)))), (3, bif x.2.1 then .w (.one (.nil 1)) else .w (.one (.ref 1 0 x.2.2.1 none)))]) (0, true, 0, [])) (hp := (fun (x : Nat × Bool × Nat × List (List C)) => (bif x.2.1 then [.var [.c (.ro 1 (rS l))]] else [.var [.c (.ro 1 (rS l))], .rows 1 x.2.2.2])) (0, true, 0, [])) rfl rfl rfl rfl rfl rfl rfl rfl rfl (le_ rfl) H) ?_; intro nF x hI next
  obtain ⟨i, b, m, rows⟩ := x
  obtain ⟨hi, hb, hm, hr⟩ := hI
  simp only at hi hb hm hr
  have hml : rows.length ≤ i := by rw [hr, rI_len]; exact memL_len l i
  by_cases hlt : i < 8
  · have hz : l[(7 + (i : Int)).toNat]? = some l[7 + i] := by rw [show (7 + (i : Int)).toNat = 7 + i from by omega]; exact List.getElem?_eq_getElem (by omega)
    have hhas := has_ct l i hl (by omega) hz
    have hd : l.getD (7 + i) [] = l[7 + i] := by simp [List.getD, List.getElem?_eq_getElem (show 7 + i < l.length from by omega)]
    by_cases e : l[7 + i] = []
    · have e2 : decide (l[7 + i] ≠ []) = false := by simp [e]
      rw [e2] at hhas
      have hm2 : memL l (i + 1) = memL l i := by simp only [memL, hd, e]; simp
      cases b
      · (repeat (first | refine Rest.seq ?_ | refine Rest.skip ?_ | refine Rest.block ?_ | refine Rest.blockEnd ?_ | refine Rest.exit rfl ?_ | refine Rest.again ?_ | (refine Rest.region (id := 3) ?_; refine O.binK true wd rfl rfl rfl rfl (cT (by omega)) (le_ rfl) ?_; refine RestO.nil ?_) | (refine Rest.region (id := 4) ?_; refine O.move wd rfl rfl (le_ rfl) ?_; refine O.assign wd rfl rfl (le_ rfl) ?_; refine RestO.nil ?_) | (refine Rest.region (id := 5) ?_; refine O.load wd rfl rfl rfl rfl rfl (le_ rfl) ?_; refine O.move wd rfl rfl (le_ rfl) ?_; refine O.call_ wd rfl rfl rfl rfl rfl (mc (clG (mc (by first | exact clA rfl (by first | rfl | assumption | (simp only [rS_len, rI_len, List.length_append, List.length_map, List.length_set, List.length_replicate, List.length_cons, List.length_nil, Nat.zero_add, letterL_len, upL_len, pathL_len, setL_len, clearL_len]; done) | (simp only [rS_len, rI_len, List.length_append, List.length_map, List.length_set, List.length_replicate, List.length_cons, List.length_nil, letterL_len, upL_len, pathL_len, setL_len, clearL_len] at *; omega)) | rfl) mn)) (mc rfl mn)) rfl rfl hhas rfl rfl (le_ rfl) rfl rfl ?_; refine RestO.nil ?_) | (refine Rest.region (id := 7) ?_; refine O.addI wd rfl rfl rfl (by omega) (le_ rfl) ?_; refine O.move wd rfl rfl (le_ rfl) ?_; refine RestO.nil ?_) | refine Rest.ifT (E := Ee) rfl rfl ?_ | refine Rest.ifF (E := Ee) rfl rfl ?_))
        exact Rest.gcX [0, 1] (st := (fun (x : Nat × Bool × Nat × List (List C)) => [(5, vI x.1), (1, .w (.one (.pt (.ptr 0 0 0)))), (3, bif x.2.1 then .w (.one (.nil 1)) else .w (.one (.ref 1 0 x.2.2.1 none)))]) (i + 1, false, m, rows)) (hp := (fun (x : Nat × Bool × Nat × List (List C)) => (bif x.2.1 then [.var [.c (.ro 1 (rS l))]] else [.var [.c (.ro 1 (rS l))], .rows 1 x.2.2.2])) (i + 1, false, m, rows)) rfl rfl rfl rfl rfl rfl rfl rfl rfl (le_ rfl) (next (i + 1, false, m, rows) (by exact ⟨by simp only; omega, (fun h => by cases h), hm, by rw [hr]; exact congrArg rI hm2.symm⟩) (by show 8 - (i + 1) < 8 - i; omega))
      · (repeat (first | refine Rest.seq ?_ | refine Rest.skip ?_ | refine Rest.block ?_ | refine Rest.blockEnd ?_ | refine Rest.exit rfl ?_ | refine Rest.again ?_ | (refine Rest.region (id := 3) ?_; refine O.binK true wd rfl rfl rfl rfl (cT (by omega)) (le_ rfl) ?_; refine RestO.nil ?_) | (refine Rest.region (id := 4) ?_; refine O.move wd rfl rfl (le_ rfl) ?_; refine O.assign wd rfl rfl (le_ rfl) ?_; refine RestO.nil ?_) | (refine Rest.region (id := 5) ?_; refine O.load wd rfl rfl rfl rfl rfl (le_ rfl) ?_; refine O.move wd rfl rfl (le_ rfl) ?_; refine O.call_ wd rfl rfl rfl rfl rfl (mc (clG (mc (by first | exact clA rfl (by first | rfl | assumption | (simp only [rS_len, rI_len, List.length_append, List.length_map, List.length_set, List.length_replicate, List.length_cons, List.length_nil, Nat.zero_add, letterL_len, upL_len, pathL_len, setL_len, clearL_len]; done) | (simp only [rS_len, rI_len, List.length_append, List.length_map, List.length_set, List.length_replicate, List.length_cons, List.length_nil, letterL_len, upL_len, pathL_len, setL_len, clearL_len] at *; omega)) | rfl) mn)) (mc rfl mn)) rfl rfl hhas rfl rfl (le_ rfl) rfl rfl ?_; refine RestO.nil ?_) | (refine Rest.region (id := 7) ?_; refine O.addI wd rfl rfl rfl (by omega) (le_ rfl) ?_; refine O.move wd rfl rfl (le_ rfl) ?_; refine RestO.nil ?_) | refine Rest.ifT (E := Ee) rfl rfl ?_ | refine Rest.ifF (E := Ee) rfl rfl ?_))
        exact Rest.gcX [0] (st := (fun (x : Nat × Bool × Nat × List (List C)) => [(5, vI x.1), (1, .w (.one (.pt (.ptr 0 0 0)))), (3, bif x.2.1 then .w (.one (.nil 1)) else .w (.one (.ref 1 0 x.2.2.1 none)))]) (i + 1, true, m, rows)) (hp := (fun (x : Nat × Bool × Nat × List (List C)) => (bif x.2.1 then [.var [.c (.ro 1 (rS l))]] else [.var [.c (.ro 1 (rS l))], .rows 1 x.2.2.2])) (i + 1, true, m, rows)) rfl rfl rfl rfl rfl rfl rfl rfl rfl (le_ rfl) (next (i + 1, true, m, rows) (by exact ⟨by simp only; omega, hb, hm, by rw [hr]; exact congrArg rI hm2.symm⟩) (by show 8 - (i + 1) < 8 - i; omega))
    · have e2 : decide (l[7 + i] ≠ []) = true := by simp [e]
      rw [e2] at hhas
      have hm2 : memL l (i + 1) = memL l i ++ [(i : Int)] := by simp only [memL, hd]; simp [e]
      have hr2 : rows ++ [[.lit (.int .i64 (i : Int))]] = rI (memL l (i + 1)) := by rw [hm2, rI_app, ← hr]; rfl
      cases b
      · (repeat (first | refine Rest.seq ?_ | refine Rest.skip ?_ | refine Rest.block ?_ | refine Rest.blockEnd ?_ | refine Rest.exit rfl ?_ | refine Rest.again ?_ | (refine Rest.region (id := 3) ?_; refine O.binK true wd rfl rfl rfl rfl (cT (by omega)) (le_ rfl) ?_; refine RestO.nil ?_) | (refine Rest.region (id := 4) ?_; refine O.move wd rfl rfl (le_ rfl) ?_; refine O.assign wd rfl rfl (le_ rfl) ?_; refine RestO.nil ?_) | (refine Rest.region (id := 5) ?_; refine O.load wd rfl rfl rfl rfl rfl (le_ rfl) ?_; refine O.move wd rfl rfl (le_ rfl) ?_; refine O.call_ wd rfl rfl rfl rfl rfl (mc (clG (mc (by first | exact clA rfl (by first | rfl | assumption | (simp only [rS_len, rI_len, List.length_append, List.length_map, List.length_set, List.length_replicate, List.length_cons, List.length_nil, Nat.zero_add, letterL_len, upL_len, pathL_len, setL_len, clearL_len]; done) | (simp only [rS_len, rI_len, List.length_append, List.length_map, List.length_set, List.length_replicate, List.length_cons, List.length_nil, letterL_len, upL_len, pathL_len, setL_len, clearL_len] at *; omega)) | rfl) mn)) (mc rfl mn)) rfl rfl (Ct.kn true hhas (by first | assumption | exact cT (by omega))) rfl rfl (le_ rfl) rfl rfl ?_; refine RestO.nil ?_) | (refine Rest.region (id := 6) ?_; refine O.move wd rfl rfl (le_ rfl) ?_; refine O.move wd rfl rfl (le_ rfl) ?_; refine O.slice1 wd rfl rfl rfl rfl rfl rfl rfl rfl rfl (le_ rfl) ?_; refine O.app1 wd rfl rfl rfl rfl rfl rfl rfl (by first | exact rows1 rfl rfl | exact rows1 rfl (by first | rfl | assumption | (simp only [rS_len, rI_len, List.length_append, List.length_map, List.length_set, List.length_replicate, List.length_cons, List.length_nil, Nat.zero_add, letterL_len, upL_len, pathL_len, setL_len, clearL_len]; done) | (simp only [rS_len, rI_len, List.length_append, List.length_map, List.length_set, List.length_replicate, List.length_cons, List.length_nil, letterL_len, upL_len, pathL_len, setL_len, clearL_len] at *; omega)) | rfl) rfl rfl rfl (by first | rfl | assumption | (simp only [rS_len, rI_len, List.length_append, List.length_map, List.length_set, List.length_replicate, List.length_cons, List.length_nil, Nat.zero_add, letterL_len, upL_len, pathL_len, setL_len, clearL_len]; done) | (simp only [rS_len, rI_len, List.length_append, List.length_map, List.length_set, List.length_replicate, List.length_cons, List.length_nil, letterL_len, upL_len, pathL_len, setL_len, clearL_len] at *; omega)) (by simp only [strMost, mostRows, rS_len, rI_len, List.length_append, List.length_cons, List.length_nil, letterL_len, upL_len, pathL_len, setL_len, clearL_len] at *; omega) (le_ rfl) ?_; refine O.assign wd rfl rfl (le_ rfl) ?_; refine RestO.nil ?_) | (refine Rest.region (id := 7) ?_; refine O.addI wd rfl rfl rfl (by omega) (le_ rfl) ?_; refine O.move wd rfl rfl (le_ rfl) ?_; refine RestO.nil ?_) | refine Rest.ifT (E := Ee) rfl rfl ?_ | refine Rest.ifF (E := Ee) rfl rfl ?_))
        exact Rest.gcX [0, 3] (st := (fun (x : Nat × Bool × Nat × List (List C)) => [(5, vI x.1), (1, .w (.one (.pt (.ptr 0 0 0)))), (3, bif x.2.1 then .w (.one (.nil 1)) else .w (.one (.ref 1 0 x.2.2.1 none)))]) (i + 1, false, m + 1, rows ++ [[.lit (.int .i64 (i : Int))]])) (hp := (fun (x : Nat × Bool × Nat × List (List C)) => (bif x.2.1 then [.var [.c (.ro 1 (rS l))]] else [.var [.c (.ro 1 (rS l))], .rows 1 x.2.2.2])) (i + 1, false, m + 1, rows ++ [[.lit (.int .i64 (i : Int))]])) rfl rfl rfl rfl rfl rfl rfl rfl rfl (le_ rfl) (next (i + 1, false, m + 1, rows ++ [[.lit (.int .i64 (i : Int))]]) (by exact ⟨by simp only; omega, (fun h => by cases h), by simp [hm], hr2⟩) (by show 8 - (i + 1) < 8 - i; omega))
      · have hrows := hb rfl
        subst hrows
        (repeat (first | refine Rest.seq ?_ | refine Rest.skip ?_ | refine Rest.block ?_ | refine Rest.blockEnd ?_ | refine Rest.exit rfl ?_ | refine Rest.again ?_ | (refine Rest.region (id := 3) ?_; refine O.binK true wd rfl rfl rfl rfl (cT (by omega)) (le_ rfl) ?_; refine RestO.nil ?_) | (refine Rest.region (id := 4) ?_; refine O.move wd rfl rfl (le_ rfl) ?_; refine O.assign wd rfl rfl (le_ rfl) ?_; refine RestO.nil ?_) | (refine Rest.region (id := 5) ?_; refine O.load wd rfl rfl rfl rfl rfl (le_ rfl) ?_; refine O.move wd rfl rfl (le_ rfl) ?_; refine O.call_ wd rfl rfl rfl rfl rfl (mc (clG (mc (by first | exact clA rfl (by first | rfl | assumption | (simp only [rS_len, rI_len, List.length_append, List.length_map, List.length_set, List.length_replicate, List.length_cons, List.length_nil, Nat.zero_add, letterL_len, upL_len, pathL_len, setL_len, clearL_len]; done) | (simp only [rS_len, rI_len, List.length_append, List.length_map, List.length_set, List.length_replicate, List.length_cons, List.length_nil, letterL_len, upL_len, pathL_len, setL_len, clearL_len] at *; omega)) | rfl) mn)) (mc rfl mn)) rfl rfl (Ct.kn true hhas (by first | assumption | exact cT (by omega))) rfl rfl (le_ rfl) rfl rfl ?_; refine RestO.nil ?_) | (refine Rest.region (id := 6) ?_; refine O.move wd rfl rfl (le_ rfl) ?_; refine O.move wd rfl rfl (le_ rfl) ?_; refine O.slice1 wd rfl rfl rfl rfl rfl rfl rfl rfl rfl (le_ rfl) ?_; refine O.appNil1 wd rfl rfl rfl rfl rfl rfl (by first | exact rows1 rfl rfl | exact rows1 rfl (by first | rfl | assumption | (simp only [rS_len, rI_len, List.length_append, List.length_map, List.length_set, List.length_replicate, List.length_cons, List.length_nil, Nat.zero_add, letterL_len, upL_len, pathL_len, setL_len, clearL_len]; done) | (simp only [rS_len, rI_len, List.length_append, List.length_map, List.length_set, List.length_replicate, List.length_cons, List.length_nil, letterL_len, upL_len, pathL_len, setL_len, clearL_len] at *; omega)) | rfl) rfl rfl (le_ rfl) ?_; refine O.assign wd rfl rfl (le_ rfl) ?_; refine RestO.nil ?_) | (refine Rest.region (id := 7) ?_; refine O.addI wd rfl rfl rfl (by omega) (le_ rfl) ?_; refine O.move wd rfl rfl (le_ rfl) ?_; refine RestO.nil ?_) | refine Rest.ifT (E := Ee) rfl rfl ?_ | refine Rest.ifF (E := Ee) rfl rfl ?_))
        exact Rest.gcX [0, 2] (st := (fun (x : Nat × Bool × Nat × List (List C)) => [(5, vI x.1), (1, .w (.one (.pt (.ptr 0 0 0)))), (3, bif x.2.1 then .w (.one (.nil 1)) else .w (.one (.ref 1 0 x.2.2.1 none)))]) (i + 1, false, 1, [[.lit (.int .i64 (i : Int))]])) (hp := (fun (x : Nat × Bool × Nat × List (List C)) => (bif x.2.1 then [.var [.c (.ro 1 (rS l))]] else [.var [.c (.ro 1 (rS l))], .rows 1 x.2.2.2])) (i + 1, false, 1, [[.lit (.int .i64 (i : Int))]])) rfl rfl rfl rfl rfl rfl rfl rfl rfl (le_ rfl) (next (i + 1, false, 1, [[.lit (.int .i64 (i : Int))]]) (by exact ⟨by simp only; omega, (fun h => by cases h), rfl, hr2⟩) (by show 8 - (i + 1) < 8 - i; omega))
  · have e8 : i = 8 := by omega
    subst e8
    rw [show oI (memL l 8) none = .w (.one (.b (.own 1 rows none))) from by rw [hr]]
    cases b
    · (repeat (first | refine Rest.seq ?_ | refine Rest.skip ?_ | refine Rest.block ?_ | refine Rest.blockEnd ?_ | refine Rest.exit rfl ?_ | refine Rest.again ?_ | (refine Rest.region (id := 3) ?_; refine O.binK false wd rfl rfl rfl rfl (cF (by omega)) (le_ rfl) ?_; refine RestO.nil ?_) | (refine Rest.region (id := 8) ?_; refine O.move wd rfl rfl (le_ rfl) ?_; refine O.assign wd rfl rfl (le_ rfl) ?_; refine RestO.nil ?_) | refine Rest.ifT (E := Ee) rfl rfl ?_ | refine Rest.ifF (E := Ee) rfl rfl ?_))
      exact Rest.ret (gives_fin rfl (gvO (by first | exact gv1 rfl (by first | rfl | assumption | (simp only [rS_len, rI_len, List.length_append, List.length_map, List.length_set, List.length_replicate, List.length_cons, List.length_nil, Nat.zero_add, letterL_len, upL_len, pathL_len, setL_len, clearL_len]; done) | (simp only [rS_len, rI_len, List.length_append, List.length_map, List.length_set, List.length_replicate, List.length_cons, List.length_nil, letterL_len, upL_len, pathL_len, setL_len, clearL_len] at *; omega)) | rfl)))
    · have hrows := hb rfl
      subst hrows
      (repeat (first | refine Rest.seq ?_ | refine Rest.skip ?_ | refine Rest.block ?_ | refine Rest.blockEnd ?_ | refine Rest.exit rfl ?_ | refine Rest.again ?_ | (refine Rest.region (id := 3) ?_; refine O.binK false wd rfl rfl rfl rfl (cF (by omega)) (le_ rfl) ?_; refine RestO.nil ?_) | (refine Rest.region (id := 8) ?_; refine O.move wd rfl rfl (le_ rfl) ?_; refine O.assign wd rfl rfl (le_ rfl) ?_; refine RestO.nil ?_) | refine Rest.ifT (E := Ee) rfl rfl ?_ | refine Rest.ifF (E := Ee) rfl rfl ?_))
      exact Rest.ret (gives_fin rfl (gvO (by first | exact gv1 rfl (by first | rfl | assumption | (simp only [rS_len, rI_len, List.length_append, List.length_map, List.length_set, List.length_replicate, List.length_cons, List.length_nil, Nat.zero_add, letterL_len, upL_len, pathL_len, setL_len, clearL_len]; done) | (simp only [rS_len, rI_len, List.length_append, List.length_map, List.length_set, List.length_replicate, List.length_cons, List.length_nil, letterL_len, upL_len, pathL_len, setL_len, clearL_len] at *; omega)) | rfl)))
theorem treIn_ct (l : List (List UInt8)) (hk : Keys l) (hl : l.length = 15) : Ct Tryd.prog 15 [bT l] (oI (memL l 8) (some (memL l 8).length)) := by
  have hm : (memL l 8).length ≤ mostRows := Nat.le_trans (memL_len l 8) (by decide)
  refine Ct.enter wd Tryd.func15 rfl rfl Tryd.ntmps15 rfl rfl rfl rfl ?_
  (repeat (first | refine Rest.seq ?_ | refine Rest.skip ?_ | refine Rest.block ?_ | refine Rest.blockEnd ?_ | refine Rest.exit rfl ?_ | refine Rest.again ?_ | (refine Rest.region (id := 0) ?_; refine O.box wd rfl rfl rfl (le_ rfl) ?_; refine O.assign wd rfl rfl (le_ rfl) ?_; refine RestO.nil ?_) | (refine Rest.region (id := 1) ?_; refine O.load wd rfl rfl rfl rfl rfl (le_ rfl) ?_; refine O.call_ wd rfl rfl rfl rfl rfl (mc (clG (mc (by first | exact clA rfl (by first | rfl | assumption | (simp only [rS_len, rI_len, List.length_append, List.length_map, List.length_set, List.length_replicate, List.length_cons, List.length_nil, Nat.zero_add, letterL_len, upL_len, pathL_len, setL_len, clearL_len]; done) | (simp only [rS_len, rI_len, List.length_append, List.length_map, List.length_set, List.length_replicate, List.length_cons, List.length_nil, letterL_len, upL_len, pathL_len, setL_len, clearL_len] at *; omega)) | rfl) mn)) mn) rfl rfl (treOk_ct _ (by assumption) (by assumption)) rfl rfl (le_ rfl) rfl rfl ?_; refine O.un wd rfl rfl rfl (le_ rfl) ?_; refine RestO.nil ?_) | (refine Rest.region (id := 3) ?_; refine O.load wd rfl rfl rfl rfl rfl (le_ rfl) ?_; refine O.call_ wd rfl rfl rfl rfl rfl (mc (clG (mc (by first | exact clA rfl (by first | rfl | assumption | (simp only [rS_len, rI_len, List.length_append, List.length_map, List.length_set, List.length_replicate, List.length_cons, List.length_nil, Nat.zero_add, letterL_len, upL_len, pathL_len, setL_len, clearL_len]; done) | (simp only [rS_len, rI_len, List.length_append, List.length_map, List.length_set, List.length_replicate, List.length_cons, List.length_nil, letterL_len, upL_len, pathL_len, setL_len, clearL_len] at *; omega)) | rfl) mn)) mn) rfl rfl (members_ct _ (by assumption)) (backV_oI _ _ _) rfl (le_ rfl) rfl rfl ?_; refine O.call_ wd rfl rfl rfl rfl rfl (mc (by first | exact cl1 rfl (by first | rfl | assumption | (simp only [rS_len, rI_len, List.length_append, List.length_map, List.length_set, List.length_replicate, List.length_cons, List.length_nil, Nat.zero_add, letterL_len, upL_len, pathL_len, setL_len, clearL_len]; done) | (simp only [rS_len, rI_len, List.length_append, List.length_map, List.length_set, List.length_replicate, List.length_cons, List.length_nil, letterL_len, upL_len, pathL_len, setL_len, clearL_len] at *; omega)) | exact clT rfl (by assumption) | rfl) mn) rfl rfl (cloneI_ct _ (by assumption)) (backV_oI _ _ _) rfl (le_ rfl) rfl rfl ?_; refine O.assign wd rfl rfl (le_ rfl) ?_; refine RestO.nil ?_) | refine Rest.ifT (E := Ee) rfl rfl ?_ | refine Rest.ifF (E := Ee) rfl rfl ?_))
  exact Rest.ret (gives_fin rfl (gvO (by first | exact gv1 rfl (by first | rfl | assumption | (simp only [rS_len, rI_len, List.length_append, List.length_map, List.length_set, List.length_replicate, List.length_cons, List.length_nil, Nat.zero_add, letterL_len, upL_len, pathL_len, setL_len, clearL_len]; done) | (simp only [rS_len, rI_len, List.length_append, List.length_map, List.length_set, List.length_replicate, List.length_cons, List.length_nil, letterL_len, upL_len, pathL_len, setL_len, clearL_len] at *; omega)) | rfl)))
theorem cover_ct (l : List (List UInt8)) (hl : l.length = 15) : ∀ (d : Nat) (n : Int), d ≤ 4 → 0 ≤ n ∧ n ≤ 14 → 16 ≤ (n.toNat + 1) * 2 ^ d → Ct Tryd.prog 61 [bT l, bI n] (oI (coverL l d n) none)
  | 0, n, _, h, h2 => by simp at h2; omega
  | d + 1, n, hd, h, h2 => by
    have hz : l[n.toNat]? = some l[n.toNat] := List.getElem?_eq_getElem (by omega)
    have hg : l.getD n.toNat [] = l[n.toNat] := by simp [List.getD, hz]
    by_cases e : l[n.toNat] = []
    · rw [e] at hz hg
      by_cases h7 : n ≥ 7
      · rw [show coverL l (d + 1) n = [] from by simp only [coverL, hg]; simp [h7]]
        exact coverNone_ct l n hl (by omega) hz
      · rw [show coverL l (d + 1) n = coverL l d (2 * n + 1) ++ coverL l d (2 * n + 2) from by simp only [coverL, hg]; simp; omega]
        have q : 2 ^ d ≤ 8 := by
          have : 2 ^ d ≤ 2 ^ 3 := Nat.pow_le_pow_right (by omega) (by omega)
          simpa using this
        rw [Nat.pow_succ] at h2
        have e1 : (n.toNat + 1) * (2 ^ d * 2) = (2 * n.toNat + 2) * 2 ^ d := by rw [Nat.mul_comm (2 ^ d) 2, ← Nat.mul_assoc]; congr 1; omega
        have e2 : (2 * n.toNat + 2) * 2 ^ d ≤ (2 * n.toNat + 3) * 2 ^ d := Nat.mul_le_mul_right _ (by omega)
        refine coverUp_ct l n _ _ hl (by omega) hz (Nat.le_trans (coverL_len l d _) q) (Nat.le_trans (coverL_len l d _) q) (cover_ct l hl d _ (by omega) (by omega) ?_) (cover_ct l hl d _ (by omega) (by omega) ?_)
        · rw [show (2 * n + 1).toNat + 1 = 2 * n.toNat + 2 from by omega]; omega
        · rw [show (2 * n + 2).toNat + 1 = 2 * n.toNat + 3 from by omega]; omega
    · rw [show coverL l (d + 1) n = [n] from by simp only [coverL, hg]; simp [e]]
      exact coverOne_ct l n hl h hz e
theorem cover4_ct (l : List (List UInt8)) (hl : l.length = 15) (n : Int) (h : 0 ≤ n ∧ n ≤ 14) : Ct Tryd.prog 61 [bT l, bI n] (oI (coverL l 4 n) none) := cover_ct l hl 4 n (by omega) h (by omega)
theorem treCover_ct (l : List (List UInt8)) (n : Int) (hk : Keys l) (hl : l.length = 15) (h : 0 ≤ n ∧ n ≤ 14) : Ct Tryd.prog 17 [bT l, bI n] (oI (coverL l 4 n) (some (coverL l 4 n).length)) := by
  have hm : (coverL l 4 n).length ≤ mostRows := Nat.le_trans (coverL_len l 4 n) (by decide)
  refine Ct.enter wd Tryd.func17 rfl rfl Tryd.ntmps17 rfl rfl rfl rfl ?_
  (repeat (first | refine Rest.seq ?_ | refine Rest.skip ?_ | refine Rest.block ?_ | refine Rest.blockEnd ?_ | refine Rest.exit rfl ?_ | refine Rest.again ?_ | (refine Rest.region (id := 0) ?_; refine O.box wd rfl rfl rfl (le_ rfl) ?_; refine O.assign wd rfl rfl (le_ rfl) ?_; refine RestO.nil ?_) | (refine Rest.region (id := 1) ?_; refine O.load wd rfl rfl rfl rfl rfl (le_ rfl) ?_; refine O.call_ wd rfl rfl rfl rfl rfl (mc (clG (mc (by first | exact clA rfl (by first | rfl | assumption | (simp only [rS_len, rI_len, List.length_append, List.length_map, List.length_set, List.length_replicate, List.length_cons, List.length_nil, Nat.zero_add, letterL_len, upL_len, pathL_len, setL_len, clearL_len]; done) | (simp only [rS_len, rI_len, List.length_append, List.length_map, List.length_set, List.length_replicate, List.length_cons, List.length_nil, letterL_len, upL_len, pathL_len, setL_len, clearL_len] at *; omega)) | rfl) mn)) mn) rfl rfl (treOk_ct _ (by assumption) (by assumption)) rfl rfl (le_ rfl) rfl rfl ?_; refine O.un wd rfl rfl rfl (le_ rfl) ?_; refine O.move wd rfl rfl (le_ rfl) ?_; refine O.move wd rfl rfl (le_ rfl) ?_; refine O.call_ wd rfl rfl rfl rfl rfl (mc rfl mn) rfl rfl (Ct.kn true (isNode_ct _) (by first | assumption | exact cT (by omega))) rfl rfl (le_ rfl) rfl rfl ?_; refine O.un wd rfl rfl rfl (le_ rfl) ?_; refine O.pickF wd rfl rfl rfl (opd_any rfl) rfl (le_ rfl) ?_; refine RestO.nil ?_) | (refine Rest.region (id := 3) ?_; refine O.load wd rfl rfl rfl rfl rfl (le_ rfl) ?_; refine O.move wd rfl rfl (le_ rfl) ?_; refine O.call_ wd rfl rfl rfl rfl rfl (mc (clG (mc (by first | exact clA rfl (by first | rfl | assumption | (simp only [rS_len, rI_len, List.length_append, List.length_map, List.length_set, List.length_replicate, List.length_cons, List.length_nil, Nat.zero_add, letterL_len, upL_len, pathL_len, setL_len, clearL_len]; done) | (simp only [rS_len, rI_len, List.length_append, List.length_map, List.length_set, List.length_replicate, List.length_cons, List.length_nil, letterL_len, upL_len, pathL_len, setL_len, clearL_len] at *; omega)) | rfl) mn)) (mc rfl mn)) rfl rfl (cover4_ct _ (by assumption) _ (by omega)) (backV_oI _ _ _) rfl (le_ rfl) rfl rfl ?_; refine O.call_ wd rfl rfl rfl rfl rfl (mc (by first | exact cl1 rfl (by first | rfl | assumption | (simp only [rS_len, rI_len, List.length_append, List.length_map, List.length_set, List.length_replicate, List.length_cons, List.length_nil, Nat.zero_add, letterL_len, upL_len, pathL_len, setL_len, clearL_len]; done) | (simp only [rS_len, rI_len, List.length_append, List.length_map, List.length_set, List.length_replicate, List.length_cons, List.length_nil, letterL_len, upL_len, pathL_len, setL_len, clearL_len] at *; omega)) | exact clT rfl (by assumption) | rfl) mn) rfl rfl (cloneI_ct _ (by assumption)) (backV_oI _ _ _) rfl (le_ rfl) rfl rfl ?_; refine O.assign wd rfl rfl (le_ rfl) ?_; refine RestO.nil ?_) | refine Rest.ifT (E := Ee) rfl rfl ?_ | refine Rest.ifF (E := Ee) rfl rfl ?_))
  exact Rest.ret (gives_fin rfl (gvO (by first | exact gv1 rfl (by first | rfl | assumption | (simp only [rS_len, rI_len, List.length_append, List.length_map, List.length_set, List.length_replicate, List.length_cons, List.length_nil, Nat.zero_add, letterL_len, upL_len, pathL_len, setL_len, clearL_len]; done) | (simp only [rS_len, rI_len, List.length_append, List.length_map, List.length_set, List.length_replicate, List.length_cons, List.length_nil, letterL_len, upL_len, pathL_len, setL_len, clearL_len] at *; omega)) | rfl)))
end Go.Proofs.YtfokmnafgabdiaaDoor.Eng
