/- Merged: Env, Shelf, N1, N2, V1, V2, V3, N3, N4, V4, V5, V6, V7, V8, V9, V10. -/
import Derived.Test.YtfokmnafgabdiaaGreatDoorEc
import Derived.Test.YtfokmnafgabdiaaGreatDoorRows
import Derived.ProofKit
import Derived.Shelf.Strconv.Atoi
import Derived.Shelf.Strconv.AtoiErr
import Derived.Ground.NamesProg
import Derived.Below
import Derived.Test.YtfokmnafgabdiaaGreatDoorProg
import Derived.Test.YtfokmnafgabdiaaGreatDoorEi
import Derived.Lib.AtoiErrMem
namespace Go.Proofs.YtfokmnafgabdiaaGreatDoor.Eng
open Go Go.RowKit
set_option maxRecDepth 100000
def tys : List (Nat × TI) := [
  (3, ⟨.int .i64, 1, 8, [.c (.lit (.int .i64 0))]⟩),
  (4, ⟨.bool, 1, 1, [.c (.lit (.bool false))]⟩),
  (5, ⟨.int .u8, 1, 1, [.c (.lit (.int .u8 0))]⟩),
  (9, ⟨.string, 1, 16, [.c (.lit (.string ByteArray.empty))]⟩),
  (22, ⟨.slice 5, 1, 24, [.nil 1]⟩),
  (23, ⟨.slice 9, 1, 24, [.nil 1]⟩),
  (25, ⟨.struct [(0, 23)], 1, 24, [.nil 1]⟩),
  (31, ⟨.slice 3, 1, 24, [.nil 1]⟩),
  (38, ⟨.slice 65, 1, 24, [.nil 2]⟩),
  (40, ⟨.struct [(0, 4), (1, 3), (2, 25), (3, 38), (4, 3), (5, 9), (6, 9)], 7, 104, [.c (.lit (.bool false)), .c (.lit (.int .i64 0)), .nil 1, .nil 2, .c (.lit (.int .i64 0)), .c (.lit (.string ByteArray.empty)), .c (.lit (.string ByteArray.empty))]⟩),
  (65, ⟨.struct [(0, 3), (1, 9)], 2, 24, [.c (.lit (.int .i64 0)), .c (.lit (.string ByteArray.empty))]⟩),
  (73, ⟨.struct [(0, 22), (1, 3)], 2, 32, [.nil 1, .c (.lit (.int .i64 0))]⟩),
  (78, ⟨.struct [(0, 3), (1, 3), (2, 3), (3, 9), (4, 9)], 5, 56, [.c (.lit (.int .i64 0)), .c (.lit (.int .i64 0)), .c (.lit (.int .i64 0)), .c (.lit (.string ByteArray.empty)), .c (.lit (.string ByteArray.empty))]⟩)]
def inls : List Nat := [28, 29, 30, 31, 38, 43, 57, 62, 63, 64, 91]
def Tb : Tables := { tys := tys, fns := [], given := [], inl := inls, ro := [], eqs := [] }
abbrev Ee : Env := envOf Tb
theorem env_ok : EnvOk Tryz.prog Ee := envOf_ok (by kernel_rfl) (fun p hp => by cases hp) rfl (by kernel_rfl)
theorem wd : Wd Tryz.prog Ee := ⟨env_ok, fun t h => by cases h⟩
end Go.Proofs.YtfokmnafgabdiaaGreatDoor.Eng
namespace Go.Proofs
set_option linter.unusedVariables false
open Go.Shelf
def Tryz.lays172_ren : Go.Shelf.Ren := ⟨fun | 172 => 98 | 244 => 102 | 245 => 103 | 247 => 104 | 279 => 105 | 280 => 106 | 281 => 107 | 282 => 108 | 287 => 109 | 316 => 110 | 171 => 112 | 205 => 111 | 321 => 113 | 322 => 114 | 243 => 115 | 246 => 116 | 283 => 117 | 284 => 118 | 285 => 119 | 286 => 120 | 129 => 122 | 317 => 121 | 318 => 123 | 319 => 124 | 320 => 125 | 337 => 126 | 338 => 127 | n => n, fun | 9 => 9 | 3 => 3 | 75 => 97 | 76 => 98 | 4 => 4 | 5 => 5 | 167 => 110 | 37 => 22 | 0 => 0 | 85 => 111 | 2 => 2 | 168 => 113 | 53 => 116 | 175 => 117 | 46 => 119 | 210 => 121 | 127 => 105 | 145 => 126 | 143 => 124 | 21 => 21 | 171 => 128 | 173 => 131 | 212 => 134 | 51 => 135 | 20 => 20 | 213 => 136 | 232 => 139 | 233 => 140 | 80 => 100 | n => n, fun | 15 => 1 | 16 => 2 | 17 => 3 | 18 => 4 | 19 => 5 | n => n⟩
theorem Tryz.lays172 : Go.Proofs.Lays.n172 Tryz.prog Tryz.lays172_ren := {
  mixed := by kernel_rfl
  f129 := Tryz.func122.trans (congrArg some (by kernel_rfl))
  f171 := Tryz.func112.trans (congrArg some (by kernel_rfl))
  f172 := Tryz.func98.trans (congrArg some (by kernel_rfl))
  f205 := Tryz.func111.trans (congrArg some (by kernel_rfl))
  f243 := Tryz.func115.trans (congrArg some (by kernel_rfl))
  f244 := Tryz.func102.trans (congrArg some (by kernel_rfl))
  f245 := Tryz.func103.trans (congrArg some (by kernel_rfl))
  f246 := Tryz.func116.trans (congrArg some (by kernel_rfl))
  f247 := Tryz.func104.trans (congrArg some (by kernel_rfl))
  f279 := Tryz.func105.trans (congrArg some (by kernel_rfl))
  f280 := Tryz.func106.trans (congrArg some (by kernel_rfl))
  f281 := Tryz.func107.trans (congrArg some (by kernel_rfl))
  f282 := Tryz.func108.trans (congrArg some (by kernel_rfl))
  f283 := Tryz.func117.trans (congrArg some (by kernel_rfl))
  f284 := Tryz.func118.trans (congrArg some (by kernel_rfl))
  f285 := Tryz.func119.trans (congrArg some (by kernel_rfl))
  f286 := Tryz.func120.trans (congrArg some (by kernel_rfl))
  f287 := Tryz.func109.trans (congrArg some (by kernel_rfl))
  f316 := Tryz.func110.trans (congrArg some (by kernel_rfl))
  f317 := Tryz.func121.trans (congrArg some (by kernel_rfl))
  f318 := Tryz.func123.trans (congrArg some (by kernel_rfl))
  f319 := Tryz.func124.trans (congrArg some (by kernel_rfl))
  f320 := Tryz.func125.trans (congrArg some (by kernel_rfl))
  f321 := Tryz.func113.trans (congrArg some (by kernel_rfl))
  f322 := Tryz.func114.trans (congrArg some (by kernel_rfl))
  f337 := Tryz.func126.trans (congrArg some (by kernel_rfl))
  f338 := Tryz.func127.trans (congrArg some (by kernel_rfl))
  t0 := Tryz.underlying0
  a0 := Tryz.isAgg0
  z0 := Tryz.sizeOf0
  v0 := Tryz.zeroValue0
  t2 := Tryz.underlying2
  a2 := Tryz.isAgg2
  z2 := Tryz.sizeOf2
  v2 := Tryz.zeroValue2
  t3 := Tryz.underlying3
  a3 := Tryz.isAgg3
  z3 := Tryz.sizeOf3
  v3 := Tryz.zeroValue3
  t4 := Tryz.underlying4
  a4 := Tryz.isAgg4
  z4 := Tryz.sizeOf4
  v4 := Tryz.zeroValue4
  t5 := Tryz.underlying5
  a5 := Tryz.isAgg5
  z5 := Tryz.sizeOf5
  v5 := Tryz.zeroValue5
  t9 := Tryz.underlying9
  a9 := Tryz.isAgg9
  z9 := Tryz.sizeOf9
  v9 := Tryz.zeroValue9
  t20 := Tryz.underlying20
  a20 := Tryz.isAgg20
  z20 := Tryz.sizeOf20
  v20 := Tryz.zeroValue20
  t21 := Tryz.underlying21
  a21 := Tryz.isAgg21
  z21 := Tryz.sizeOf21
  v21 := Tryz.zeroValue21
  t37 := Tryz.underlying22
  a37 := Tryz.isAgg22
  z37 := Tryz.sizeOf22
  v37 := Tryz.zeroValue22
  t46 := Tryz.underlying119
  a46 := Tryz.isAgg119
  z46 := Tryz.sizeOf119
  v46 := Tryz.zeroValue119
  t51 := Tryz.underlying135
  a51 := Tryz.isAgg135
  z51 := Tryz.sizeOf135
  v51 := Tryz.zeroValue135
  t53 := Tryz.underlying116
  a53 := Tryz.isAgg116
  z53 := Tryz.sizeOf116
  v53 := Tryz.zeroValue116
  t75 := Tryz.underlying97
  a75 := Tryz.isAgg97
  z75 := Tryz.sizeOf97
  v75 := Tryz.zeroValue97
  t76 := Tryz.underlying98
  a76 := Tryz.isAgg98
  z76 := Tryz.sizeOf98
  v76 := Tryz.zeroValue98
  t85 := Tryz.underlying111
  a85 := Tryz.isAgg111
  z85 := Tryz.sizeOf111
  v85 := Tryz.zeroValue111
  t127 := Tryz.underlying105
  a127 := Tryz.isAgg105
  z127 := Tryz.sizeOf105
  v127 := Tryz.zeroValue105
  t143 := Tryz.underlying124
  a143 := Tryz.isAgg124
  z143 := Tryz.sizeOf124
  v143 := Tryz.zeroValue124
  t145 := Tryz.underlying126
  a145 := Tryz.isAgg126
  z145 := Tryz.sizeOf126
  v145 := Tryz.zeroValue126
  t167 := Tryz.underlying110
  a167 := Tryz.isAgg110
  z167 := Tryz.sizeOf110
  v167 := Tryz.zeroValue110
  t168 := Tryz.underlying113
  a168 := Tryz.isAgg113
  z168 := Tryz.sizeOf113
  v168 := Tryz.zeroValue113
  t171 := Tryz.underlying128
  a171 := Tryz.isAgg128
  z171 := Tryz.sizeOf128
  v171 := Tryz.zeroValue128
  t173 := Tryz.underlying131
  a173 := Tryz.isAgg131
  z173 := Tryz.sizeOf131
  v173 := Tryz.zeroValue131
  t175 := Tryz.underlying117
  a175 := Tryz.isAgg117
  z175 := Tryz.sizeOf117
  v175 := Tryz.zeroValue117
  t210 := Tryz.underlying121
  a210 := Tryz.isAgg121
  z210 := Tryz.sizeOf121
  v210 := Tryz.zeroValue121
  t212 := Tryz.underlying134
  a212 := Tryz.isAgg134
  z212 := Tryz.sizeOf134
  v212 := Tryz.zeroValue134
  t213 := Tryz.underlying136
  a213 := Tryz.isAgg136
  z213 := Tryz.sizeOf136
  t232 := Tryz.underlying139
  a232 := Tryz.isAgg139
  z232 := Tryz.sizeOf139
  v232 := Tryz.zeroValue139
  t233 := Tryz.underlying140
  a233 := Tryz.isAgg140
  z233 := Tryz.sizeOf140
  v233 := Tryz.zeroValue140
  g15 := by kernel_rfl
  g16 := by kernel_rfl
  g17 := by kernel_rfl
  g18 := by kernel_rfl
  g19 := by kernel_rfl }
theorem Tryz.strconv_Atoi (s : ByteArray) (n : Int) (hl : s.size ≤ 18) (h : Lib.atoi s.data.toList = some n) (w : World) :
    Calls Tryz.prog 98 #[.string s] w fun e w' => e = .returned (.tuple #[.int .i64 n, .nilIface]) ∧ ∃ t, w' = Lib.bytesWorld w 5 t := Any.strconv_Atoi Tryz.lays172 s n hl h w
def Tryz.laysC172_ren : Go.Shelf.Ren := ⟨fun | 172 => 98 | 244 => 102 | 245 => 103 | 247 => 104 | 279 => 105 | 280 => 106 | 281 => 107 | 282 => 108 | 287 => 109 | 316 => 110 | 171 => 112 | 205 => 111 | 321 => 113 | 322 => 114 | 243 => 115 | 246 => 116 | 283 => 117 | 284 => 118 | 285 => 119 | 286 => 120 | 129 => 122 | 317 => 121 | 318 => 123 | 319 => 124 | 320 => 125 | 337 => 126 | 338 => 127 | n => n, fun | 9 => 9 | 3 => 3 | 75 => 97 | 76 => 98 | 4 => 4 | 5 => 5 | 167 => 110 | 37 => 22 | 0 => 0 | 85 => 111 | 2 => 2 | 168 => 113 | 53 => 116 | 175 => 117 | 46 => 119 | 210 => 121 | 127 => 105 | 145 => 126 | 143 => 124 | 21 => 21 | 171 => 128 | 173 => 131 | 212 => 134 | 51 => 135 | 20 => 20 | 213 => 136 | 232 => 139 | 233 => 140 | 80 => 100 | n => n, fun | 15 => 1 | 16 => 2 | 17 => 3 | 18 => 4 | 19 => 5 | n => n⟩
theorem Tryz.laysC172 : Go.Proofs.LaysC.n172 Tryz.prog Tryz.laysC172_ren := {
  mixed := by kernel_rfl
  f129 := Tryz.func122.trans (congrArg some (by kernel_rfl))
  f171 := Tryz.func112.trans (congrArg some (by kernel_rfl))
  f172 := Tryz.func98.trans (congrArg some (by kernel_rfl))
  f205 := Tryz.func111.trans (congrArg some (by kernel_rfl))
  f243 := Tryz.func115.trans (congrArg some (by kernel_rfl))
  f244 := Tryz.func102.trans (congrArg some (by kernel_rfl))
  f245 := Tryz.func103.trans (congrArg some (by kernel_rfl))
  f246 := Tryz.func116.trans (congrArg some (by kernel_rfl))
  f247 := Tryz.func104.trans (congrArg some (by kernel_rfl))
  f279 := Tryz.func105.trans (congrArg some (by kernel_rfl))
  f280 := Tryz.func106.trans (congrArg some (by kernel_rfl))
  f281 := Tryz.func107.trans (congrArg some (by kernel_rfl))
  f282 := Tryz.func108.trans (congrArg some (by kernel_rfl))
  f283 := Tryz.func117.trans (congrArg some (by kernel_rfl))
  f284 := Tryz.func118.trans (congrArg some (by kernel_rfl))
  f285 := Tryz.func119.trans (congrArg some (by kernel_rfl))
  f286 := Tryz.func120.trans (congrArg some (by kernel_rfl))
  f287 := Tryz.func109.trans (congrArg some (by kernel_rfl))
  f316 := Tryz.func110.trans (congrArg some (by kernel_rfl))
  f317 := Tryz.func121.trans (congrArg some (by kernel_rfl))
  f318 := Tryz.func123.trans (congrArg some (by kernel_rfl))
  f319 := Tryz.func124.trans (congrArg some (by kernel_rfl))
  f320 := Tryz.func125.trans (congrArg some (by kernel_rfl))
  f321 := Tryz.func113.trans (congrArg some (by kernel_rfl))
  f322 := Tryz.func114.trans (congrArg some (by kernel_rfl))
  f337 := Tryz.func126.trans (congrArg some (by kernel_rfl))
  f338 := Tryz.func127.trans (congrArg some (by kernel_rfl))
  t0 := Tryz.underlying0
  a0 := Tryz.isAgg0
  z0 := Tryz.sizeOf0
  v0 := Tryz.zeroValue0
  t2 := Tryz.underlying2
  a2 := Tryz.isAgg2
  z2 := Tryz.sizeOf2
  v2 := Tryz.zeroValue2
  t3 := Tryz.underlying3
  a3 := Tryz.isAgg3
  z3 := Tryz.sizeOf3
  v3 := Tryz.zeroValue3
  t4 := Tryz.underlying4
  a4 := Tryz.isAgg4
  z4 := Tryz.sizeOf4
  v4 := Tryz.zeroValue4
  t5 := Tryz.underlying5
  a5 := Tryz.isAgg5
  z5 := Tryz.sizeOf5
  v5 := Tryz.zeroValue5
  t9 := Tryz.underlying9
  a9 := Tryz.isAgg9
  z9 := Tryz.sizeOf9
  v9 := Tryz.zeroValue9
  t20 := Tryz.underlying20
  a20 := Tryz.isAgg20
  z20 := Tryz.sizeOf20
  v20 := Tryz.zeroValue20
  t21 := Tryz.underlying21
  a21 := Tryz.isAgg21
  z21 := Tryz.sizeOf21
  v21 := Tryz.zeroValue21
  t37 := Tryz.underlying22
  a37 := Tryz.isAgg22
  z37 := Tryz.sizeOf22
  v37 := Tryz.zeroValue22
  t46 := Tryz.underlying119
  a46 := Tryz.isAgg119
  z46 := Tryz.sizeOf119
  v46 := Tryz.zeroValue119
  t51 := Tryz.underlying135
  a51 := Tryz.isAgg135
  z51 := Tryz.sizeOf135
  v51 := Tryz.zeroValue135
  t53 := Tryz.underlying116
  a53 := Tryz.isAgg116
  z53 := Tryz.sizeOf116
  v53 := Tryz.zeroValue116
  t75 := Tryz.underlying97
  a75 := Tryz.isAgg97
  z75 := Tryz.sizeOf97
  v75 := Tryz.zeroValue97
  t76 := Tryz.underlying98
  a76 := Tryz.isAgg98
  z76 := Tryz.sizeOf98
  v76 := Tryz.zeroValue98
  t85 := Tryz.underlying111
  a85 := Tryz.isAgg111
  z85 := Tryz.sizeOf111
  v85 := Tryz.zeroValue111
  t127 := Tryz.underlying105
  a127 := Tryz.isAgg105
  z127 := Tryz.sizeOf105
  v127 := Tryz.zeroValue105
  t143 := Tryz.underlying124
  a143 := Tryz.isAgg124
  z143 := Tryz.sizeOf124
  v143 := Tryz.zeroValue124
  t145 := Tryz.underlying126
  a145 := Tryz.isAgg126
  z145 := Tryz.sizeOf126
  v145 := Tryz.zeroValue126
  t167 := Tryz.underlying110
  a167 := Tryz.isAgg110
  z167 := Tryz.sizeOf110
  v167 := Tryz.zeroValue110
  t168 := Tryz.underlying113
  a168 := Tryz.isAgg113
  z168 := Tryz.sizeOf113
  v168 := Tryz.zeroValue113
  t171 := Tryz.underlying128
  a171 := Tryz.isAgg128
  z171 := Tryz.sizeOf128
  v171 := Tryz.zeroValue128
  t173 := Tryz.underlying131
  a173 := Tryz.isAgg131
  z173 := Tryz.sizeOf131
  v173 := Tryz.zeroValue131
  t175 := Tryz.underlying117
  a175 := Tryz.isAgg117
  z175 := Tryz.sizeOf117
  v175 := Tryz.zeroValue117
  t210 := Tryz.underlying121
  a210 := Tryz.isAgg121
  z210 := Tryz.sizeOf121
  v210 := Tryz.zeroValue121
  t212 := Tryz.underlying134
  a212 := Tryz.isAgg134
  z212 := Tryz.sizeOf134
  v212 := Tryz.zeroValue134
  t213 := Tryz.underlying136
  a213 := Tryz.isAgg136
  z213 := Tryz.sizeOf136
  t232 := Tryz.underlying139
  a232 := Tryz.isAgg139
  z232 := Tryz.sizeOf139
  v232 := Tryz.zeroValue139
  t233 := Tryz.underlying140
  a233 := Tryz.isAgg140
  z233 := Tryz.sizeOf140
  v233 := Tryz.zeroValue140
  g15 := by kernel_rfl
  g16 := by kernel_rfl
  g17 := by kernel_rfl
  g18 := by kernel_rfl
  g19 := by kernel_rfl
  t80 := Tryz.underlying100
  a80 := Tryz.isAgg100
  z80 := Tryz.sizeOf100
  v80 := Tryz.zeroValue100
  i0 := by kernel_rfl
  i2 := by kernel_rfl
  i3 := by kernel_rfl
  i4 := by kernel_rfl
  i5 := by kernel_rfl
  i9 := by kernel_rfl
  i20 := by kernel_rfl
  i21 := by kernel_rfl
  i37 := by kernel_rfl
  i46 := by kernel_rfl
  i51 := by kernel_rfl
  i53 := by kernel_rfl
  i75 := by kernel_rfl
  i76 := by kernel_rfl
  i80 := by kernel_rfl
  i85 := by kernel_rfl
  i127 := by kernel_rfl
  i143 := by kernel_rfl
  i145 := by kernel_rfl
  i167 := by kernel_rfl
  i168 := by kernel_rfl
  i171 := by kernel_rfl
  i173 := by kernel_rfl
  i175 := by kernel_rfl
  i210 := by kernel_rfl
  i212 := by kernel_rfl
  i232 := by kernel_rfl
  i233 := by kernel_rfl
  m15 := by kernel_rfl
  m16 := by kernel_rfl
  m17 := by kernel_rfl
  m18 := by kernel_rfl
  m19 := by kernel_rfl
  c0 := by kernel_rfl
  c2 := by kernel_rfl
  c3 := by kernel_rfl
  c4 := by kernel_rfl
  c5 := by kernel_rfl
  c9 := by kernel_rfl
  c20 := by kernel_rfl
  c21 := by kernel_rfl
  c37 := by kernel_rfl
  c46 := by kernel_rfl
  c51 := by kernel_rfl
  c53 := by kernel_rfl
  c75 := by kernel_rfl
  c76 := by kernel_rfl
  c80 := by kernel_rfl
  c85 := by kernel_rfl
  c127 := by kernel_rfl
  c143 := by kernel_rfl
  c145 := by kernel_rfl
  c167 := by kernel_rfl
  c168 := by kernel_rfl
  c171 := by kernel_rfl
  c173 := by kernel_rfl
  c175 := by kernel_rfl
  c210 := by kernel_rfl
  c212 := by kernel_rfl
  c213 := by kernel_rfl
  c232 := by kernel_rfl
  c233 := by kernel_rfl }
theorem Tryz.strconv_Atoi_err (s : ByteArray) (hl : s.size ≤ 18) (h : Lib.atoi s.data.toList = none) (ev : Value) (w : World) (hv : w.cell? ⟨1, 0, none⟩ = some ev) (hev : ev = .nilIface ∨ ∃ te pe, ev = .iface te pe) :
    Calls Tryz.prog 98 #[.string s] w fun e w' => ∃ te ve, e = .returned (.tuple #[.int .i64 0, .iface te ve]) ∧ RowKit.Below w.heap.size w w' :=
  (Any.strconv_Atoi_err Tryz.laysC172 s hl h ev w hv hev).mono fun e w' ⟨N, h1, _, _, h4⟩ => ⟨_, _, h1, h4⟩
end Go.Proofs
namespace Go.Proofs.YtfokmnafgabdiaaGreatDoor.Kw
abbrev Str := List UInt8
structure How where
  op : Int
  who : Int
  n : Int
  a : Str
  b : Str
  deriving DecidableEq
def how0 : How := ⟨0, 0, 0, [], []⟩
def dig (b : UInt8) : Bool := decide (48 ≤ (b.toNat : Int) ∧ (b.toNat : Int) ≤ 57)
def numOf : Str → Int × Str
  | a :: b :: t => if dig b = true then (((a.toNat : Int) - 48) * 10 + (b.toNat - 48), t) else ((a.toNat : Int) - 48, b :: t)
  | [a] => ((a.toNat : Int) - 48, [])
  | [] => (0, [])
def ahead (t r : Str) : Str := t.take ((t.length : Int) - (r.length : Int)).toNat
def nameF : Nat → Str → Option (How × Str)
  | 0, _ => none
  | _ + 1, [] => none
  | k + 1, c :: t =>
    if 65 ≤ (c.toNat : Int) ∧ (c.toNat : Int) ≤ 72 then
      match t with
      | d :: t' => if dig d = true ∧ (d.toNat : Int) ≠ 48 then
          match (numOf (d :: t')).2 with
          | e :: r => if e = 59 then some (⟨1, (c.toNat : Int) - 65, (numOf (d :: t')).1, [], []⟩, r) else none
          | [] => none
        else none
      | [] => none
    else if c = 110 then match nameF k t with
      | some (_, r) => some (⟨2, 0, 0, ahead t r, []⟩, r)
      | none => none
    else if c = 107 then match nameF k t with
      | some (_, r) => some (⟨3, 0, 0, ahead t r, []⟩, r)
      | none => none
    else if c = 101 then match nameF k t with
      | some (_, r) => match nameF k r with
        | some (_, r2) => some (⟨4, 0, 0, ahead t r, ahead r r2⟩, r2)
        | none => none
      | none => none
    else if c = 109 then match t with
      | d :: t' => if 65 ≤ (d.toNat : Int) ∧ (d.toNat : Int) ≤ 72 then match nameF k t' with
          | some (_, r) => some (⟨5, (d.toNat : Int) - 65, 0, ahead t' r, []⟩, r)
          | none => none
        else none
      | [] => none
    else if c = 114 then match t with
      | d :: t' => if 49 ≤ (d.toNat : Int) ∧ (d.toNat : Int) ≤ 57 then match nameF k t' with
          | some (_, r) => some (⟨6, 0, (d.toNat : Int) - 48, ahead t' r, []⟩, r)
          | none => none
        else none
      | [] => none
    else none
theorem numOf_len (d : UInt8) (t : Str) : (numOf (d :: t)).2.length ≤ t.length := by
  cases t with
  | nil => simp [numOf]
  | cons b t =>
    simp only [numOf]
    split <;> simp
theorem nameF_len : ∀ {k : Nat} {s r : Str} {h : How}, nameF k s = some (h, r) → r.length < s.length
  | 0, s, r, h, e => by cases e
  | k + 1, [], r, h, e => by cases e
  | k + 1, c :: t, r, h, e => by
    simp only [nameF] at e
    split at e
    · split at e
      · rename_i d t'
        split at e
        · split at e
          · rename_i x y hq
            split at e
            · have := numOf_len d t'
              rw [hq] at this
              simp only [Option.some.injEq, Prod.mk.injEq] at e
              obtain ⟨_, rfl⟩ := e
              simp at this ⊢; omega
            · cases e
          · cases e
        · cases e
      · cases e
    · split at e
      · split at e
        · rename_i hh r' hq
          have := nameF_len hq
          simp only [Option.some.injEq, Prod.mk.injEq] at e
          obtain ⟨_, rfl⟩ := e
          simp; omega
        · cases e
      · split at e
        · split at e
          · rename_i hh r' hq
            have := nameF_len hq
            simp only [Option.some.injEq, Prod.mk.injEq] at e
            obtain ⟨_, rfl⟩ := e
            simp; omega
          · cases e
        · split at e
          · split at e
            · rename_i hh r' hq
              have h1 := nameF_len hq
              split at e
              · rename_i h2 r2 hq2
                have h2 := nameF_len hq2
                simp only [Option.some.injEq, Prod.mk.injEq] at e
                obtain ⟨_, rfl⟩ := e
                simp; omega
              · cases e
            · cases e
          · split at e
            · split at e
              · split at e
                · split at e
                  · rename_i hh r' hq
                    have := nameF_len hq
                    simp only [Option.some.injEq, Prod.mk.injEq] at e
                    obtain ⟨_, rfl⟩ := e
                    simp; omega
                  · cases e
                · cases e
              · cases e
            · split at e
              · split at e
                · split at e
                  · split at e
                    · rename_i hh r' hq
                      have := nameF_len hq
                      simp only [Option.some.injEq, Prod.mk.injEq] at e
                      obtain ⟨_, rfl⟩ := e
                      simp; omega
                    · cases e
                  · cases e
                · cases e
              · cases e
end Go.Proofs.YtfokmnafgabdiaaGreatDoor.Kw
namespace Go.Proofs.YtfokmnafgabdiaaGreatDoor.Kw
theorem nameF_fuel : ∀ (n : Nat) (s : Str) (k : Nat), s.length ≤ n → s.length < k → nameF k s = nameF (n + 1) s := by
  intro n
  induction n with
  | zero =>
    intro s k h1 h2
    cases s with
    | nil => cases k with
      | zero => simp at h2
      | succ k => rfl
    | cons c t => simp at h1
  | succ n ih =>
    intro s k h1 h2
    cases s with
    | nil => cases k with
      | zero => simp at h2
      | succ k => rfl
    | cons c t =>
      cases k with
      | zero => simp at h2
      | succ k =>
        simp only [List.length_cons] at h1 h2
        have e1 := ih t k (by omega) (by omega)
        have e3 : (match nameF (n + 1) t with
            | some (_, r) => match nameF k r with
              | some (_, r2) => some (⟨4, 0, 0, ahead t r, ahead r r2⟩, r2)
              | none => none
            | none => none) = (match nameF (n + 1) t with
            | some (_, r) => match nameF (n + 1) r with
              | some (_, r2) => some ((⟨4, 0, 0, ahead t r, ahead r r2⟩ : How), r2)
              | none => none
            | none => none) := by
          cases hq : nameF (n + 1) t with
          | none => rfl
          | some p =>
            obtain ⟨h, r⟩ := p
            have := nameF_len hq
            simp only
            rw [ih r k (by omega) (by omega)]
        cases t with
        | nil =>
          rw [nameF, nameF, e1]
          by_cases c1 : 65 ≤ (c.toNat : Int) ∧ (c.toNat : Int) ≤ 72
          · rw [if_pos c1, if_pos c1]
          rw [if_neg c1, if_neg c1]
          by_cases c2 : c = 110
          · rw [if_pos c2, if_pos c2]
          rw [if_neg c2, if_neg c2]
          by_cases c3 : c = 107
          · rw [if_pos c3, if_pos c3]
          rw [if_neg c3, if_neg c3]
          by_cases c4 : c = 101
          · rw [if_pos c4, if_pos c4]; exact e3
          rw [if_neg c4, if_neg c4]
        | cons d t =>
          simp only [List.length_cons] at h1 h2
          have e2 := ih t k (by omega) (by omega)
          rw [nameF, nameF, e1]
          by_cases c1 : 65 ≤ (c.toNat : Int) ∧ (c.toNat : Int) ≤ 72
          · rw [if_pos c1, if_pos c1]
          rw [if_neg c1, if_neg c1]
          by_cases c2 : c = 110
          · rw [if_pos c2, if_pos c2]
          rw [if_neg c2, if_neg c2]
          by_cases c3 : c = 107
          · rw [if_pos c3, if_pos c3]
          rw [if_neg c3, if_neg c3]
          by_cases c4 : c = 101
          · rw [if_pos c4, if_pos c4]; exact e3
          rw [if_neg c4, if_neg c4]
          rw [e2]
def nameT (s : Str) : Option (How × Str) := nameF (s.length + 1) s
theorem nameT_of {k : Nat} {s : Str} (h : s.length < k) : nameF k s = nameT s := nameF_fuel _ _ _ (Nat.le_refl _) h
theorem nameT_len {s r : Str} {h : How} (e : nameT s = some (h, r)) : r.length < s.length := nameF_len e
theorem nameT_eq (c : UInt8) (t : Str) : nameT (c :: t) = nameF (t.length + 1 + 1) (c :: t) := rfl
theorem nameT_new (c : UInt8) (t : Str) (hc : 65 ≤ (c.toNat : Int) ∧ (c.toNat : Int) ≤ 72) : nameT (c :: t) = (match t with
      | d :: t' => if dig d = true ∧ (d.toNat : Int) ≠ 48 then
          match (numOf (d :: t')).2 with
          | e :: r => if e = 59 then some (⟨1, (c.toNat : Int) - 65, (numOf (d :: t')).1, [], []⟩, r) else none
          | [] => none
        else none
      | [] => none) := by
  cases t <;> (rw [nameT_eq, nameF, if_pos hc]; first | done | rfl)
theorem nameT_up (t : Str) : nameT (110 :: t) = (match nameT t with | some (_, r) => some (⟨2, 0, 0, ahead t r, []⟩, r) | none => none) := by
  cases t <;> (rw [nameT_eq, nameF, if_neg (by decide), if_pos rfl]; rfl)
theorem nameT_key (t : Str) : nameT (107 :: t) = (match nameT t with | some (_, r) => some (⟨3, 0, 0, ahead t r, []⟩, r) | none => none) := by
  cases t <;> (rw [nameT_eq, nameF, if_neg (by decide), if_neg (by decide), if_pos rfl]; rfl)
theorem nameT_two (t : Str) : nameT (101 :: t) = (match nameT t with | some (_, r) => (match nameT r with | some (_, r2) => some (⟨4, 0, 0, ahead t r, ahead r r2⟩, r2) | none => none) | none => none) := by
  have e : nameT (101 :: t) = (match nameT t with | some (_, r) => (match nameF (t.length + 1) r with | some (_, r2) => some (⟨4, 0, 0, ahead t r, ahead r r2⟩, r2) | none => none) | none => none) := by
    cases t <;> (rw [nameT_eq, nameF, if_neg (by decide), if_neg (by decide), if_neg (by decide), if_pos rfl]; rfl)
  rw [e]
  cases hq : nameT t with
  | none => rfl
  | some p =>
    obtain ⟨h, r⟩ := p
    have := nameT_len hq
    simp only
    rw [nameT_of (s := r) (by omega)]
theorem nameT_say (d : UInt8) (t : Str) : nameT (109 :: d :: t) = (if 65 ≤ (d.toNat : Int) ∧ (d.toNat : Int) ≤ 72 then (match nameT t with | some (_, r) => some (⟨5, (d.toNat : Int) - 65, 0, ahead t r, []⟩, r) | none => none) else none) := by
  rw [nameT_eq, nameF, if_neg (by decide), if_neg (by decide), if_neg (by decide), if_neg (by decide), if_pos rfl]
  rw [nameT_of (s := t) (by first | (simp; done) | (simp; omega))]; try rfl
theorem nameT_room (d : UInt8) (t : Str) : nameT (114 :: d :: t) = (if 49 ≤ (d.toNat : Int) ∧ (d.toNat : Int) ≤ 57 then (match nameT t with | some (_, r) => some (⟨6, 0, (d.toNat : Int) - 48, ahead t r, []⟩, r) | none => none) else none) := by
  rw [nameT_eq, nameF, if_neg (by decide), if_neg (by decide), if_neg (by decide), if_neg (by decide), if_neg (by decide), if_pos rfl]
  rw [nameT_of (s := t) (by first | (simp; done) | (simp; omega))]; try rfl
theorem nameT_no (c : UInt8) (t : Str) (h0 : ¬ (65 ≤ (c.toNat : Int) ∧ (c.toNat : Int) ≤ 72)) (h1 : c ≠ 110) (h2 : c ≠ 107) (h3 : c ≠ 101) (h4 : c ≠ 109) (h5 : c ≠ 114) : nameT (c :: t) = none := by
  cases t <;> rw [nameT_eq, nameF, if_neg h0, if_neg h1, if_neg h2, if_neg h3, if_neg h4, if_neg h5]
def madeL (s : Str) : How := if s.length > 300 then how0 else match nameT s with
  | some (h, []) => h
  | _ => how0
end Go.Proofs.YtfokmnafgabdiaaGreatDoor.Kw
namespace Go.Proofs.YtfokmnafgabdiaaGreatDoor.Eng
open Go Go.RowKit
set_option linter.unusedVariables false
set_option linter.unusedSimpArgs false
set_option maxRecDepth 10000
attribute [local irreducible] Ct HCt
set_option maxHeartbeats 1000000
theorem rS_snoc (l : List (List UInt8)) (s : List UInt8) : rS l ++ [[.lit (.string (mk s))]] = rS (l ++ [s]) := by simp [rS]
theorem rI_snoc (l : List Int) (s : Int) : rI l ++ [[.lit (.int .i64 s)]] = rI (l ++ [s]) := by simp [rI]
theorem rS_rep (n : Nat) : List.replicate n [C.lit (.string ByteArray.empty)] = rS (List.replicate n []) := by simp [rS]; exact Or.inr rfl
theorem rS_getD {l : List (List UInt8)} {i : Nat} (h : i < l.length) : (rS l)[i]? = some [.lit (.string (mk (l.getD i [])))] := rS_get (by simp [List.getD, List.getElem?_eq_getElem h])
theorem drop1_cons {α : Type} (c : α) (t : List α) : List.drop (Int.toNat 1) (c :: t) = t := rfl
theorem bB_eq {a b : Bool} (h : a = b) : BV.w (.one (.b (.c (.lit (.bool a))))) = BV.w (bB b) := by rw [h]
abbrev oneB (n : Int) : Bool := decide (0 ≤ n ∧ n ≤ 7)
abbrev nodeB (n : Int) : Bool := decide (0 ≤ n ∧ n ≤ 14)
theorem in_ct (n lo hi : Int) : Ct Tryz.prog 50 [bI n, bI lo, bI hi] (.w (bB (decide (lo ≤ n ∧ n ≤ hi)))) := by
  refine Ct.z wd Tryz.func50 rfl rfl Tryz.ntmps50 rfl rfl rfl rfl ?_
  repeat' ((conv => whnf); (first | (refine hK _ _ _ ?_; clear hK K) | (show Z _ _ _ _ _ _ _ _; first | refine Z.reg wd (fun K hK => ?_) | refine Z.seq ?_ | refine Z.ret rfl ?_) | (show IfB _ _ _; first | refine IfB.T rfl ?_ | refine IfB.F rfl ?_ | refine IfB.D (fun h => ?_) (fun h => ?_)) | refine EqB.mk ?_))
  all_goals exact bB_eq (by simp; omega)
theorem leaf_ct (who : Int) (h : 0 ≤ who ∧ who ≤ 7) : Ct Tryz.prog 41 [bI who] (.w (bI (7 + who))) := by
  refine Ct.z wd Tryz.func41 rfl rfl Tryz.ntmps41 rfl rfl rfl rfl ?_
  repeat' ((conv => whnf); (first | (refine hK _ _ _ ?_; clear hK K) | (show Z _ _ _ _ _ _ _ _; first | refine Z.reg wd (fun K hK => ?_) | refine Z.seq ?_ | refine Z.ret rfl ?_) | (show Need _ _; first | refine Need.mk (by first | omega | (simp only [strMost, mostRows, rS_len, rI_len, List.length_append, List.length_map, List.length_set, List.length_replicate, List.length_cons, List.length_nil, List.length_drop, List.length_take]; done) | (simp only [strMost, mostRows, rS_len, rI_len, List.length_append, List.length_map, List.length_set, List.length_replicate, List.length_cons, List.length_nil, List.length_drop, List.length_take] at *; omega) | (simp at *; omega) | fail) ?_) | exact EqB.mk rfl))
theorem isOne_ct (who : Int) : Ct Tryz.prog 32 [bI who] (.w (bB (oneB who))) := by
  refine Ct.z wd Tryz.func32 rfl rfl Tryz.ntmps32 rfl rfl rfl rfl ?_
  repeat' ((conv => whnf); (first | (refine hK _ _ _ ?_; clear hK K) | (show Z _ _ _ _ _ _ _ _; first | refine Z.reg wd (fun K hK => ?_) | refine Z.seq ?_ | refine Z.ret rfl ?_) | (show CallW _ _ _ _; first | refine CallW.mk _ (in_ct _ _ _) ?_) | exact EqB.mk rfl))
theorem isNode_ct (n : Int) : Ct Tryz.prog 42 [bI n] (.w (bB (nodeB n))) := by
  refine Ct.z wd Tryz.func42 rfl rfl Tryz.ntmps42 rfl rfl rfl rfl ?_
  repeat' ((conv => whnf); (first | (refine hK _ _ _ ?_; clear hK K) | (show Z _ _ _ _ _ _ _ _; first | refine Z.reg wd (fun K hK => ?_) | refine Z.seq ?_ | refine Z.ret rfl ?_) | (show CallW _ _ _ _; first | refine CallW.mk _ (in_ct _ _ _) ?_) | exact EqB.mk rfl))
def leafOr (who : Int) : Int := if 0 ≤ who ∧ who ≤ 7 then 7 + who else -1
theorem treLeaf_ct (who : Int) : Ct Tryz.prog 12 [bI who] (.w (bI (leafOr who))) := by
  refine Ct.z wd Tryz.func12 rfl rfl Tryz.ntmps12 rfl rfl rfl rfl ?_
  repeat' ((conv => whnf); (first | (refine hK _ _ _ ?_; clear hK K) | (show Z _ _ _ _ _ _ _ _; first | refine Z.reg wd (fun K hK => ?_) | refine Z.seq ?_ | refine Z.skip ?_ | refine Z.cond (E := Ee) ?_ | refine Z.ret rfl ?_) | (show IfB _ _ _; first | refine IfB.N ?_ | refine IfB.D (fun h => ?_) (fun h => ?_)) | (show CallW _ _ _ _; first | refine CallW.mk _ (isOne_ct _) ?_ | refine CallW.mk _ (leaf_ct _ (by omega)) ?_) | refine EqB.mk ?_))
  · rw [leafOr, if_pos h]
  · rw [leafOr, if_neg h]
theorem l1In_ct (n lo hi : Int) : Ct Tryz.prog 36 [bI n, bI lo, bI hi] (.w (bB (decide (lo ≤ n ∧ n ≤ hi)))) := by
  refine Ct.z wd Tryz.func36 rfl rfl Tryz.ntmps36 rfl rfl rfl rfl ?_
  repeat' ((conv => whnf); (first | (refine hK _ _ _ ?_; clear hK K) | (show Z _ _ _ _ _ _ _ _; first | refine Z.reg wd (fun K hK => ?_) | refine Z.seq ?_ | refine Z.ret rfl ?_) | (show IfB _ _ _; first | refine IfB.T rfl ?_ | refine IfB.F rfl ?_ | refine IfB.D (fun h => ?_) (fun h => ?_)) | refine EqB.mk ?_))
  all_goals exact bB_eq (by simp; omega)
theorem sTreLeaf_ct (who : Int) : Ct Tryz.prog 49 [bI who] (.w (bI (leafOr who))) := by
  refine Ct.z wd Tryz.func49 rfl rfl Tryz.ntmps49 rfl rfl rfl rfl ?_
  repeat' ((conv => whnf); (first | (refine hK _ _ _ ?_; clear hK K) | (show Z _ _ _ _ _ _ _ _; first | refine Z.reg wd (fun K hK => ?_) | refine Z.seq ?_ | refine Z.skip ?_ | refine Z.cond (E := Ee) ?_ | refine Z.ret rfl ?_) | (show IfB _ _ _; first | refine IfB.N ?_ | refine IfB.D (fun h => ?_) (fun h => ?_)) | (show Need _ _; first | refine Need.mk (by first | omega | (simp only [strMost, mostRows, rS_len, rI_len, List.length_append, List.length_map, List.length_set, List.length_replicate, List.length_cons, List.length_nil, List.length_drop, List.length_take]; done) | (simp only [strMost, mostRows, rS_len, rI_len, List.length_append, List.length_map, List.length_set, List.length_replicate, List.length_cons, List.length_nil, List.length_drop, List.length_take] at *; omega) | (simp at *; omega) | fail) ?_) | (show CallW _ _ _ _; first | refine CallW.mk _ (l1In_ct _ _ _) ?_) | refine EqB.mk ?_))
  · rw [leafOr, if_pos h]
  · rw [leafOr, if_neg h]
end Go.Proofs.YtfokmnafgabdiaaGreatDoor.Eng
namespace Go.Proofs.YtfokmnafgabdiaaGreatDoor.Eng
open Go Go.RowKit
set_option linter.unusedVariables false
set_option linter.unusedSimpArgs false
theorem iClone_ct (rows : List (List C)) (h : rows.length ≤ mostRows) : Ct Tryz.prog 75 [.one (.b (.c (.ro 1 rows)))] (.w (.one (.b (.own 1 rows none)))) := by
  refine Ct.enter wd Tryz.func75 rfl rfl Tryz.ntmps75 rfl rfl rfl rfl ?_
  (repeat (first | refine Rest.seq ?_ | refine Rest.skip ?_ | refine Rest.block ?_ | refine Rest.blockEnd ?_ | refine Rest.exit rfl ?_ | refine Rest.again ?_ | (refine Rest.region (id := 0) ?_; refine O.assign wd rfl rfl (le_ rfl) ?_; refine RestO.nil ?_) | refine Rest.ifT (E := Ee) rfl rfl ?_ | refine Rest.ifF (E := Ee) rfl rfl ?_))
  refine Rest.region (O.move wd rfl rfl (le_ rfl) ?_)
  refine O.isNil (E := Ee) Tryz.underlying31 rfl rfl rfl fun b hb => RestO.nil ?_
  cases b with
  | true =>
    have e := hb rfl
    subst e
    (repeat (first | refine Rest.seq ?_ | refine Rest.skip ?_ | refine Rest.block ?_ | refine Rest.blockEnd ?_ | refine Rest.exit rfl ?_ | refine Rest.again ?_ | (refine Rest.region (id := 2) ?_; refine O.assign wd rfl rfl (le_ rfl) ?_; refine RestO.nil ?_) | refine Rest.ifT (E := Ee) rfl rfl ?_ | refine Rest.ifF (E := Ee) rfl rfl ?_))
    exact Rest.ret (gives_fin rfl (gvO (by first | exact gv1 rfl (by first | rfl | assumption | (simp only [rS_len, rI_len, List.length_append, List.length_map, List.length_set, List.length_replicate, List.length_cons, List.length_nil, Nat.zero_add]; done) | (simp only [rS_len, rI_len, List.length_append, List.length_map, List.length_set, List.length_replicate, List.length_cons, List.length_nil] at *; omega)) | rfl)))
  | false =>
    (repeat (first | refine Rest.seq ?_ | refine Rest.skip ?_ | refine Rest.block ?_ | refine Rest.blockEnd ?_ | refine Rest.exit rfl ?_ | refine Rest.again ?_ | refine Rest.ifT (E := Ee) rfl rfl ?_ | refine Rest.ifF (E := Ee) rfl rfl ?_))
    refine Rest.region (O.slice0 wd rfl rfl rfl rfl (le_ rfl) (O.move wd rfl rfl (le_ rfl) ?_))
    refine O.app (hl2 := []) wd rfl rfl rfl rfl rfl rfl rfl rfl rfl rfl rfl rfl (by omega) rfl (le_ rfl) ?_
    refine O.assign wd rfl rfl (le_ rfl) (RestO.nil ?_)
    exact Rest.ret (gives_fin rfl (gvO (gv1 rfl (by simp))))
theorem sClone_ct (rows : List (List C)) (h : rows.length ≤ mostRows) : Ct Tryz.prog 92 [.one (.b (.c (.ro 1 rows)))] (.w (.one (.b (.own 1 rows none)))) := by
  refine Ct.enter wd Tryz.func92 rfl rfl Tryz.ntmps92 rfl rfl rfl rfl ?_
  (repeat (first | refine Rest.seq ?_ | refine Rest.skip ?_ | refine Rest.block ?_ | refine Rest.blockEnd ?_ | refine Rest.exit rfl ?_ | refine Rest.again ?_ | (refine Rest.region (id := 0) ?_; refine O.assign wd rfl rfl (le_ rfl) ?_; refine RestO.nil ?_) | refine Rest.ifT (E := Ee) rfl rfl ?_ | refine Rest.ifF (E := Ee) rfl rfl ?_))
  refine Rest.region (O.move wd rfl rfl (le_ rfl) ?_)
  refine O.isNil (E := Ee) Tryz.underlying23 rfl rfl rfl fun b hb => RestO.nil ?_
  cases b with
  | true =>
    have e := hb rfl
    subst e
    (repeat (first | refine Rest.seq ?_ | refine Rest.skip ?_ | refine Rest.block ?_ | refine Rest.blockEnd ?_ | refine Rest.exit rfl ?_ | refine Rest.again ?_ | (refine Rest.region (id := 2) ?_; refine O.assign wd rfl rfl (le_ rfl) ?_; refine RestO.nil ?_) | refine Rest.ifT (E := Ee) rfl rfl ?_ | refine Rest.ifF (E := Ee) rfl rfl ?_))
    exact Rest.ret (gives_fin rfl (gvO (by first | exact gv1 rfl (by first | rfl | assumption | (simp only [rS_len, rI_len, List.length_append, List.length_map, List.length_set, List.length_replicate, List.length_cons, List.length_nil, Nat.zero_add]; done) | (simp only [rS_len, rI_len, List.length_append, List.length_map, List.length_set, List.length_replicate, List.length_cons, List.length_nil] at *; omega)) | rfl)))
  | false =>
    (repeat (first | refine Rest.seq ?_ | refine Rest.skip ?_ | refine Rest.block ?_ | refine Rest.blockEnd ?_ | refine Rest.exit rfl ?_ | refine Rest.again ?_ | refine Rest.ifT (E := Ee) rfl rfl ?_ | refine Rest.ifF (E := Ee) rfl rfl ?_))
    refine Rest.region (O.slice0 wd rfl rfl rfl rfl (le_ rfl) (O.move wd rfl rfl (le_ rfl) ?_))
    refine O.app (hl2 := []) wd rfl rfl rfl rfl rfl rfl rfl rfl rfl rfl rfl rfl (by omega) rfl (le_ rfl) ?_
    refine O.assign wd rfl rfl (le_ rfl) (RestO.nil ?_)
    exact Rest.ret (gives_fin rfl (gvO (gv1 rfl (by simp))))
theorem iClip_hc (rows : List (List C)) (cap : Option Nat) : HCt Tryz.prog 43 1 most [.rows 1 rows] [.one (.ref 0 0 rows.length cap)] (vone (.ref 0 0 rows.length (some rows.length))) [.rows 1 rows] 1 := by
  refine HCt.enter (next := 1) (hsl := [(0, .rows 1 rows)]) wd Tryz.func43 rfl rfl Tryz.ntmps43 rfl rfl (fun n => by cases n <;> rfl) ?_
  (repeat (first | refine Rest.seq ?_ | refine Rest.skip ?_ | refine Rest.block ?_ | refine Rest.blockEnd ?_ | refine Rest.exit rfl ?_ | refine Rest.again ?_ | (refine Rest.region (id := 0) ?_; refine O.assign wd rfl rfl (le_ rfl) ?_; refine RestO.nil ?_) | (refine Rest.region (id := 1) ?_; refine O.move wd rfl rfl (le_ rfl) ?_; refine O.move wd rfl rfl (le_ rfl) ?_; refine O.lenR wd rfl rfl rfl rfl (by first | rfl | assumption | (simp only [rS_len, rI_len, List.length_append, List.length_map, List.length_set, List.length_replicate, List.length_cons, List.length_nil, Nat.zero_add]; done) | (simp only [rS_len, rI_len, List.length_append, List.length_map, List.length_set, List.length_replicate, List.length_cons, List.length_nil] at *; omega)) (le_ rfl) ?_; refine O.move wd rfl rfl (le_ rfl) ?_; refine O.lenR wd rfl rfl rfl rfl (by first | rfl | assumption | (simp only [rS_len, rI_len, List.length_append, List.length_map, List.length_set, List.length_replicate, List.length_cons, List.length_nil, Nat.zero_add]; done) | (simp only [rS_len, rI_len, List.length_append, List.length_map, List.length_set, List.length_replicate, List.length_cons, List.length_nil] at *; omega)) (le_ rfl) ?_; refine O.clipAll wd rfl rfl rfl rfl rfl rfl rfl rfl (le_ rfl) ?_; refine O.assign wd rfl rfl (le_ rfl) ?_; refine RestO.nil ?_) | refine Rest.ifT (E := Ee) rfl rfl ?_ | refine Rest.ifF (E := Ee) rfl rfl ?_))
  refine Rest.ret ⟨Nat.le_refl _, ⟨_, res_T (xs := [.one (.ref 0 0 rows.length (some rows.length))]) rfl, rfl⟩, fun n => by cases n <;> rfl⟩
theorem sClip_hc (rows : List (List C)) (cap : Option Nat) : HCt Tryz.prog 91 1 most [.rows 1 rows] [.one (.ref 0 0 rows.length cap)] (vone (.ref 0 0 rows.length (some rows.length))) [.rows 1 rows] 1 := by
  refine HCt.enter (next := 1) (hsl := [(0, .rows 1 rows)]) wd Tryz.func91 rfl rfl Tryz.ntmps91 rfl rfl (fun n => by cases n <;> rfl) ?_
  (repeat (first | refine Rest.seq ?_ | refine Rest.skip ?_ | refine Rest.block ?_ | refine Rest.blockEnd ?_ | refine Rest.exit rfl ?_ | refine Rest.again ?_ | (refine Rest.region (id := 0) ?_; refine O.assign wd rfl rfl (le_ rfl) ?_; refine RestO.nil ?_) | (refine Rest.region (id := 1) ?_; refine O.move wd rfl rfl (le_ rfl) ?_; refine O.move wd rfl rfl (le_ rfl) ?_; refine O.lenR wd rfl rfl rfl rfl (by first | rfl | assumption | (simp only [rS_len, rI_len, List.length_append, List.length_map, List.length_set, List.length_replicate, List.length_cons, List.length_nil, Nat.zero_add]; done) | (simp only [rS_len, rI_len, List.length_append, List.length_map, List.length_set, List.length_replicate, List.length_cons, List.length_nil] at *; omega)) (le_ rfl) ?_; refine O.move wd rfl rfl (le_ rfl) ?_; refine O.lenR wd rfl rfl rfl rfl (by first | rfl | assumption | (simp only [rS_len, rI_len, List.length_append, List.length_map, List.length_set, List.length_replicate, List.length_cons, List.length_nil, Nat.zero_add]; done) | (simp only [rS_len, rI_len, List.length_append, List.length_map, List.length_set, List.length_replicate, List.length_cons, List.length_nil] at *; omega)) (le_ rfl) ?_; refine O.clipAll wd rfl rfl rfl rfl rfl rfl rfl rfl (le_ rfl) ?_; refine O.assign wd rfl rfl (le_ rfl) ?_; refine RestO.nil ?_) | refine Rest.ifT (E := Ee) rfl rfl ?_ | refine Rest.ifF (E := Ee) rfl rfl ?_))
  refine Rest.ret ⟨Nat.le_refl _, ⟨_, res_T (xs := [.one (.ref 0 0 rows.length (some rows.length))]) rfl, rfl⟩, fun n => by cases n <;> rfl⟩
def dec2 (n : Int) : List UInt8 := if n < 10 then [UInt8.ofNat (48 + n.toNat)] else [UInt8.ofNat (48 + n.toNat / 10), UInt8.ofNat (48 + n.toNat % 10)]
end Go.Proofs.YtfokmnafgabdiaaGreatDoor.Eng
namespace Go.Proofs.YtfokmnafgabdiaaGreatDoor.Eng
open Go Go.RowKit
set_option linter.unusedVariables false
set_option linter.unusedSimpArgs false
set_option maxRecDepth 10000
set_option maxHeartbeats 1000000
theorem atoi_ct (s : List UInt8) (n : Int) (hl : s.length ≤ 18) (h : Lib.atoi s = some n) : Ct Tryz.prog 98 [bS s] (.tup [bI n, .one (.b (.c (.lit .nilIface)))]) :=
  Ct.lits (vs := [.string (mk s)]) (us := [.int .i64 n, .nilIface]) Tryz.func98 rfl rfl rfl fun w => (Tryz.strconv_Atoi (mk s) n hl h w).mono (by
    rintro e w' ⟨rfl, t, rfl⟩
    exact ⟨rfl, Lib.bytesWorld_below _ _ _⟩)
theorem atoiE_ct (s : List UInt8) (hl : s.length ≤ 18) (h : Lib.atoi s = none) : Ct Tryz.prog 98 [bS s] (.tup [bI 0, .one (.b (.c .err))]) := by
  have hnm : (Tryz.f98.name == "runtime.NumGoroutine") = false := rfl
  refine ⟨⟨_, Tryz.func98, fun e => by rw [e] at hnm; simp at hnm, rfl⟩, fun w A cargs h1 h2 hlt hgl hall => ?_⟩
  have e := lits_vals (us := [.string (mk s)]) hall
  have e2 : cargs = #[.string (mk s)] := by rw [← e]
  rw [e2]
  obtain ⟨_, _, te, pe, hc⟩ := hgl _ List.mem_cons_self
  refine (Tryz.strconv_Atoi_err (mk s) hl h _ w hc (.inr ⟨te, pe, rfl⟩)).mono ?_
  rintro e w' ⟨te, ve, rfl, hbel⟩
  refine ⟨_, fun _ => none, A, rfl, ext_of_below hbel, ⟨heap_nil hlt hbel, ⟨_, rfl, .cons ?_ (.cons ?_ .nil)⟩, fun _ h => h, fun _ h => .inl h, fun n b o _ h => by cases h⟩⟩
  · exact RC.lit_iff.2 ⟨rfl, rfl⟩
  · exact RC.err_iff.2 ⟨te, ve, rfl⟩
open Kw (dig numOf)
theorem dig_ok {a : UInt8} (h : 48 ≤ (a.toNat : Int) ∧ (a.toNat : Int) ≤ 57) : dig a = true := by simp only [dig, decide_eq_true_eq]; exact h
theorem digV {a : UInt8} (h : dig a = true) : Lib.digitVal a = some (a.toNat - 48) := by
  simp only [dig, decide_eq_true_eq] at h
  unfold Lib.digitVal
  rw [if_pos (by omega)]
theorem digNe {a : UInt8} (h : dig a = true) : (a == 45) = false ∧ (a == 43) = false := by
  simp only [dig, decide_eq_true_eq] at h
  constructor
  · rw [beq_eq_false_iff_ne]; intro e; subst e; simp at h
  · rw [beq_eq_false_iff_ne]; intro e; subst e; simp at h
theorem atoi1 (a : UInt8) (h : dig a = true) : Lib.atoi [a] = some ((a.toNat : Int) - 48) := by
  have hd := digV h
  obtain ⟨h1, h2⟩ := digNe h
  simp only [dig, decide_eq_true_eq] at h
  simp only [Lib.atoi, h1, h2, Lib.decNat, Lib.decFrom, hd, List.isEmpty_cons, Bool.false_eq_true, if_false, Option.map_some, Option.some.injEq]
  omega
theorem atoi2 (a b : UInt8) (h : dig a = true) (h' : dig b = true) : Lib.atoi [a, b] = some (((a.toNat : Int) - 48) * 10 + (b.toNat - 48)) := by
  have hd := digV h
  have hd' := digV h'
  obtain ⟨h1, h2⟩ := digNe h
  simp only [dig, decide_eq_true_eq] at h h'
  simp only [Lib.atoi, h1, h2, Lib.decNat, Lib.decFrom, hd, hd', List.isEmpty_cons, Bool.false_eq_true, if_false, Option.map_some, Option.some.injEq]
  omega
def numR : List UInt8 → Int × List UInt8
  | a :: t => if dig a = true ∧ (a.toNat : Int) ≠ 48 then numOf (a :: t) else (0, a :: t)
  | [] => (0, [])
theorem tup2_eq {a b : Int} {s t : List UInt8} (h1 : a = b) (h2 : s = t) : BV.tup [.one (.b (.c (.lit (.int .i64 a)))), .one (.b (.c (.lit (.string (mk s)))))] = .tup [bI b, bS t] := by rw [h1, h2]
theorem numberOf_ct (s : List UInt8) (hs : s.length ≤ 300) : Ct Tryz.prog 94 [bS s] (.tup [bI (numR s).1, bS (numR s).2]) := by
  match s, hs with
  | [], hs =>
    have hl : ([] : List UInt8).length = 0 := rfl
    refine Ct.z wd Tryz.func94 rfl rfl Tryz.ntmps94 rfl rfl rfl rfl ?_
    repeat' ((conv => whnf); (first | (refine hK _ _ _ ?_; clear hK K) | (show Z _ _ _ _ _ _ _ _; first | refine Z.reg wd (fun K hK => ?_) | refine Z.seq ?_ | refine Z.cond (E := Ee) ?_ | refine Z.ret rfl ?_ | refine Z.block ?_ | refine Z.exit rfl ?_ | refine Z.loop 3 (Z.again ?_)) | (show IfB _ _ _; first | refine IfB.T rfl ?_ | refine IfB.F rfl ?_) | (show Need _ _; first | refine Need.mk ⟨_, Tryz.underlying97⟩ ?_ | refine Need.mk (by first | omega | (simp only [strMost, mostRows, rS_len, rI_len, List.length_append, List.length_map, List.length_set, List.length_replicate, List.length_cons, List.length_nil, List.length_drop, List.length_take]; done) | (simp only [strMost, mostRows, rS_len, rI_len, List.length_append, List.length_map, List.length_set, List.length_replicate, List.length_cons, List.length_nil, List.length_drop, List.length_take] at *; omega) | (simp at *; omega) | fail) ?_) | (show CallW _ _ _ _; first | refine CallW.mk _ (atoiE_ct [] (by simp) rfl) ?_) | (show Calc _ _; first | refine Calc.mk _ (vw_n (by first | rfl | assumption | (simp only [rS_len, rI_len, List.length_append, List.length_map, List.length_set, List.length_replicate, List.length_cons, List.length_nil, Nat.zero_add]; done) | omega | (simp only [rS_len, rI_len, List.length_append, List.length_map, List.length_set, List.length_replicate, List.length_cons, List.length_nil, List.length_drop, List.length_take] at *; omega) | fail)) ?_) | exact EqB.mk rfl))
  | [a], hs =>
    have hl : ([a] : List UInt8).length = 1 := rfl
    refine Ct.z wd Tryz.func94 rfl rfl Tryz.ntmps94 rfl rfl rfl rfl ?_
    repeat' ((conv => whnf); (first | (refine hK _ _ _ ?_; clear hK K) | (show Z _ _ _ _ _ _ _ _; first | refine Z.reg wd (fun K hK => ?_) | refine Z.draw2 wd rfl (fun K hK => ?_) | refine Z.seq ?_ | refine Z.skip ?_ | refine Z.cond (E := Ee) ?_ | refine Z.ret rfl ?_ | refine Z.block ?_ | refine Z.blockEnd ?_ | refine Z.exit rfl ?_ | refine Z.again ?_ | refine Z.loop 3 (Z.again ?_)) | (show IfB _ _ _; first | refine IfB.T rfl ?_ | refine IfB.F rfl ?_ | refine IfB.D (fun h => ?_) (fun h => ?_)) | (show Need _ _; first | refine Need.mk (by kernel_rfl) ?_ | refine Need.mk ⟨_, Tryz.underlying97⟩ ?_ | refine Need.mk (by first | omega | (simp only [strMost, mostRows, rS_len, rI_len, List.length_append, List.length_map, List.length_set, List.length_replicate, List.length_cons, List.length_nil, List.length_drop, List.length_take]; done) | (simp only [strMost, mostRows, rS_len, rI_len, List.length_append, List.length_map, List.length_set, List.length_replicate, List.length_cons, List.length_nil, List.length_drop, List.length_take] at *; omega) | (simp at *; omega) | fail) ?_) | (show CallW _ _ _ _; first | refine CallW.mk _ (atoi_ct [_] _ (by simp) (atoi1 _ (dig_ok (by omega)))) ?_ | refine CallW.mk _ (atoiE_ct [] (by simp) rfl) ?_) | (show Find _ _; first | refine Find.mk _ rfl ?_) | (show Calc _ _; first | refine Calc.mk _ (drop1_cons _ _) ?_ | refine Calc.mk _ (vw_n (by first | rfl | assumption | (simp only [rS_len, rI_len, List.length_append, List.length_map, List.length_set, List.length_replicate, List.length_cons, List.length_nil, Nat.zero_add]; done) | omega | (simp only [rS_len, rI_len, List.length_append, List.length_map, List.length_set, List.length_replicate, List.length_cons, List.length_nil, List.length_drop, List.length_take] at *; omega) | fail)) ?_ | refine Calc.mk _ rfl ?_) | refine EqB.mk ?_))
    all_goals
      simp only [numR, dig, numOf, decide_eq_true_eq]
      split <;> first | omega | exact tup2_eq rfl rfl
  | [a, b], hs =>
    have hl : ([a, b] : List UInt8).length = 2 := rfl
    refine Ct.z wd Tryz.func94 rfl rfl Tryz.ntmps94 rfl rfl rfl rfl ?_
    repeat' ((conv => whnf); (first | (refine hK _ _ _ ?_; clear hK K) | (show Z _ _ _ _ _ _ _ _; first | refine Z.reg wd (fun K hK => ?_) | refine Z.draw2 wd rfl (fun K hK => ?_) | refine Z.seq ?_ | refine Z.skip ?_ | refine Z.cond (E := Ee) ?_ | refine Z.ret rfl ?_ | refine Z.block ?_ | refine Z.blockEnd ?_ | refine Z.exit rfl ?_ | refine Z.again ?_ | refine Z.loop 3 (Z.again ?_)) | (show IfB _ _ _; first | refine IfB.T rfl ?_ | refine IfB.F rfl ?_ | refine IfB.D (fun h => ?_) (fun h => ?_)) | (show Need _ _; first | refine Need.mk (by kernel_rfl) ?_ | refine Need.mk ⟨_, Tryz.underlying97⟩ ?_ | refine Need.mk (by first | omega | (simp only [strMost, mostRows, rS_len, rI_len, List.length_append, List.length_map, List.length_set, List.length_replicate, List.length_cons, List.length_nil, List.length_drop, List.length_take]; done) | (simp only [strMost, mostRows, rS_len, rI_len, List.length_append, List.length_map, List.length_set, List.length_replicate, List.length_cons, List.length_nil, List.length_drop, List.length_take] at *; omega) | (simp at *; omega) | fail) ?_) | (show CallW _ _ _ _; first | refine CallW.mk _ (atoi_ct [_, _] _ (by simp) (atoi2 _ _ (dig_ok (by omega)) (dig_ok (by omega)))) ?_ | refine CallW.mk _ (atoi_ct [_] _ (by simp) (atoi1 _ (dig_ok (by omega)))) ?_ | refine CallW.mk _ (atoiE_ct [] (by simp) rfl) ?_) | (show Find _ _; first | refine Find.mk _ rfl ?_) | (show Calc _ _; first | refine Calc.mk _ (drop1_cons _ _) ?_ | refine Calc.mk _ (vw_n (by first | rfl | assumption | (simp only [rS_len, rI_len, List.length_append, List.length_map, List.length_set, List.length_replicate, List.length_cons, List.length_nil, Nat.zero_add]; done) | omega | (simp only [rS_len, rI_len, List.length_append, List.length_map, List.length_set, List.length_replicate, List.length_cons, List.length_nil, List.length_drop, List.length_take] at *; omega) | fail)) ?_ | refine Calc.mk _ rfl ?_) | refine EqB.mk ?_))
    all_goals
      simp only [numR, dig, numOf, decide_eq_true_eq]
      split <;> first | omega | (split <;> first | omega | exact tup2_eq rfl rfl) | exact tup2_eq rfl rfl
  | a :: b :: c :: t, hs =>
    have hl : (a :: b :: c :: t).length = t.length + 3 := rfl
    refine Ct.z wd Tryz.func94 rfl rfl Tryz.ntmps94 rfl rfl rfl rfl ?_
    repeat' ((conv => whnf); (first | (refine hK _ _ _ ?_; clear hK K) | (show Z _ _ _ _ _ _ _ _; first | refine Z.reg wd (fun K hK => ?_) | refine Z.draw2 wd rfl (fun K hK => ?_) | refine Z.seq ?_ | refine Z.skip ?_ | refine Z.cond (E := Ee) ?_ | refine Z.ret rfl ?_ | refine Z.block ?_ | refine Z.blockEnd ?_ | refine Z.exit rfl ?_ | refine Z.again ?_ | refine Z.loop 3 (Z.again ?_)) | (show IfB _ _ _; first | refine IfB.T rfl ?_ | refine IfB.F rfl ?_ | refine IfB.DT (by first | assumption | omega | (simp; done) | fail) ?_ | refine IfB.D (fun h => ?_) (fun h => ?_)) | (show Need _ _; first | refine Need.mk (by kernel_rfl) ?_ | refine Need.mk ⟨_, Tryz.underlying97⟩ ?_ | refine Need.mk (by first | omega | (simp only [strMost, mostRows, rS_len, rI_len, List.length_append, List.length_map, List.length_set, List.length_replicate, List.length_cons, List.length_nil, List.length_drop, List.length_take]; done) | (simp only [strMost, mostRows, rS_len, rI_len, List.length_append, List.length_map, List.length_set, List.length_replicate, List.length_cons, List.length_nil, List.length_drop, List.length_take] at *; omega) | (simp at *; omega) | fail) ?_) | (show CallW _ _ _ _; first | refine CallW.mk _ (atoi_ct [_, _] _ (by simp) (atoi2 _ _ (dig_ok (by omega)) (dig_ok (by omega)))) ?_ | refine CallW.mk _ (atoi_ct [_] _ (by simp) (atoi1 _ (dig_ok (by omega)))) ?_ | refine CallW.mk _ (atoiE_ct [] (by simp) rfl) ?_) | (show Find _ _; first | refine Find.mk _ rfl ?_) | (show Calc _ _; first | refine Calc.mk _ (drop1_cons _ _) ?_ | refine Calc.mk _ rfl ?_) | refine EqB.mk ?_))
    all_goals
      simp only [numR, dig, numOf, decide_eq_true_eq]
      split <;> first | omega | (split <;> first | omega | exact tup2_eq rfl rfl) | exact tup2_eq rfl rfl
def letterL (who : Int) : List UInt8 := [UInt8.ofNat (65 + who).toNat]
def oneL : List UInt8 → Int
  | a :: _ => if 65 ≤ (a.toNat : Int) ∧ (a.toNat : Int) ≤ 72 then a.toNat - 65 else -1
  | [] => -1
theorem one_ct (s : List UInt8) (hs : s.length ≤ 300) : Ct Tryz.prog 93 [bS s] (.w (bI (oneL s))) := by
  cases s with
  | nil =>
    refine Ct.z wd Tryz.func93 rfl rfl Tryz.ntmps93 rfl rfl rfl rfl ?_
    repeat' ((conv => whnf); (first | (refine hK _ _ _ ?_; clear hK K) | (show Z _ _ _ _ _ _ _ _; first | refine Z.reg wd (fun K hK => ?_) | refine Z.seq ?_ | refine Z.cond (E := Ee) ?_ | refine Z.ret rfl ?_) | (show IfB _ _ _; first | refine IfB.T rfl ?_) | exact EqB.mk rfl))
  | cons a s =>
    have hlt := UInt8.toNat_lt a
    have hl : (a :: s).length = s.length + 1 := rfl
    refine Ct.z wd Tryz.func93 rfl rfl Tryz.ntmps93 rfl rfl rfl rfl ?_
    repeat' ((conv => whnf); (first | (refine hK _ _ _ ?_; clear hK K) | (show Z _ _ _ _ _ _ _ _; first | refine Z.reg wd (fun K hK => ?_) | refine Z.seq ?_ | refine Z.skip ?_ | refine Z.cond (E := Ee) ?_ | refine Z.ret rfl ?_) | (show IfB _ _ _; first | refine IfB.F rfl ?_ | refine IfB.N ?_ | refine IfB.D (fun h => ?_) (fun h => ?_)) | (show Need _ _; first | refine Need.mk (by first | omega | (simp only [strMost, mostRows, rS_len, rI_len, List.length_append, List.length_map, List.length_set, List.length_replicate, List.length_cons, List.length_nil, List.length_drop, List.length_take]; done) | (simp only [strMost, mostRows, rS_len, rI_len, List.length_append, List.length_map, List.length_set, List.length_replicate, List.length_cons, List.length_nil, List.length_drop, List.length_take] at *; omega) | (simp at *; omega) | fail) ?_) | (show CallW _ _ _ _; first | refine CallW.mk _ (isOne_ct _) ?_) | (show Find _ _; first | refine Find.mk _ rfl ?_) | refine EqB.mk ?_))
    all_goals
      simp only [oneL]
      split <;> first | rfl | omega
def semi : List UInt8 → Bool
  | c :: _ => decide (c = 59)
  | [] => false
theorem hasP_ct (s : List UInt8) (hs : s.length ≤ 300) : Ct Tryz.prog 99 [bS s, bS [59]] (.w (bB (semi s))) := by
  have h1 : ([59] : List UInt8).length = 1 := rfl
  cases s with
  | nil =>
    have hl : ([] : List UInt8).length = 0 := rfl
    refine Ct.z wd Tryz.func99 rfl rfl Tryz.ntmps99 rfl rfl rfl rfl ?_
    repeat' ((conv => whnf); (first | (refine hK _ _ _ ?_; clear hK K) | (show Z _ _ _ _ _ _ _ _; first | refine Z.reg wd (fun K hK => ?_) | refine Z.seq ?_ | refine Z.ret rfl ?_) | (show IfB _ _ _; first | refine IfB.F rfl ?_) | exact EqB.mk rfl))
  | cons c s =>
    have hl : (c :: s).length = s.length + 1 := rfl
    refine Ct.z wd Tryz.func99 rfl rfl Tryz.ntmps99 rfl rfl rfl rfl ?_
    repeat' ((conv => whnf); (first | (refine hK _ _ _ ?_; clear hK K) | (show Z _ _ _ _ _ _ _ _; first | refine Z.reg wd (fun K hK => ?_) | refine Z.seq ?_ | refine Z.ret rfl ?_) | (show IfB _ _ _; first | refine IfB.T rfl ?_ | refine IfB.DT (by first | assumption | omega | (simp; done) | fail) ?_) | (show Need _ _; first | refine Need.mk (by first | omega | (simp only [strMost, mostRows, rS_len, rI_len, List.length_append, List.length_map, List.length_set, List.length_replicate, List.length_cons, List.length_nil, List.length_drop, List.length_take]; done) | (simp only [strMost, mostRows, rS_len, rI_len, List.length_append, List.length_map, List.length_set, List.length_replicate, List.length_cons, List.length_nil, List.length_drop, List.length_take] at *; omega) | (simp at *; omega) | fail) ?_) | (show Calc _ _; first | refine Calc.mk _ rfl ?_) | refine EqB.mk ?_))
    all_goals exact bB_eq (by simp_all [semi])
theorem hasPrefix_ct (s : List UInt8) (hs : s.length ≤ 300) : Ct Tryz.prog 95 [bS s, bS [59]] (.w (bB (semi s))) := by
  refine Ct.z wd Tryz.func95 rfl rfl Tryz.ntmps95 rfl rfl rfl rfl ?_
  repeat' ((conv => whnf); (first | (refine hK _ _ _ ?_; clear hK K) | (show Z _ _ _ _ _ _ _ _; first | refine Z.reg wd (fun K hK => ?_) | refine Z.seq ?_ | refine Z.ret rfl ?_) | (show CallW _ _ _ _; first | refine CallW.mk _ (hasP_ct _ (by first | omega | (simp only [strMost, mostRows, rS_len, rI_len, List.length_append, List.length_map, List.length_set, List.length_replicate, List.length_cons, List.length_nil, List.length_drop, List.length_take]; done) | (simp only [strMost, mostRows, rS_len, rI_len, List.length_append, List.length_map, List.length_set, List.length_replicate, List.length_cons, List.length_nil, List.length_drop, List.length_take] at *; omega) | (simp at *; omega) | fail)) ?_) | exact EqB.mk rfl))
end Go.Proofs.YtfokmnafgabdiaaGreatDoor.Eng
namespace Go.Proofs.YtfokmnafgabdiaaGreatDoor.Kw
theorem numOf_suf (d : UInt8) (t : Str) : (numOf (d :: t)).2 <:+ t := by
  cases t with
  | nil => exact List.suffix_refl _
  | cons b t =>
    simp only [numOf]
    split
    · exact List.suffix_cons _ _
    · exact List.suffix_refl _
theorem nameT_suf : ∀ (n : Nat) (s r : Str) (h : How), s.length ≤ n → nameT s = some (h, r) → r <:+ s := by
  intro n
  induction n with
  | zero =>
    intro s r h hl e
    cases s with
    | nil => cases e
    | cons c t => simp at hl
  | succ n ih =>
    intro s r h hl e
    cases s with
    | nil => cases e
    | cons c t =>
      simp only [List.length_cons] at hl
      have up : ∀ {x : Str}, x <:+ t → x <:+ c :: t := fun h => h.trans (List.suffix_cons _ _)
      by_cases hc : 65 ≤ (c.toNat : Int) ∧ (c.toNat : Int) ≤ 72
      · rw [nameT_new _ _ hc] at e
        split at e
        · rename_i d t'
          split at e
          · split at e
            · rename_i x y hq
              split at e
              · have := numOf_suf d t'
                rw [hq] at this
                simp only [Option.some.injEq, Prod.mk.injEq] at e
                obtain ⟨_, rfl⟩ := e
                exact up (((List.suffix_cons _ _).trans this).trans (List.suffix_cons _ _))
              · cases e
            · cases e
          · cases e
        · cases e
      by_cases c1 : c = 110
      · subst c1
        rw [nameT_up] at e
        split at e
        · rename_i hh r' hq
          simp only [Option.some.injEq, Prod.mk.injEq] at e
          obtain ⟨_, rfl⟩ := e
          exact up (ih t _ _ (by omega) hq)
        · cases e
      by_cases c2 : c = 107
      · subst c2
        rw [nameT_key] at e
        split at e
        · rename_i hh r' hq
          simp only [Option.some.injEq, Prod.mk.injEq] at e
          obtain ⟨_, rfl⟩ := e
          exact up (ih t _ _ (by omega) hq)
        · cases e
      by_cases c3 : c = 101
      · subst c3
        rw [nameT_two] at e
        split at e
        · rename_i hh r' hq
          split at e
          · rename_i h2 r2 hq2
            simp only [Option.some.injEq, Prod.mk.injEq] at e
            obtain ⟨_, rfl⟩ := e
            have := nameT_len hq
            exact up ((ih r' _ _ (by omega) hq2).trans (ih t _ _ (by omega) hq))
          · cases e
        · cases e
      by_cases c4 : c = 109
      · subst c4
        cases t with
        | nil => cases e
        | cons d t =>
          rw [nameT_say] at e
          split at e
          · split at e
            · rename_i hh r' hq
              simp only [Option.some.injEq, Prod.mk.injEq] at e
              obtain ⟨_, rfl⟩ := e
              exact up ((ih t _ _ (by simp at hl; omega) hq).trans (List.suffix_cons _ _))
            · cases e
          · cases e
      by_cases c5 : c = 114
      · subst c5
        cases t with
        | nil => cases e
        | cons d t =>
          rw [nameT_room] at e
          split at e
          · split at e
            · rename_i hh r' hq
              simp only [Option.some.injEq, Prod.mk.injEq] at e
              obtain ⟨_, rfl⟩ := e
              exact up ((ih t _ _ (by simp at hl; omega) hq).trans (List.suffix_cons _ _))
            · cases e
          · cases e
      rw [nameT_no c t hc c1 c2 c3 c4 c5] at e
      cases e
theorem nameT_drop {s r : Str} {h : How} (e : nameT s = some (h, r)) : s.drop (s.length - r.length) = r := by
  obtain ⟨q, rfl⟩ := nameT_suf _ _ _ _ (Nat.le_refl _) e
  rw [List.length_append, Nat.add_sub_cancel]; simp
def sizeL (s : Str) : Int := match nameT s with
  | some (_, r) => (s.length : Int) - r.length
  | none => 0
theorem sizeL_some {s r : Str} {h : How} (e : nameT s = some (h, r)) : sizeL s = (s.length : Int) - r.length ∧ 0 < sizeL s := by
  have := nameT_len e
  have e2 : sizeL s = (s.length : Int) - r.length := by simp only [sizeL, e]
  exact ⟨e2, by omega⟩
theorem sizeL_none {s : Str} (e : nameT s = none) : sizeL s = 0 := by simp only [sizeL, e]
theorem sizeL_le (s : Str) : 0 ≤ sizeL s ∧ sizeL s ≤ s.length := by
  unfold sizeL
  split
  · rename_i e; have := nameT_len e; omega
  · omega
def moreL (n m : Int) : Int := if m = 0 then 0 else n + m
theorem sizeL_up (t : Str) : sizeL (110 :: t) = moreL 1 (sizeL t) := by
  cases hq : nameT t with
  | none => rw [sizeL_none hq, sizeL_none (by rw [nameT_up, hq])]; rfl
  | some p =>
    obtain ⟨h, r⟩ := p
    have h1 := sizeL_some hq
    have h2 := sizeL_some (s := 110 :: t) (r := r) (h := ⟨2, 0, 0, ahead t r, []⟩) (by rw [nameT_up, hq])
    rw [moreL, if_neg (by omega), h2.1, h1.1]; simp; omega
theorem sizeL_key (t : Str) : sizeL (107 :: t) = moreL 1 (sizeL t) := by
  cases hq : nameT t with
  | none => rw [sizeL_none hq, sizeL_none (by rw [nameT_key, hq])]; rfl
  | some p =>
    obtain ⟨h, r⟩ := p
    have h1 := sizeL_some hq
    have h2 := sizeL_some (s := 107 :: t) (r := r) (h := ⟨3, 0, 0, ahead t r, []⟩) (by rw [nameT_key, hq])
    rw [moreL, if_neg (by omega), h2.1, h1.1]; simp; omega
theorem sizeL_say (d : UInt8) (t : Str) : sizeL (109 :: d :: t) = if 65 ≤ (d.toNat : Int) ∧ (d.toNat : Int) ≤ 72 then moreL 2 (sizeL t) else 0 := by
  by_cases hd : 65 ≤ (d.toNat : Int) ∧ (d.toNat : Int) ≤ 72
  · rw [if_pos hd]
    cases hq : nameT t with
    | none => rw [sizeL_none hq, sizeL_none (by rw [nameT_say, if_pos hd, hq])]; rfl
    | some p =>
      obtain ⟨h, r⟩ := p
      have h1 := sizeL_some hq
      have h2 := sizeL_some (s := 109 :: d :: t) (r := r) (h := ⟨5, (d.toNat : Int) - 65, 0, ahead t r, []⟩) (by rw [nameT_say, if_pos hd, hq])
      rw [moreL, if_neg (by omega), h2.1, h1.1]; simp; omega
  · rw [if_neg hd, sizeL_none (by rw [nameT_say, if_neg hd])]
theorem sizeL_room (d : UInt8) (t : Str) : sizeL (114 :: d :: t) = if 49 ≤ (d.toNat : Int) ∧ (d.toNat : Int) ≤ 57 then moreL 2 (sizeL t) else 0 := by
  by_cases hd : 49 ≤ (d.toNat : Int) ∧ (d.toNat : Int) ≤ 57
  · rw [if_pos hd]
    cases hq : nameT t with
    | none => rw [sizeL_none hq, sizeL_none (by rw [nameT_room, if_pos hd, hq])]; rfl
    | some p =>
      obtain ⟨h, r⟩ := p
      have h1 := sizeL_some hq
      have h2 := sizeL_some (s := 114 :: d :: t) (r := r) (h := ⟨6, 0, (d.toNat : Int) - 48, ahead t r, []⟩) (by rw [nameT_room, if_pos hd, hq])
      rw [moreL, if_neg (by omega), h2.1, h1.1]; simp; omega
  · rw [if_neg hd, sizeL_none (by rw [nameT_room, if_neg hd])]
theorem sizeL_two (t : Str) : sizeL (101 :: t) = if sizeL t = 0 then 0 else moreL (1 + sizeL t) (sizeL (t.drop (sizeL t).toNat)) := by
  cases hq : nameT t with
  | none => rw [if_pos (sizeL_none hq), sizeL_none (by rw [nameT_two, hq])]
  | some p =>
    obtain ⟨h, r⟩ := p
    have h1 := sizeL_some hq
    have hl := nameT_len hq
    have hr : t.drop (sizeL t).toNat = r := by
      rw [h1.1, show ((t.length : Int) - r.length).toNat = t.length - r.length from by omega]; exact nameT_drop hq
    rw [if_neg (by omega), hr]
    cases hq2 : nameT r with
    | none => rw [sizeL_none hq2, sizeL_none (by rw [nameT_two, hq]; simp only [hq2])]; rfl
    | some p =>
      obtain ⟨h2, r2⟩ := p
      have g1 := sizeL_some hq2
      have g2 := sizeL_some (s := 101 :: t) (r := r2) (h := ⟨4, 0, 0, ahead t r, ahead r r2⟩) (by rw [nameT_two, hq]; simp only [hq2])
      rw [moreL, if_neg (by omega), g2.1, g1.1, h1.1]; simp; omega
end Go.Proofs.YtfokmnafgabdiaaGreatDoor.Kw
namespace Go.Proofs.YtfokmnafgabdiaaGreatDoor.Kw
theorem nameT_op {s r : Str} {h : How} (e : nameT s = some (h, r)) : 1 ≤ h.op ∧ h.op ≤ 6 := by
  cases s with
  | nil => cases e
  | cons c t =>
    by_cases hc : 65 ≤ (c.toNat : Int) ∧ (c.toNat : Int) ≤ 72
    · rw [nameT_new _ _ hc] at e
      split at e
      · split at e
        · split at e
          · split at e
            · simp only [Option.some.injEq, Prod.mk.injEq] at e
              obtain ⟨rfl, _⟩ := e; simp
            · cases e
          · cases e
        · cases e
      · cases e
    by_cases c1 : c = 110
    · subst c1
      rw [nameT_up] at e
      split at e
      · simp only [Option.some.injEq, Prod.mk.injEq] at e
        obtain ⟨rfl, _⟩ := e; simp
      · cases e
    by_cases c2 : c = 107
    · subst c2
      rw [nameT_key] at e
      split at e
      · simp only [Option.some.injEq, Prod.mk.injEq] at e
        obtain ⟨rfl, _⟩ := e; simp
      · cases e
    by_cases c3 : c = 101
    · subst c3
      rw [nameT_two] at e
      split at e
      · split at e
        · simp only [Option.some.injEq, Prod.mk.injEq] at e
          obtain ⟨rfl, _⟩ := e; simp
        · cases e
      · cases e
    by_cases c4 : c = 109
    · subst c4
      cases t with
      | nil => cases e
      | cons d t =>
        rw [nameT_say] at e
        split at e
        · split at e
          · simp only [Option.some.injEq, Prod.mk.injEq] at e
            obtain ⟨rfl, _⟩ := e; simp
          · cases e
        · cases e
    by_cases c5 : c = 114
    · subst c5
      cases t with
      | nil => cases e
      | cons d t =>
        rw [nameT_room] at e
        split at e
        · split at e
          · simp only [Option.some.injEq, Prod.mk.injEq] at e
            obtain ⟨rfl, _⟩ := e; simp
          · cases e
        · cases e
    rw [nameT_no c t hc c1 c2 c3 c4 c5] at e
    cases e
theorem madeL_some {s : Str} {h : How} (hl : s.length ≤ 300) (e : nameT s = some (h, [])) : madeL s = h := by
  rw [madeL, if_neg (by omega), e]
theorem madeL_op {s : Str} (h : (madeL s).op ≠ 0) : s.length ≤ 300 ∧ nameT s = some (madeL s, []) := by
  unfold madeL at h ⊢
  by_cases hl : s.length > 300
  · rw [if_pos hl] at h; exact absurd rfl h
  · rw [if_neg hl] at h ⊢
    refine ⟨by omega, ?_⟩
    cases hq : nameT s with
    | none => rw [hq] at h; exact absurd rfl h
    | some p =>
      obtain ⟨hh, r⟩ := p
      rw [hq] at h
      cases r with
      | nil => rfl
      | cons => exact absurd rfl h
theorem sizeL_full {s : Str} (hs : s ≠ []) (e : sizeL s = s.length) : ∃ h, nameT s = some (h, []) := by
  cases hq : nameT s with
  | none =>
    rw [sizeL_none hq] at e
    cases s with
    | nil => exact absurd rfl hs
    | cons => simp at e; omega
  | some p =>
    obtain ⟨h, r⟩ := p
    have := sizeL_some hq
    have hr : r = [] := by cases r with | nil => rfl | cons => simp at this; omega
    exact ⟨h, by rw [hr]⟩
theorem full_sizeL {s : Str} {h : How} (e : nameT s = some (h, [])) : s ≠ [] ∧ sizeL s = s.length := by
  have := sizeL_some e
  simp at this
  exact ⟨fun q => (by subst q; cases e), this.1⟩
theorem nameT_new_whole {c : UInt8} {t : Str} {h : How} (hc : 65 ≤ (c.toNat : Int) ∧ (c.toNat : Int) ≤ 72) (e : nameT (c :: t) = some (h, [])) :
    (∃ d : UInt8, t = [d, 59] ∧ (48 < (d.toNat : Int) ∧ (d.toNat : Int) ≤ 57) ∧ h = ⟨1, (c.toNat : Int) - 65, (d.toNat : Int) - 48, [], []⟩)
    ∨ (∃ d x : UInt8, t = [d, x, 59] ∧ (48 < (d.toNat : Int) ∧ (d.toNat : Int) ≤ 57) ∧ (48 ≤ (x.toNat : Int) ∧ (x.toNat : Int) ≤ 57) ∧ h = ⟨1, (c.toNat : Int) - 65, ((d.toNat : Int) - 48) * 10 + ((x.toNat : Int) - 48), [], []⟩) := by
  rw [nameT_new _ _ hc] at e
  cases t with
  | nil => cases e
  | cons d t =>
    simp only at e
    split at e
    · rename_i hd
      have hd1 := hd.1
      simp only [dig, decide_eq_true_eq] at hd1
      cases t with
      | nil => simp [numOf] at e
      | cons b t =>
        simp only [numOf] at e
        by_cases hb : dig b = true
        · simp only [hb, if_true] at e
          simp only [dig, decide_eq_true_eq] at hb
          cases t with
          | nil => simp at e
          | cons x t =>
            simp only at e
            by_cases hx : x = 59
            · subst hx
              simp only [if_true, Option.some.injEq, Prod.mk.injEq] at e
              obtain ⟨rfl, rfl⟩ := e
              exact .inr ⟨d, b, rfl, ⟨by omega, by omega⟩, hb, rfl⟩
            · rw [if_neg hx] at e; cases e
        · simp only [hb] at e
          by_cases hx : b = 59
          · subst hx
            simp at e
            obtain ⟨rfl, rfl⟩ := e
            exact .inl ⟨d, rfl, ⟨by omega, by omega⟩, rfl⟩
          · simp [hx] at e
    · cases e
end Go.Proofs.YtfokmnafgabdiaaGreatDoor.Kw
namespace Go.Proofs.YtfokmnafgabdiaaGreatDoor.Eng
open Go Go.RowKit Kw
set_option linter.unusedVariables false
set_option linter.unusedSimpArgs false
set_option maxRecDepth 10000
attribute [local irreducible] Ct HCt
set_option maxHeartbeats 1000000
theorem CallW.or {P : Program} {f : FuncId} {bs : List BW} {K : BV → Prop} {α : Type} {A : Prop} {Φ : α → Prop} {r : α → BV} {r2 : BV} (h : (∃ a, Φ a ∧ Ct P f bs (r a)) ∨ (A ∧ Ct P f bs r2)) (k1 : ∀ a, Φ a → K (r a)) (k2 : A → K r2) : CallW P f bs K := by
  rcases h with ⟨a, h1, h2⟩ | ⟨h1, h2⟩
  · exact ⟨_, h2, k1 a h1⟩
  · exact ⟨_, h2, k2 h1⟩
theorem CallW.ex {P : Program} {f : FuncId} {bs : List BW} {K : BV → Prop} {α : Type} {Φ : α → Prop} {r : α → BV} (h : ∃ a, Φ a ∧ Ct P f bs (r a)) (k1 : ∀ a, Φ a → K (r a)) : CallW P f bs K := by
  obtain ⟨a, h1, h2⟩ := h
  exact ⟨_, h2, k1 a h1⟩
abbrev bHow (h : How) : BW := .agg [.b (.c (.lit (.int .i64 h.op))), .b (.c (.lit (.int .i64 h.who))), .b (.c (.lit (.int .i64 h.n))), .b (.c (.lit (.string (mk h.a)))), .b (.c (.lit (.string (mk h.b))))]
def nameR (s : List UInt8) : BV := match nameT s with
  | some (h, r) => .tup [bHow h, bS r, bB true]
  | none => .tup [bHow how0, bS s, bB false]
theorem name_two {s : List UInt8} (h : Ct Tryz.prog 87 [bS s] (nameR s)) : (∃ p : How × Str, (nameT s = some p ∧ p.2.length < s.length) ∧ Ct Tryz.prog 87 [bS s] (.tup [bHow p.1, bS p.2, bB true])) ∨ (nameT s = none ∧ Ct Tryz.prog 87 [bS s] (.tup [bHow how0, bS s, bB false])) := by
  unfold nameR at h
  cases hq : nameT s with
  | none => rw [hq] at h; exact .inr ⟨rfl, h⟩
  | some p => rw [hq] at h; exact .inl ⟨p, ⟨rfl, nameT_len hq⟩, h⟩
theorem numR_len (t : List UInt8) : (numR t).2.length ≤ t.length := by
  cases t with
  | nil => simp [numR]
  | cons a t =>
    simp only [numR]
    split
    · have := numOf_len a t; simp only [List.length_cons]; omega
    · exact Nat.le_refl _
theorem u8ne {c : UInt8} {n : Nat} (hn : n < 256) (h : c ≠ UInt8.ofNat n) : (c.toNat : Int) ≠ n := fun e => h (by
  have : c.toNat = n := by omega
  rw [← this]; simp)
theorem name_ct : ∀ (n : Nat) (s : List UInt8), s.length ≤ n → n ≤ 300 → Ct Tryz.prog 87 [bS s] (nameR s) := by
  intro n
  induction n with
  | zero =>
    intro s h1 h2
    have hs : s = [] := by cases s with | nil => rfl | cons c t => simp at h1
    subst hs
    refine Ct.z wd Tryz.func87 rfl rfl Tryz.ntmps87 rfl rfl rfl rfl ?_
    repeat' ((conv => whnf); (first | (refine hK _ _ _ ?_; clear hK K) | (show Z _ _ _ _ _ _ _ _; first | refine Z.reg wd (fun K hK => ?_) | refine Z.seq ?_ | refine Z.cond (E := Ee) ?_ | refine Z.ret rfl ?_) | (show IfB _ _ _; first | refine IfB.T rfl ?_) | exact EqB.mk rfl))
  | succ n ih0 =>
    intro s h1 h2
    have ih : ∀ t : List UInt8, t.length ≤ n → Ct Tryz.prog 87 [bS t] (nameR t) := fun t ht => ih0 t ht (by omega)
    clear ih0
    cases s with
    | nil =>
      refine Ct.z wd Tryz.func87 rfl rfl Tryz.ntmps87 rfl rfl rfl rfl ?_
      repeat' ((conv => whnf); (first | (refine hK _ _ _ ?_; clear hK K) | (show Z _ _ _ _ _ _ _ _; first | refine Z.reg wd (fun K hK => ?_) | refine Z.seq ?_ | refine Z.cond (E := Ee) ?_ | refine Z.ret rfl ?_) | (show IfB _ _ _; first | refine IfB.T rfl ?_) | exact EqB.mk rfl))
    | cons c t =>
      have hl : (c :: t).length = t.length + 1 := rfl
      have hdr : (c :: t).drop (1 : Int).toNat = t := rfl
      by_cases hc : 65 ≤ (c.toNat : Int) ∧ (c.toNat : Int) ≤ 72
      · have ho : oneL (c :: t) = (c.toNat : Int) - 65 := if_pos hc
        have hN := numberOf_ct t (by omega)
        have hrl := numR_len t
        have key : nameT (c :: t) = if (numR t).1 = 0 then none else match (numR t).2 with
            | e :: r => if e = 59 then some (⟨1, (c.toNat : Int) - 65, (numR t).1, [], []⟩, r) else none
            | [] => none := by
          rw [nameT_new _ _ hc]
          cases t with
          | nil => rfl
          | cons d t' =>
            by_cases hd : dig d = true ∧ (d.toNat : Int) ≠ 48
            · have hz : (numOf (d :: t')).1 ≠ 0 := by
                have hd1 := hd.1
                simp only [dig, decide_eq_true_eq] at hd1
                cases t' with
                | nil => simp only [numOf]; omega
                | cons b t2 =>
                  simp only [numOf]
                  split
                  · rename_i hb; simp only [dig, decide_eq_true_eq] at hb; simp only; omega
                  · simp only; omega
              have e : numR (d :: t') = numOf (d :: t') := if_pos hd
              show (if dig d = true ∧ (d.toNat : Int) ≠ 48 then _ else _) = _
              rw [if_pos hd, e, if_neg hz]; rfl
            · have e : numR (d :: t') = (0, d :: t') := if_neg hd
              show (if dig d = true ∧ (d.toNat : Int) ≠ 48 then _ else _) = _
              rw [if_neg hd, e]; rfl
        obtain ⟨m, r, hq⟩ : ∃ m r, numR t = (m, r) := ⟨_, _, rfl⟩
        rw [hq] at hN hrl key
        simp only at hN hrl key
        clear hq ih
        cases r with
        | nil =>
          have hse : semi [] = false := rfl
          refine Ct.z wd Tryz.func87 rfl rfl Tryz.ntmps87 rfl rfl rfl rfl ?_
          repeat' ((conv => whnf); (first | (refine hK _ _ _ ?_; clear hK K) | (show Z _ _ _ _ _ _ _ _; first | refine Z.reg wd (fun K hK => ?_) | refine Z.seq ?_ | refine Z.skip ?_ | refine Z.cond (E := Ee) ?_ | refine Z.ret rfl ?_) | (show IfB _ _ _; first | refine IfB.T rfl ?_ | refine IfB.F rfl ?_ | refine IfB.DT (by first | assumption | omega | (simp; done) | fail) ?_ | refine IfB.D (fun h => ?_) (fun h => ?_)) | (show Need _ _; first | refine Need.mk (by first | omega | (simp only [strMost, mostRows, rS_len, rI_len, List.length_append, List.length_map, List.length_set, List.length_replicate, List.length_cons, List.length_nil, List.length_drop, List.length_take]; done) | (simp only [strMost, mostRows, rS_len, rI_len, List.length_append, List.length_map, List.length_set, List.length_replicate, List.length_cons, List.length_nil, List.length_drop, List.length_take] at *; omega) | (simp at *; omega) | fail) ?_) | (show CallW _ _ _ _; first | refine CallW.mk _ (one_ct _ (by first | omega | (simp only [strMost, mostRows, rS_len, rI_len, List.length_append, List.length_map, List.length_set, List.length_replicate, List.length_cons, List.length_nil, List.length_drop, List.length_take]; done) | (simp only [strMost, mostRows, rS_len, rI_len, List.length_append, List.length_map, List.length_set, List.length_replicate, List.length_cons, List.length_nil, List.length_drop, List.length_take] at *; omega) | (simp at *; omega) | fail)) ?_ | refine CallW.mk _ hN ?_ | refine CallW.mk _ (hasPrefix_ct _ (by first | omega | (simp only [strMost, mostRows, rS_len, rI_len, List.length_append, List.length_map, List.length_set, List.length_replicate, List.length_cons, List.length_nil, List.length_drop, List.length_take]; done) | (simp only [strMost, mostRows, rS_len, rI_len, List.length_append, List.length_map, List.length_set, List.length_replicate, List.length_cons, List.length_nil, List.length_drop, List.length_take] at *; omega) | (simp at *; omega) | fail)) ?_) | (show Calc _ _; first | refine Calc.mk _ (drop1_cons _ _) ?_) | refine EqB.mk ?_))
          all_goals
            simp only [nameR, key]
            first | (rw [if_pos (by assumption)]; rfl) | (rw [if_neg (by assumption)]; rfl)
        | cons e r =>
          have hse : semi (e :: r) = decide (e = 59) := rfl
          have hl2 : (e :: r).length = r.length + 1 := rfl
          refine Ct.z wd Tryz.func87 rfl rfl Tryz.ntmps87 rfl rfl rfl rfl ?_
          repeat' ((conv => whnf); (first | (refine hK _ _ _ ?_; clear hK K) | (show Z _ _ _ _ _ _ _ _; first | refine Z.reg wd (fun K hK => ?_) | refine Z.draw2 wd rfl (fun K hK => ?_) | refine Z.seq ?_ | refine Z.skip ?_ | refine Z.cond (E := Ee) ?_ | refine Z.ret rfl ?_) | (show IfB _ _ _; first | refine IfB.T rfl ?_ | refine IfB.F rfl ?_ | refine IfB.DT (by first | assumption | omega | (simp; done) | fail) ?_ | refine IfB.N ?_ | refine IfB.D (fun h => ?_) (fun h => ?_)) | (show Need _ _; first | refine Need.mk (by kernel_rfl) ?_ | refine Need.mk (by first | omega | (simp only [strMost, mostRows, rS_len, rI_len, List.length_append, List.length_map, List.length_set, List.length_replicate, List.length_cons, List.length_nil, List.length_drop, List.length_take]; done) | (simp only [strMost, mostRows, rS_len, rI_len, List.length_append, List.length_map, List.length_set, List.length_replicate, List.length_cons, List.length_nil, List.length_drop, List.length_take] at *; omega) | (simp at *; omega) | fail) ?_) | (show CallW _ _ _ _; first | refine CallW.mk _ (one_ct _ (by first | omega | (simp only [strMost, mostRows, rS_len, rI_len, List.length_append, List.length_map, List.length_set, List.length_replicate, List.length_cons, List.length_nil, List.length_drop, List.length_take]; done) | (simp only [strMost, mostRows, rS_len, rI_len, List.length_append, List.length_map, List.length_set, List.length_replicate, List.length_cons, List.length_nil, List.length_drop, List.length_take] at *; omega) | (simp at *; omega) | fail)) ?_ | refine CallW.mk _ hN ?_ | refine CallW.mk _ (hasPrefix_ct _ (by first | omega | (simp only [strMost, mostRows, rS_len, rI_len, List.length_append, List.length_map, List.length_set, List.length_replicate, List.length_cons, List.length_nil, List.length_drop, List.length_take]; done) | (simp only [strMost, mostRows, rS_len, rI_len, List.length_append, List.length_map, List.length_set, List.length_replicate, List.length_cons, List.length_nil, List.length_drop, List.length_take] at *; omega) | (simp at *; omega) | fail)) ?_) | (show Calc _ _; first | refine Calc.mk _ (drop1_cons _ _) ?_) | refine EqB.mk ?_))
          all_goals
            simp only [nameR, key]
            first | (rw [if_pos (by assumption)]; rfl) | (rw [if_neg (by assumption), if_pos (by assumption)]; simp only [ho]; rfl) | (rw [if_neg (by assumption), if_neg (by assumption)]; rfl) | fail
      · have ho : oneL (c :: t) = -1 := if_neg hc
        by_cases c1 : c = 110
        · subst c1
          refine Ct.z wd Tryz.func87 rfl rfl Tryz.ntmps87 rfl rfl rfl rfl ?_
          repeat' ((conv => whnf); (first | (refine hK _ _ _ ?_; clear hK K) | (show Z _ _ _ _ _ _ _ _; first | refine Z.reg wd (fun K hK => ?_) | refine Z.seq ?_ | refine Z.skip ?_ | refine Z.cond (E := Ee) ?_ | refine Z.ret rfl ?_ | refine Z.block ?_ | refine Z.blockEnd ?_) | (show IfB _ _ _; first | refine IfB.T rfl ?_ | refine IfB.F rfl ?_) | refine CallW.or (name_two (ih _ (by first | omega | (simp only [List.length_cons, List.length_drop] at *; omega) | fail))) (fun ⟨hw, rr⟩ ⟨e, hr⟩ => ?_) (fun e => ?_) | (show Need _ _; first | refine Need.mk (by first | omega | (simp only [strMost, mostRows, rS_len, rI_len, List.length_append, List.length_map, List.length_set, List.length_replicate, List.length_cons, List.length_nil, List.length_drop, List.length_take]; done) | (simp only [strMost, mostRows, rS_len, rI_len, List.length_append, List.length_map, List.length_set, List.length_replicate, List.length_cons, List.length_nil, List.length_drop, List.length_take] at *; omega) | (simp at *; omega) | fail) ?_) | (show CallW _ _ _ _; first | refine CallW.mk _ (one_ct _ (by first | omega | (simp only [strMost, mostRows, rS_len, rI_len, List.length_append, List.length_map, List.length_set, List.length_replicate, List.length_cons, List.length_nil, List.length_drop, List.length_take]; done) | (simp only [strMost, mostRows, rS_len, rI_len, List.length_append, List.length_map, List.length_set, List.length_replicate, List.length_cons, List.length_nil, List.length_drop, List.length_take] at *; omega) | (simp at *; omega) | fail)) ?_) | (show Find _ _; first | refine Find.mk _ rfl ?_) | (show Calc _ _; first | refine Calc.mk _ (drop1_cons _ _) ?_ | refine Calc.mk _ rfl ?_) | refine EqB.mk ?_))
          · have e : nameT t = some (hw, rr) := e
            simp only [nameR, nameT_up, e]; rfl
          · have e : nameT t = none := e
            simp only [nameR, nameT_up, e]; rfl
        by_cases c2 : c = 107
        · subst c2
          refine Ct.z wd Tryz.func87 rfl rfl Tryz.ntmps87 rfl rfl rfl rfl ?_
          repeat' ((conv => whnf); (first | (refine hK _ _ _ ?_; clear hK K) | (show Z _ _ _ _ _ _ _ _; first | refine Z.reg wd (fun K hK => ?_) | refine Z.seq ?_ | refine Z.skip ?_ | refine Z.cond (E := Ee) ?_ | refine Z.ret rfl ?_ | refine Z.block ?_ | refine Z.blockEnd ?_) | (show IfB _ _ _; first | refine IfB.T rfl ?_ | refine IfB.F rfl ?_) | refine CallW.or (name_two (ih _ (by first | omega | (simp only [List.length_cons, List.length_drop] at *; omega) | fail))) (fun ⟨hw, rr⟩ ⟨e, hr⟩ => ?_) (fun e => ?_) | (show Need _ _; first | refine Need.mk (by first | omega | (simp only [strMost, mostRows, rS_len, rI_len, List.length_append, List.length_map, List.length_set, List.length_replicate, List.length_cons, List.length_nil, List.length_drop, List.length_take]; done) | (simp only [strMost, mostRows, rS_len, rI_len, List.length_append, List.length_map, List.length_set, List.length_replicate, List.length_cons, List.length_nil, List.length_drop, List.length_take] at *; omega) | (simp at *; omega) | fail) ?_) | (show CallW _ _ _ _; first | refine CallW.mk _ (one_ct _ (by first | omega | (simp only [strMost, mostRows, rS_len, rI_len, List.length_append, List.length_map, List.length_set, List.length_replicate, List.length_cons, List.length_nil, List.length_drop, List.length_take]; done) | (simp only [strMost, mostRows, rS_len, rI_len, List.length_append, List.length_map, List.length_set, List.length_replicate, List.length_cons, List.length_nil, List.length_drop, List.length_take] at *; omega) | (simp at *; omega) | fail)) ?_) | (show Find _ _; first | refine Find.mk _ rfl ?_) | (show Calc _ _; first | refine Calc.mk _ (drop1_cons _ _) ?_ | refine Calc.mk _ rfl ?_) | refine EqB.mk ?_))
          · have e : nameT t = some (hw, rr) := e
            simp only [nameR, nameT_key, e]; rfl
          · have e : nameT t = none := e
            simp only [nameR, nameT_key, e]; rfl
        by_cases c3 : c = 101
        · subst c3
          refine Ct.z wd Tryz.func87 rfl rfl Tryz.ntmps87 rfl rfl rfl rfl ?_
          repeat' ((conv => whnf); (first | (refine hK _ _ _ ?_; clear hK K) | (show Z _ _ _ _ _ _ _ _; first | refine Z.reg wd (fun K hK => ?_) | refine Z.seq ?_ | refine Z.skip ?_ | refine Z.cond (E := Ee) ?_ | refine Z.ret rfl ?_ | refine Z.block ?_ | refine Z.blockEnd ?_) | (show IfB _ _ _; first | refine IfB.T rfl ?_ | refine IfB.F rfl ?_) | refine CallW.or (name_two (ih _ (by first | omega | (simp only [List.length_cons, List.length_drop] at *; omega) | fail))) (fun ⟨hw, rr⟩ ⟨e, hr⟩ => ?_) (fun e => ?_) | (show Need _ _; first | refine Need.mk (by first | omega | (simp only [strMost, mostRows, rS_len, rI_len, List.length_append, List.length_map, List.length_set, List.length_replicate, List.length_cons, List.length_nil, List.length_drop, List.length_take]; done) | (simp only [strMost, mostRows, rS_len, rI_len, List.length_append, List.length_map, List.length_set, List.length_replicate, List.length_cons, List.length_nil, List.length_drop, List.length_take] at *; omega) | (simp at *; omega) | fail) ?_) | (show CallW _ _ _ _; first | refine CallW.mk _ (one_ct _ (by first | omega | (simp only [strMost, mostRows, rS_len, rI_len, List.length_append, List.length_map, List.length_set, List.length_replicate, List.length_cons, List.length_nil, List.length_drop, List.length_take]; done) | (simp only [strMost, mostRows, rS_len, rI_len, List.length_append, List.length_map, List.length_set, List.length_replicate, List.length_cons, List.length_nil, List.length_drop, List.length_take] at *; omega) | (simp at *; omega) | fail)) ?_) | (show Find _ _; first | refine Find.mk _ rfl ?_) | (show Calc _ _; first | refine Calc.mk _ (drop1_cons _ _) ?_ | refine Calc.mk _ rfl ?_) | refine EqB.mk ?_))
          · rename_i hw0 rr0 _ e0 _ _ _
            have e0 : nameT t = some (hw0, rr0) := e0
            have e : nameT rr0 = some (hw, rr) := e
            simp only [nameR, nameT_two, e0, e]; rfl
          · rename_i e0
            have e0 : nameT t = some (hw, rr) := e0
            have e : nameT rr = none := e
            simp only [nameR, nameT_two, e0, e]; rfl
          · have e : nameT t = none := e
            simp only [nameR, nameT_two, e]; rfl
        by_cases c4 : c = 109
        · subst c4
          cases t with
          | nil =>
            refine Ct.z wd Tryz.func87 rfl rfl Tryz.ntmps87 rfl rfl rfl rfl ?_
            repeat' ((conv => whnf); (first | (refine hK _ _ _ ?_; clear hK K) | (show Z _ _ _ _ _ _ _ _; first | refine Z.reg wd (fun K hK => ?_) | refine Z.seq ?_ | refine Z.skip ?_ | refine Z.cond (E := Ee) ?_ | refine Z.ret rfl ?_ | refine Z.block ?_) | (show IfB _ _ _; first | refine IfB.T rfl ?_ | refine IfB.F rfl ?_) | (show Need _ _; first | refine Need.mk (by first | omega | (simp only [strMost, mostRows, rS_len, rI_len, List.length_append, List.length_map, List.length_set, List.length_replicate, List.length_cons, List.length_nil, List.length_drop, List.length_take]; done) | (simp only [strMost, mostRows, rS_len, rI_len, List.length_append, List.length_map, List.length_set, List.length_replicate, List.length_cons, List.length_nil, List.length_drop, List.length_take] at *; omega) | (simp at *; omega) | fail) ?_) | (show CallW _ _ _ _; first | refine CallW.mk _ (one_ct _ (by first | omega | (simp only [strMost, mostRows, rS_len, rI_len, List.length_append, List.length_map, List.length_set, List.length_replicate, List.length_cons, List.length_nil, List.length_drop, List.length_take]; done) | (simp only [strMost, mostRows, rS_len, rI_len, List.length_append, List.length_map, List.length_set, List.length_replicate, List.length_cons, List.length_nil, List.length_drop, List.length_take] at *; omega) | (simp at *; omega) | fail)) ?_) | (show Find _ _; first | refine Find.mk _ rfl ?_) | (show Calc _ _; first | refine Calc.mk _ (drop1_cons _ _) ?_) | exact EqB.mk rfl))
            all_goals rfl
          | cons d t =>
            have hl3 : (d :: t).length = t.length + 1 := rfl
            by_cases hd : 65 ≤ (d.toNat : Int) ∧ (d.toNat : Int) ≤ 72
            · have hod : oneL (d :: t) = (d.toNat : Int) - 65 := if_pos hd
              refine Ct.z wd Tryz.func87 rfl rfl Tryz.ntmps87 rfl rfl rfl rfl ?_
              repeat' ((conv => whnf); (first | (refine hK _ _ _ ?_; clear hK K) | (show Z _ _ _ _ _ _ _ _; first | refine Z.reg wd (fun K hK => ?_) | refine Z.seq ?_ | refine Z.skip ?_ | refine Z.cond (E := Ee) ?_ | refine Z.ret rfl ?_ | refine Z.block ?_ | refine Z.blockEnd ?_) | (show IfB _ _ _; first | refine IfB.T rfl ?_ | refine IfB.F rfl ?_ | refine IfB.DF (by first | assumption | omega | (simp; done) | fail) ?_) | refine CallW.or (name_two (ih _ (by first | omega | (simp only [List.length_cons, List.length_drop] at *; omega) | fail))) (fun ⟨hw, rr⟩ ⟨e, hr⟩ => ?_) (fun e => ?_) | (show Need _ _; first | refine Need.mk (by first | omega | (simp only [strMost, mostRows, rS_len, rI_len, List.length_append, List.length_map, List.length_set, List.length_replicate, List.length_cons, List.length_nil, List.length_drop, List.length_take]; done) | (simp only [strMost, mostRows, rS_len, rI_len, List.length_append, List.length_map, List.length_set, List.length_replicate, List.length_cons, List.length_nil, List.length_drop, List.length_take] at *; omega) | (simp at *; omega) | fail) ?_) | (show CallW _ _ _ _; first | refine CallW.mk _ (one_ct _ (by first | omega | (simp only [strMost, mostRows, rS_len, rI_len, List.length_append, List.length_map, List.length_set, List.length_replicate, List.length_cons, List.length_nil, List.length_drop, List.length_take]; done) | (simp only [strMost, mostRows, rS_len, rI_len, List.length_append, List.length_map, List.length_set, List.length_replicate, List.length_cons, List.length_nil, List.length_drop, List.length_take] at *; omega) | (simp at *; omega) | fail)) ?_) | (show Find _ _; first | refine Find.mk _ rfl ?_) | (show Calc _ _; first | refine Calc.mk _ (drop1_cons _ _) ?_ | refine Calc.mk _ rfl ?_) | refine EqB.mk ?_))
              · simp only [nameR, nameT_say, if_pos hd, e, hod]; rfl
              · simp only [nameR, nameT_say, if_pos hd, e]; rfl
            · have hod : oneL (d :: t) = -1 := if_neg hd
              refine Ct.z wd Tryz.func87 rfl rfl Tryz.ntmps87 rfl rfl rfl rfl ?_
              repeat' ((conv => whnf); (first | (refine hK _ _ _ ?_; clear hK K) | (show Z _ _ _ _ _ _ _ _; first | refine Z.reg wd (fun K hK => ?_) | refine Z.seq ?_ | refine Z.skip ?_ | refine Z.cond (E := Ee) ?_ | refine Z.ret rfl ?_ | refine Z.block ?_) | (show IfB _ _ _; first | refine IfB.T rfl ?_ | refine IfB.F rfl ?_ | refine IfB.DT (by first | assumption | omega | (simp; done) | fail) ?_) | (show Need _ _; first | refine Need.mk (by first | omega | (simp only [strMost, mostRows, rS_len, rI_len, List.length_append, List.length_map, List.length_set, List.length_replicate, List.length_cons, List.length_nil, List.length_drop, List.length_take]; done) | (simp only [strMost, mostRows, rS_len, rI_len, List.length_append, List.length_map, List.length_set, List.length_replicate, List.length_cons, List.length_nil, List.length_drop, List.length_take] at *; omega) | (simp at *; omega) | fail) ?_) | (show CallW _ _ _ _; first | refine CallW.mk _ (one_ct _ (by first | omega | (simp only [strMost, mostRows, rS_len, rI_len, List.length_append, List.length_map, List.length_set, List.length_replicate, List.length_cons, List.length_nil, List.length_drop, List.length_take]; done) | (simp only [strMost, mostRows, rS_len, rI_len, List.length_append, List.length_map, List.length_set, List.length_replicate, List.length_cons, List.length_nil, List.length_drop, List.length_take] at *; omega) | (simp at *; omega) | fail)) ?_) | (show Find _ _; first | refine Find.mk _ rfl ?_) | (show Calc _ _; first | refine Calc.mk _ (drop1_cons _ _) ?_) | refine EqB.mk ?_))
              simp only [nameR, nameT_say, if_neg hd]; rfl
        by_cases c5 : c = 114
        · subst c5
          cases t with
          | nil =>
            refine Ct.z wd Tryz.func87 rfl rfl Tryz.ntmps87 rfl rfl rfl rfl ?_
            repeat' ((conv => whnf); (first | (refine hK _ _ _ ?_; clear hK K) | (show Z _ _ _ _ _ _ _ _; first | refine Z.reg wd (fun K hK => ?_) | refine Z.seq ?_ | refine Z.skip ?_ | refine Z.cond (E := Ee) ?_ | refine Z.ret rfl ?_ | refine Z.block ?_) | (show IfB _ _ _; first | refine IfB.T rfl ?_ | refine IfB.F rfl ?_) | (show Need _ _; first | refine Need.mk (by first | omega | (simp only [strMost, mostRows, rS_len, rI_len, List.length_append, List.length_map, List.length_set, List.length_replicate, List.length_cons, List.length_nil, List.length_drop, List.length_take]; done) | (simp only [strMost, mostRows, rS_len, rI_len, List.length_append, List.length_map, List.length_set, List.length_replicate, List.length_cons, List.length_nil, List.length_drop, List.length_take] at *; omega) | (simp at *; omega) | fail) ?_) | (show CallW _ _ _ _; first | refine CallW.mk _ (one_ct _ (by first | omega | (simp only [strMost, mostRows, rS_len, rI_len, List.length_append, List.length_map, List.length_set, List.length_replicate, List.length_cons, List.length_nil, List.length_drop, List.length_take]; done) | (simp only [strMost, mostRows, rS_len, rI_len, List.length_append, List.length_map, List.length_set, List.length_replicate, List.length_cons, List.length_nil, List.length_drop, List.length_take] at *; omega) | (simp at *; omega) | fail)) ?_) | (show Find _ _; first | refine Find.mk _ rfl ?_) | (show Calc _ _; first | refine Calc.mk _ (drop1_cons _ _) ?_) | exact EqB.mk rfl))
            all_goals rfl
          | cons d t =>
            have hl3 : (d :: t).length = t.length + 1 := rfl
            by_cases hd : 49 ≤ (d.toNat : Int) ∧ (d.toNat : Int) ≤ 57
            · refine Ct.z wd Tryz.func87 rfl rfl Tryz.ntmps87 rfl rfl rfl rfl ?_
              repeat' ((conv => whnf); (first | (refine hK _ _ _ ?_; clear hK K) | (show Z _ _ _ _ _ _ _ _; first | refine Z.reg wd (fun K hK => ?_) | refine Z.seq ?_ | refine Z.skip ?_ | refine Z.cond (E := Ee) ?_ | refine Z.ret rfl ?_ | refine Z.block ?_ | refine Z.blockEnd ?_) | (show IfB _ _ _; first | refine IfB.T rfl ?_ | refine IfB.F rfl ?_ | refine IfB.DF (by first | assumption | omega | (simp; done) | fail) ?_) | refine CallW.or (name_two (ih _ (by first | omega | (simp only [List.length_cons, List.length_drop] at *; omega) | fail))) (fun ⟨hw, rr⟩ ⟨e, hr⟩ => ?_) (fun e => ?_) | (show Need _ _; first | refine Need.mk (by first | omega | (simp only [strMost, mostRows, rS_len, rI_len, List.length_append, List.length_map, List.length_set, List.length_replicate, List.length_cons, List.length_nil, List.length_drop, List.length_take]; done) | (simp only [strMost, mostRows, rS_len, rI_len, List.length_append, List.length_map, List.length_set, List.length_replicate, List.length_cons, List.length_nil, List.length_drop, List.length_take] at *; omega) | (simp at *; omega) | fail) ?_) | (show CallW _ _ _ _; first | refine CallW.mk _ (one_ct _ (by first | omega | (simp only [strMost, mostRows, rS_len, rI_len, List.length_append, List.length_map, List.length_set, List.length_replicate, List.length_cons, List.length_nil, List.length_drop, List.length_take]; done) | (simp only [strMost, mostRows, rS_len, rI_len, List.length_append, List.length_map, List.length_set, List.length_replicate, List.length_cons, List.length_nil, List.length_drop, List.length_take] at *; omega) | (simp at *; omega) | fail)) ?_) | (show Find _ _; first | refine Find.mk _ rfl ?_) | (show Calc _ _; first | refine Calc.mk _ (drop1_cons _ _) ?_ | refine Calc.mk _ rfl ?_) | refine EqB.mk ?_))
              · simp only [nameR, nameT_room, if_pos hd, e]; rfl
              · simp only [nameR, nameT_room, if_pos hd, e]; rfl
            · refine Ct.z wd Tryz.func87 rfl rfl Tryz.ntmps87 rfl rfl rfl rfl ?_
              repeat' ((conv => whnf); (first | (refine hK _ _ _ ?_; clear hK K) | (show Z _ _ _ _ _ _ _ _; first | refine Z.reg wd (fun K hK => ?_) | refine Z.seq ?_ | refine Z.skip ?_ | refine Z.cond (E := Ee) ?_ | refine Z.ret rfl ?_ | refine Z.block ?_) | (show IfB _ _ _; first | refine IfB.T rfl ?_ | refine IfB.F rfl ?_ | refine IfB.DT (by first | assumption | omega | (simp; done) | fail) ?_ | refine IfB.D (fun h => ?_) (fun h => ?_)) | (show Need _ _; first | refine Need.mk (by first | omega | (simp only [strMost, mostRows, rS_len, rI_len, List.length_append, List.length_map, List.length_set, List.length_replicate, List.length_cons, List.length_nil, List.length_drop, List.length_take]; done) | (simp only [strMost, mostRows, rS_len, rI_len, List.length_append, List.length_map, List.length_set, List.length_replicate, List.length_cons, List.length_nil, List.length_drop, List.length_take] at *; omega) | (simp at *; omega) | fail) ?_) | (show CallW _ _ _ _; first | refine CallW.mk _ (one_ct _ (by first | omega | (simp only [strMost, mostRows, rS_len, rI_len, List.length_append, List.length_map, List.length_set, List.length_replicate, List.length_cons, List.length_nil, List.length_drop, List.length_take]; done) | (simp only [strMost, mostRows, rS_len, rI_len, List.length_append, List.length_map, List.length_set, List.length_replicate, List.length_cons, List.length_nil, List.length_drop, List.length_take] at *; omega) | (simp at *; omega) | fail)) ?_) | (show Find _ _; first | refine Find.mk _ rfl ?_) | (show Calc _ _; first | refine Calc.mk _ (drop1_cons _ _) ?_) | refine EqB.mk ?_))
              all_goals (simp only [nameR, nameT_room, if_neg hd]; rfl)
        have d1 := u8ne (n := 110) (by omega) c1
        have d2 := u8ne (n := 107) (by omega) c2
        have d3 := u8ne (n := 101) (by omega) c3
        have d4 := u8ne (n := 109) (by omega) c4
        have d5 := u8ne (n := 114) (by omega) c5
        refine Ct.z wd Tryz.func87 rfl rfl Tryz.ntmps87 rfl rfl rfl rfl ?_
        repeat' ((conv => whnf); (first | (refine hK _ _ _ ?_; clear hK K) | (show Z _ _ _ _ _ _ _ _; first | refine Z.reg wd (fun K hK => ?_) | refine Z.seq ?_ | refine Z.skip ?_ | refine Z.cond (E := Ee) ?_ | refine Z.ret rfl ?_ | refine Z.block ?_) | (show IfB _ _ _; first | refine IfB.F rfl ?_ | refine IfB.DF (by first | assumption | omega | (simp; done) | fail) ?_) | (show Need _ _; first | refine Need.mk (by first | omega | (simp only [strMost, mostRows, rS_len, rI_len, List.length_append, List.length_map, List.length_set, List.length_replicate, List.length_cons, List.length_nil, List.length_drop, List.length_take]; done) | (simp only [strMost, mostRows, rS_len, rI_len, List.length_append, List.length_map, List.length_set, List.length_replicate, List.length_cons, List.length_nil, List.length_drop, List.length_take] at *; omega) | (simp at *; omega) | fail) ?_) | (show CallW _ _ _ _; first | refine CallW.mk _ (one_ct _ (by first | omega | (simp only [strMost, mostRows, rS_len, rI_len, List.length_append, List.length_map, List.length_set, List.length_replicate, List.length_cons, List.length_nil, List.length_drop, List.length_take]; done) | (simp only [strMost, mostRows, rS_len, rI_len, List.length_append, List.length_map, List.length_set, List.length_replicate, List.length_cons, List.length_nil, List.length_drop, List.length_take] at *; omega) | (simp at *; omega) | fail)) ?_) | (show Find _ _; first | refine Find.mk _ rfl ?_) | (show Calc _ _; first | refine Calc.mk _ (drop1_cons _ _) ?_) | refine EqB.mk ?_))
        rw [nameR, nameT_no c t hc c1 c2 c3 c4 c5]; rfl
end Go.Proofs.YtfokmnafgabdiaaGreatDoor.Eng
namespace Go.Proofs.YtfokmnafgabdiaaGreatDoor.Eng
open Go Go.RowKit Kw
set_option linter.unusedVariables false
set_option linter.unusedSimpArgs false
set_option maxRecDepth 10000
attribute [local irreducible] Ct HCt
set_option maxHeartbeats 1000000
theorem secMade_ct (s : List UInt8) : Ct Tryz.prog 72 [bS s] (.w (bHow (madeL s))) := by
  refine Ct.z wd Tryz.func72 rfl rfl Tryz.ntmps72 rfl rfl rfl rfl ?_
  repeat' ((conv => whnf); (first | (refine hK _ _ _ ?_; clear hK K) | (show Z _ _ _ _ _ _ _ _; first | refine Z.reg wd (fun K hK => ?_) | refine Z.seq ?_ | refine Z.skip ?_ | refine Z.cond (E := Ee) ?_ | refine Z.ret rfl ?_) | (show IfB _ _ _; first | refine IfB.T rfl ?_ | refine IfB.F rfl ?_ | refine IfB.D (fun h => ?_) (fun h => ?_)) | refine CallW.or (name_two (name_ct 300 _ (by omega) (by omega))) (fun ⟨hw, rr⟩ ⟨e, hr⟩ => ?_) (fun e => ?_) | refine EqB.mk ?_))
  · have e0 : madeL s = how0 := if_pos (by omega)
    rw [e0]; rfl
  · have e0 : madeL s = how0 := by
      rw [madeL, if_neg (by omega), e]
      cases rr with
      | nil => exact absurd rfl (by assumption)
      | cons => rfl
    rw [e0]; rfl
  · have h' : rr = [] := Classical.byContradiction (by assumption)
    subst h'
    have e0 : madeL s = hw := by rw [madeL, if_neg (by omega), e]
    rw [e0]
  · have e0 : madeL s = how0 := by rw [madeL, if_neg (by omega), e]
    rw [e0]; rfl
def okS (s : List UInt8) : Bool := decide ((madeL s).op ≠ 0)
theorem secOk_ct (s : List UInt8) : Ct Tryz.prog 40 [bS s] (.w (bB (okS s))) := by
  refine Ct.z wd Tryz.func40 rfl rfl Tryz.ntmps40 rfl rfl rfl rfl ?_
  repeat' ((conv => whnf); (first | (refine hK _ _ _ ?_; clear hK K) | (show Z _ _ _ _ _ _ _ _; first | refine Z.reg wd (fun K hK => ?_) | refine Z.seq ?_ | refine Z.ret rfl ?_) | (show CallW _ _ _ _; first | refine CallW.mk _ (secMade_ct _) ?_) | exact EqB.mk rfl))
def keyS (s : List UInt8) : Bool := decide ((madeL s).op = 3)
theorem isKey_ct (s : List UInt8) : Ct Tryz.prog 60 [bS s] (.w (bB (keyS s))) := by
  refine Ct.z wd Tryz.func60 rfl rfl Tryz.ntmps60 rfl rfl rfl rfl ?_
  repeat' ((conv => whnf); (first | (refine hK _ _ _ ?_; clear hK K) | (show Z _ _ _ _ _ _ _ _; first | refine Z.reg wd (fun K hK => ?_) | refine Z.seq ?_ | refine Z.ret rfl ?_) | (show CallW _ _ _ _; first | refine CallW.mk _ (secMade_ct _) ?_) | exact EqB.mk rfl))
theorem okS_len {s : List UInt8} (h : okS s = true) : s.length ≤ 300 := by
  unfold okS madeL at h
  by_cases hl : s.length > 300
  · rw [if_pos hl] at h; simp [how0] at h
  · omega
theorem letterL_len (who : Int) : (letterL who).length = 1 := rfl
theorem dec2_len (n : Int) : (dec2 n).length ≤ 2 := by unfold dec2; split <;> simp
def newS (who n : Int) : List UInt8 := if (0 ≤ who ∧ who ≤ 7) ∧ (1 ≤ n ∧ n ≤ 99) then letterL who ++ dec2 n ++ [59] else []
theorem newS_len (who n : Int) : (newS who n).length ≤ 4 := by
  unfold newS
  have := dec2_len n
  split <;> simp [letterL_len]; omega
theorem joinOne_ct (s : List UInt8) : Ct Tryz.prog 76 [bSs [s], bS []] (.w (bS s)) := by
  refine Ct.z wd Tryz.func76 rfl rfl Tryz.ntmps76 rfl rfl rfl rfl ?_
  repeat' ((conv => whnf); (first | (refine hK _ _ _ ?_; clear hK K) | (show Z _ _ _ _ _ _ _ _; first | refine Z.reg wd (fun K hK => ?_) | refine Z.seq ?_ | refine Z.cond (E := Ee) ?_ | refine Z.ret rfl ?_ | refine Z.block ?_) | (show IfB _ _ _; first | refine IfB.T rfl ?_ | refine IfB.F rfl ?_) | (show Need _ _; first | refine Need.mk (by first | omega | (simp only [strMost, mostRows, rS_len, rI_len, List.length_append, List.length_map, List.length_set, List.length_replicate, List.length_cons, List.length_nil, List.length_drop, List.length_take, letterL_len]; done) | (simp only [strMost, mostRows, rS_len, rI_len, List.length_append, List.length_map, List.length_set, List.length_replicate, List.length_cons, List.length_nil, List.length_drop, List.length_take, letterL_len] at *; omega) | (simp at *; omega) | fail) ?_) | (show Find _ _; first | refine Find.mk _ rfl ?_) | (show Calc _ _; first | refine Calc.mk _ (rS_len _) ?_) | exact EqB.mk rfl))
def mkS (a s : List UInt8) : List UInt8 := if okS s = true ∧ a.length + s.length ≤ 300 then a ++ s else []
theorem mkS_len (a s : List UInt8) : (mkS a s).length ≤ 300 := by unfold mkS; split <;> simp; omega
theorem madeOne_ct (a s : List UInt8) (ha : a.length ≤ 2) : Ct Tryz.prog 55 [bS a, bSs [s]] (.w (bS (mkS a s))) := by
  by_cases hs : okS s = true
  · have hl := okS_len hs
    refine Ct.z wd Tryz.func55 rfl rfl Tryz.ntmps55 rfl rfl rfl rfl ?_
    repeat' ((conv => whnf); (first | (refine hK _ _ _ ?_; clear hK K) | (show Z _ _ _ _ _ _ _ _; first | refine Z.reg wd (fun K hK => ?_) | refine Z.seq ?_ | refine Z.skip ?_ | refine Z.cond (E := Ee) ?_ | refine Z.ret rfl ?_ | refine Z.block ?_ | refine Z.blockEnd ?_ | refine Z.exit rfl ?_ | refine Z.again ?_ | refine Z.loop 3 (Z.again ?_)) | (show IfB _ _ _; first | refine IfB.T rfl ?_ | refine IfB.F rfl ?_ | refine IfB.T (by assumption) ?_ | refine IfB.N ?_ | refine IfB.D (fun h => ?_) (fun h => ?_)) | (show Need _ _; first | refine Need.mk (by first | omega | (simp only [strMost, mostRows, rS_len, rI_len, List.length_append, List.length_map, List.length_set, List.length_replicate, List.length_cons, List.length_nil, List.length_drop, List.length_take, letterL_len]; done) | (simp only [strMost, mostRows, rS_len, rI_len, List.length_append, List.length_map, List.length_set, List.length_replicate, List.length_cons, List.length_nil, List.length_drop, List.length_take, letterL_len] at *; omega) | (simp at *; omega) | fail) ?_) | (show CallW _ _ _ _; first | refine CallW.mk _ (secOk_ct _) ?_ | refine CallW.mk _ (joinOne_ct _) ?_) | (show Find _ _; first | refine Find.mk _ rfl ?_) | (show Calc _ _; first | refine Calc.mk _ (rS_len _) ?_) | refine EqB.mk ?_))
    · rw [mkS, if_pos ⟨hs, by simp at h; omega⟩]
    · rw [mkS, if_neg (by simp at h; omega)]; rfl
  · have hs : okS s = false := by simpa using hs
    refine Ct.z wd Tryz.func55 rfl rfl Tryz.ntmps55 rfl rfl rfl rfl ?_
    repeat' ((conv => whnf); (first | (refine hK _ _ _ ?_; clear hK K) | (show Z _ _ _ _ _ _ _ _; first | refine Z.reg wd (fun K hK => ?_) | refine Z.seq ?_ | refine Z.skip ?_ | refine Z.cond (E := Ee) ?_ | refine Z.ret rfl ?_ | refine Z.block ?_ | refine Z.loop 3 (Z.again ?_)) | (show IfB _ _ _; first | refine IfB.T rfl ?_ | refine IfB.F (by assumption) ?_ | refine IfB.N ?_) | (show Need _ _; first | refine Need.mk (by first | omega | (simp only [strMost, mostRows, rS_len, rI_len, List.length_append, List.length_map, List.length_set, List.length_replicate, List.length_cons, List.length_nil, List.length_drop, List.length_take, letterL_len]; done) | (simp only [strMost, mostRows, rS_len, rI_len, List.length_append, List.length_map, List.length_set, List.length_replicate, List.length_cons, List.length_nil, List.length_drop, List.length_take, letterL_len] at *; omega) | (simp at *; omega) | fail) ?_) | (show CallW _ _ _ _; first | refine CallW.mk _ (secOk_ct _) ?_) | (show Find _ _; first | refine Find.mk _ rfl ?_) | (show Calc _ _; first | refine Calc.mk _ (rS_len _) ?_) | refine EqB.mk ?_))
    rw [mkS, if_neg (by simp [hs])]; rfl
def nextS (s : List UInt8) : List UInt8 := mkS [110] s
def keyOf (s : List UInt8) : List UInt8 := mkS [107] s
theorem makNext_ct (s : List UInt8) : Ct Tryz.prog 26 [bS s] (.w (bS (nextS s))) := by
  refine Ct.z wd Tryz.func26 rfl rfl Tryz.ntmps26 rfl rfl rfl rfl ?_
  repeat' ((conv => whnf); (first | (refine hK _ _ _ ?_; clear hK K) | (show Z _ _ _ _ _ _ _ _; first | refine Z.reg wd (fun K hK => ?_) | refine Z.seq ?_ | refine Z.ret rfl ?_) | (show Need _ _; first | refine Need.mk ⟨by first | (simp only [BV.untie, BW.untie, B1.untie, B0.untie, untie_rI, untie_rS, List.map_cons, List.map_nil]; done) | (simp only [BV.untie, BW.untie, B1.untie, B0.untie, untie_rI, untie_rS, List.map_cons, List.map_nil]; rfl) | fail, rfl⟩ ?_) | (show CallW _ _ _ _; first | refine CallW.mk _ (madeOne_ct _ _ (by first | omega | (simp only [strMost, mostRows, rS_len, rI_len, List.length_append, List.length_map, List.length_set, List.length_replicate, List.length_cons, List.length_nil, List.length_drop, List.length_take, letterL_len]; done) | (simp only [strMost, mostRows, rS_len, rI_len, List.length_append, List.length_map, List.length_set, List.length_replicate, List.length_cons, List.length_nil, List.length_drop, List.length_take, letterL_len] at *; omega) | (simp at *; omega) | fail)) ?_) | (show Calc _ _; first | refine Calc.mk _ (vw_n (by first | rfl | assumption | (simp only [rS_len, rI_len, List.length_append, List.length_map, List.length_set, List.length_replicate, List.length_cons, List.length_nil, Nat.zero_add, letterL_len]; done) | omega | (simp only [rS_len, rI_len, List.length_append, List.length_map, List.length_set, List.length_replicate, List.length_cons, List.length_nil, List.length_drop, List.length_take, letterL_len] at *; omega) | fail)) ?_) | exact EqB.mk rfl))
theorem makKey_ct (s : List UInt8) : Ct Tryz.prog 22 [bS s] (.w (bS (keyOf s))) := by
  refine Ct.z wd Tryz.func22 rfl rfl Tryz.ntmps22 rfl rfl rfl rfl ?_
  repeat' ((conv => whnf); (first | (refine hK _ _ _ ?_; clear hK K) | (show Z _ _ _ _ _ _ _ _; first | refine Z.reg wd (fun K hK => ?_) | refine Z.seq ?_ | refine Z.ret rfl ?_) | (show Need _ _; first | refine Need.mk ⟨by first | (simp only [BV.untie, BW.untie, B1.untie, B0.untie, untie_rI, untie_rS, List.map_cons, List.map_nil]; done) | (simp only [BV.untie, BW.untie, B1.untie, B0.untie, untie_rI, untie_rS, List.map_cons, List.map_nil]; rfl) | fail, rfl⟩ ?_) | (show CallW _ _ _ _; first | refine CallW.mk _ (madeOne_ct _ _ (by first | omega | (simp only [strMost, mostRows, rS_len, rI_len, List.length_append, List.length_map, List.length_set, List.length_replicate, List.length_cons, List.length_nil, List.length_drop, List.length_take, letterL_len]; done) | (simp only [strMost, mostRows, rS_len, rI_len, List.length_append, List.length_map, List.length_set, List.length_replicate, List.length_cons, List.length_nil, List.length_drop, List.length_take, letterL_len] at *; omega) | (simp at *; omega) | fail)) ?_) | (show Calc _ _; first | refine Calc.mk _ (vw_n (by first | rfl | assumption | (simp only [rS_len, rI_len, List.length_append, List.length_map, List.length_set, List.length_replicate, List.length_cons, List.length_nil, Nat.zero_add, letterL_len]; done) | omega | (simp only [rS_len, rI_len, List.length_append, List.length_map, List.length_set, List.length_replicate, List.length_cons, List.length_nil, List.length_drop, List.length_take, letterL_len] at *; omega) | fail)) ?_) | exact EqB.mk rfl))
attribute [irreducible] okS keyS
end Go.Proofs.YtfokmnafgabdiaaGreatDoor.Eng
namespace Go.Proofs.YtfokmnafgabdiaaGreatDoor.Eng
open Go Go.RowKit Kw
set_option linter.unusedVariables false
set_option linter.unusedSimpArgs false
set_option maxRecDepth 10000
attribute [local irreducible] Ct HCt
set_option maxHeartbeats 1000000
theorem l1More_ct (n m : Int) (h : -1000000 ≤ n ∧ n ≤ 1000000) (h2 : -1000000 ≤ m ∧ m ≤ 1000000) : Ct Tryz.prog 84 [bI n, bI m] (.w (bI (moreL n m))) := by
  refine Ct.z wd Tryz.func84 rfl rfl Tryz.ntmps84 rfl rfl rfl rfl ?_
  repeat' ((conv => whnf); (first | (refine hK _ _ _ ?_; clear hK K) | (show Z _ _ _ _ _ _ _ _; first | refine Z.reg wd (fun K hK => ?_) | refine Z.seq ?_ | refine Z.skip ?_ | refine Z.cond (E := Ee) ?_ | refine Z.ret rfl ?_) | (show IfB _ _ _; first | refine IfB.D (fun h => ?_) (fun h => ?_)) | (show Need _ _; first | refine Need.mk (by first | omega | (simp only [strMost, mostRows, rS_len, rI_len, List.length_append, List.length_map, List.length_set, List.length_replicate, List.length_cons, List.length_nil, List.length_drop, List.length_take, letterL_len]; done) | (simp only [strMost, mostRows, rS_len, rI_len, List.length_append, List.length_map, List.length_set, List.length_replicate, List.length_cons, List.length_nil, List.length_drop, List.length_take, letterL_len] at *; omega) | (simp at *; omega) | fail) ?_) | refine EqB.mk ?_))
  · rw [moreL, if_pos h]
  · rw [moreL, if_neg h]
theorem l1Who_ct (who : Int) (h : 0 ≤ who ∧ who ≤ 7) : Ct Tryz.prog 78 [bI who] (.w (bS (letterL who))) := by
  refine Ct.z wd Tryz.func78 rfl rfl Tryz.ntmps78 rfl rfl rfl rfl ?_
  repeat' ((conv => whnf); (first | (refine hK _ _ _ ?_; clear hK K) | (show Z _ _ _ _ _ _ _ _; first | refine Z.reg wd (fun K hK => ?_) | refine Z.seq ?_ | refine Z.ret rfl ?_) | (show Need _ _; first | refine Need.mk (by first | omega | (simp only [strMost, mostRows, rS_len, rI_len, List.length_append, List.length_map, List.length_set, List.length_replicate, List.length_cons, List.length_nil, List.length_drop, List.length_take, letterL_len]; done) | (simp only [strMost, mostRows, rS_len, rI_len, List.length_append, List.length_map, List.length_set, List.length_replicate, List.length_cons, List.length_nil, List.length_drop, List.length_take, letterL_len] at *; omega) | (simp at *; omega) | fail) ?_) | (show Find _ _; first | refine Find.mk _ rfl ?_) | (show Calc _ _; first | refine Calc.mk _ (vw_n (by first | rfl | assumption | (simp only [rS_len, rI_len, List.length_append, List.length_map, List.length_set, List.length_replicate, List.length_cons, List.length_nil, Nat.zero_add, letterL_len]; done) | omega | (simp only [rS_len, rI_len, List.length_append, List.length_map, List.length_set, List.length_replicate, List.length_cons, List.length_nil, List.length_drop, List.length_take, letterL_len] at *; omega) | fail)) ?_) | exact EqB.mk rfl))
theorem plain_a : ∀ m : Fin 10, ([UInt8.ofNat (48 + (m.1 : Int)).toNat] : List UInt8) = dec2 m.1 := by decide +kernel
theorem plain_b : ∀ m : Fin 100, 10 ≤ m.1 → ([UInt8.ofNat (48 + (m.1 : Int) / 10).toNat, UInt8.ofNat (48 + (m.1 : Int) % 10).toNat] : List UInt8) = dec2 m.1 := by decide +kernel
theorem l1Plain_ct (n : Int) (h : 0 ≤ n ∧ n < 100) : Ct Tryz.prog 79 [bI n] (.w (bS (dec2 n))) := by
  obtain ⟨m, rfl⟩ : ∃ m : Nat, n = m := ⟨n.toNat, by omega⟩
  by_cases h1 : (m : Int) > 9
  · refine Ct.z wd Tryz.func79 rfl rfl Tryz.ntmps79 rfl rfl rfl rfl ?_
    repeat' ((conv => whnf); (first | (refine hK _ _ _ ?_; clear hK K) | (show Z _ _ _ _ _ _ _ _; first | refine Z.reg wd (fun K hK => ?_) | refine Z.seq ?_ | refine Z.skip ?_ | refine Z.cond (E := Ee) ?_ | refine Z.ret rfl ?_ | refine Z.block ?_ | refine Z.blockEnd ?_ | refine Z.exit rfl ?_ | refine Z.again ?_ | refine Z.loop 3 (Z.again ?_)) | (show IfB _ _ _; first | refine IfB.DT (by first | assumption | omega | (simp; done) | fail) ?_ | refine IfB.DF (by first | assumption | omega | (simp; done) | fail) ?_) | (show Need _ _; first | refine Need.mk (by first | omega | (simp only [strMost, mostRows, rS_len, rI_len, List.length_append, List.length_map, List.length_set, List.length_replicate, List.length_cons, List.length_nil, List.length_drop, List.length_take, letterL_len]; done) | (simp only [strMost, mostRows, rS_len, rI_len, List.length_append, List.length_map, List.length_set, List.length_replicate, List.length_cons, List.length_nil, List.length_drop, List.length_take, letterL_len] at *; omega) | (simp at *; omega) | fail) ?_) | (show Find _ _; first | refine Find.mk _ rfl ?_) | (show Calc _ _; first | refine Calc.mk _ (vw_n (by first | rfl | assumption | (simp only [rS_len, rI_len, List.length_append, List.length_map, List.length_set, List.length_replicate, List.length_cons, List.length_nil, Nat.zero_add, letterL_len]; done) | omega | (simp only [rS_len, rI_len, List.length_append, List.length_map, List.length_set, List.length_replicate, List.length_cons, List.length_nil, List.length_drop, List.length_take, letterL_len] at *; omega) | fail)) ?_) | refine EqB.mk ?_))
    all_goals (rw [← plain_b ⟨m, by omega⟩ (by simp; omega)]; rfl)
  · refine Ct.z wd Tryz.func79 rfl rfl Tryz.ntmps79 rfl rfl rfl rfl ?_
    repeat' ((conv => whnf); (first | (refine hK _ _ _ ?_; clear hK K) | (show Z _ _ _ _ _ _ _ _; first | refine Z.reg wd (fun K hK => ?_) | refine Z.seq ?_ | refine Z.cond (E := Ee) ?_ | refine Z.ret rfl ?_ | refine Z.block ?_ | refine Z.exit rfl ?_ | refine Z.loop 3 (Z.again ?_)) | (show IfB _ _ _; first | refine IfB.DF (by first | assumption | omega | (simp; done) | fail) ?_) | (show Need _ _; first | refine Need.mk (by first | omega | (simp only [strMost, mostRows, rS_len, rI_len, List.length_append, List.length_map, List.length_set, List.length_replicate, List.length_cons, List.length_nil, List.length_drop, List.length_take, letterL_len]; done) | (simp only [strMost, mostRows, rS_len, rI_len, List.length_append, List.length_map, List.length_set, List.length_replicate, List.length_cons, List.length_nil, List.length_drop, List.length_take, letterL_len] at *; omega) | (simp at *; omega) | fail) ?_) | (show Find _ _; first | refine Find.mk _ rfl ?_) | (show Calc _ _; first | refine Calc.mk _ (vw_n (by first | rfl | assumption | (simp only [rS_len, rI_len, List.length_append, List.length_map, List.length_set, List.length_replicate, List.length_cons, List.length_nil, Nat.zero_add, letterL_len]; done) | omega | (simp only [rS_len, rI_len, List.length_append, List.length_map, List.length_set, List.length_replicate, List.length_cons, List.length_nil, List.length_drop, List.length_take, letterL_len] at *; omega) | fail)) ?_) | refine EqB.mk ?_))
    all_goals (rw [← plain_a ⟨m, by omega⟩]; rfl)
theorem sMakNew_ct (who n : Int) : Ct Tryz.prog 61 [bI who, bI n] (.w (bS (newS who n))) := by
  have hd := dec2_len n
  refine Ct.z wd Tryz.func61 rfl rfl Tryz.ntmps61 rfl rfl rfl rfl ?_
  repeat' ((conv => whnf); (first | (refine hK _ _ _ ?_; clear hK K) | (show Z _ _ _ _ _ _ _ _; first | refine Z.reg wd (fun K hK => ?_) | refine Z.seq ?_ | refine Z.skip ?_ | refine Z.cond (E := Ee) ?_ | refine Z.ret rfl ?_) | (show IfB _ _ _; first | refine IfB.T rfl ?_ | refine IfB.F rfl ?_ | refine IfB.N ?_ | refine IfB.D (fun h => ?_) (fun h => ?_)) | (show Need _ _; first | refine Need.mk (by first | omega | (simp only [strMost, mostRows, rS_len, rI_len, List.length_append, List.length_map, List.length_set, List.length_replicate, List.length_cons, List.length_nil, List.length_drop, List.length_take, letterL_len]; done) | (simp only [strMost, mostRows, rS_len, rI_len, List.length_append, List.length_map, List.length_set, List.length_replicate, List.length_cons, List.length_nil, List.length_drop, List.length_take, letterL_len] at *; omega) | (simp at *; omega) | fail) ?_) | (show CallW _ _ _ _; first | refine CallW.mk _ (l1In_ct _ _ _) ?_ | refine CallW.mk _ (l1Who_ct _ (by omega)) ?_ | refine CallW.mk _ (l1Plain_ct _ (by omega)) ?_) | refine EqB.mk ?_))
  · rw [newS, if_pos ⟨by omega, by omega⟩]
  · rw [newS, if_neg (by omega)]; rfl
  · rw [newS, if_neg (by omega)]; rfl
end Go.Proofs.YtfokmnafgabdiaaGreatDoor.Eng
namespace Go.Proofs.YtfokmnafgabdiaaGreatDoor.Eng
open Go Go.RowKit Kw
set_option linter.unusedVariables false
set_option linter.unusedSimpArgs false
set_option maxRecDepth 10000
attribute [local irreducible] Ct HCt
set_option maxHeartbeats 4000000
theorem bI_eq {a b : Int} (h : a = b) : BV.w (.one (.b (.c (.lit (.int .i64 a))))) = BV.w (bI b) := by rw [h]
theorem drop_get {s u : List UInt8} {a : Int} (hd : s.drop a.toNat = u) (h0 : 0 ≤ a) (i : Nat) {j : Int} (hj : j = a + i) {b : UInt8} (hu : u[i]? = some b) : s[j.toNat]? = some b := by
  subst hd
  rw [List.getElem?_drop] at hu
  rw [show j.toNat = a.toNat + i from by omega]; exact hu
theorem take_2 {s r : List UInt8} {a : Int} {c d : UInt8} {m : Nat} (hd : s.drop a.toNat = c :: d :: r) (hm : m = 2) : (s.drop a.toNat).take m = [c, d] := by subst hm; rw [hd]; rfl
theorem take_3 {s r : List UInt8} {a : Int} {c d e : UInt8} {m : Nat} (hd : s.drop a.toNat = c :: d :: e :: r) (hm : m = 3) : (s.drop a.toNat).take m = [c, d, e] := by subst hm; rw [hd]; rfl
theorem take_4 {s r : List UInt8} {a : Int} {c d e f : UInt8} {m : Nat} (hd : s.drop a.toNat = c :: d :: e :: f :: r) (hm : m = 4) : (s.drop a.toNat).take m = [c, d, e, f] := by subst hm; rw [hd]; rfl
theorem take_5 {s r : List UInt8} {a : Int} {c d e f g : UInt8} {m : Nat} (hd : s.drop a.toNat = c :: d :: e :: f :: g :: r) (hm : m = 5) : (s.drop a.toNat).take m = [c, d, e, f, g] := by subst hm; rw [hd]; rfl
theorem drop_len {s u : List UInt8} {a : Int} (hd : s.drop a.toNat = u) (h0 : 0 ≤ a) (hu : u ≠ []) : (s.length : Int) = a + u.length := by
  have := congrArg List.length hd
  have hp : 0 < u.length := by cases u with | nil => exact absurd rfl hu | cons => simp
  rw [List.length_drop] at this
  omega
theorem l1Fresh_no {s t : List UInt8} {a : Int} {c : UInt8} (h0 : 0 ≤ a) (hs : s.length ≤ 300) (hd : s.drop a.toNat = c :: t) (hc : ¬ (65 ≤ (c.toNat : Int) ∧ (c.toNat : Int) ≤ 72)) : Ct Tryz.prog 85 [bS s, bI a] (.w (bI 0)) := by
  have hlen := drop_len hd h0 (by simp)
  simp only [List.length_cons] at hlen
  refine Ct.z wd Tryz.func85 rfl rfl Tryz.ntmps85 rfl rfl rfl rfl ?_
  repeat' ((conv => whnf); (first | (refine hK _ _ _ ?_; clear hK K) | (show Z _ _ _ _ _ _ _ _; first | refine Z.reg wd (fun K hK => ?_) | refine Z.seq ?_ | refine Z.cond (E := Ee) ?_ | refine Z.ret rfl ?_) | (show IfB _ _ _; first | refine IfB.T rfl ?_ | refine IfB.F rfl ?_ | refine IfB.DT (by first | assumption | omega | (simp; done) | fail) ?_ | refine IfB.D (fun h => ?_) (fun h => ?_)) | (show Need _ _; first | refine Need.mk (by first | omega | (simp only [strMost, mostRows, rS_len, rI_len, List.length_append, List.length_map, List.length_set, List.length_replicate, List.length_cons, List.length_nil, List.length_drop, List.length_take, letterL_len]; done) | (simp only [strMost, mostRows, rS_len, rI_len, List.length_append, List.length_map, List.length_set, List.length_replicate, List.length_cons, List.length_nil, List.length_drop, List.length_take, letterL_len] at *; omega) | (simp at *; omega) | fail) ?_) | (show Find _ _; first | refine Find.mk _ (drop_get hd h0 0 (by omega) rfl) ?_) | exact EqB.mk rfl))
theorem l1Fresh_0 {s : List UInt8} {a : Int} {c : UInt8} (h0 : 0 ≤ a) (hs : s.length ≤ 300) (hd : s.drop a.toNat = [c]) (hc : 65 ≤ (c.toNat : Int) ∧ (c.toNat : Int) ≤ 72) : Ct Tryz.prog 85 [bS s, bI a] (.w (bI (sizeL [c]))) := by
  have hlen := drop_len hd h0 (by simp)
  have hz : sizeL [c] = 0 := sizeL_none (by rw [nameT_new _ _ hc])
  rw [hz]
  simp only [List.length_cons, List.length_nil] at hlen
  refine Ct.z wd Tryz.func85 rfl rfl Tryz.ntmps85 rfl rfl rfl rfl ?_
  repeat' ((conv => whnf); (first | (refine hK _ _ _ ?_; clear hK K) | (show Z _ _ _ _ _ _ _ _; first | refine Z.reg wd (fun K hK => ?_) | refine Z.draw2 wd rfl (fun K hK => ?_) | refine Z.seq ?_ | refine Z.skip ?_ | refine Z.cond (E := Ee) ?_ | refine Z.ret rfl ?_ | refine Z.block ?_ | refine Z.exit rfl ?_ | refine Z.loop 5 (Z.again ?_)) | (show IfB _ _ _; first | refine IfB.T rfl ?_ | refine IfB.F rfl ?_ | refine IfB.DT (by first | assumption | omega | (simp; done) | fail) ?_ | refine IfB.DF (by first | assumption | omega | (simp; done) | fail) ?_) | (show Need _ _; first | refine Need.mk (by kernel_rfl) ?_ | refine Need.mk (by first | omega | (simp only [strMost, mostRows, rS_len, rI_len, List.length_append, List.length_map, List.length_set, List.length_replicate, List.length_cons, List.length_nil, List.length_drop, List.length_take, letterL_len]; done) | (simp only [strMost, mostRows, rS_len, rI_len, List.length_append, List.length_map, List.length_set, List.length_replicate, List.length_cons, List.length_nil, List.length_drop, List.length_take, letterL_len] at *; omega) | (simp at *; omega) | fail) ?_) | (show Find _ _; first | refine Find.mk _ (drop_get hd h0 0 (by omega) rfl) ?_) | exact EqB.mk rfl))
theorem letter_c {c : UInt8} (hc : 65 ≤ (c.toNat : Int) ∧ (c.toNat : Int) ≤ 72) : letterL ((c.toNat : Int) - 65) = [c] := by
  unfold letterL
  rw [show (65 + ((c.toNat : Int) - 65)).toNat = c.toNat from by omega]; simp
theorem dec_1 {d : UInt8} (hd : 48 ≤ (d.toNat : Int) ∧ (d.toNat : Int) ≤ 57) : dec2 (0 * 10 + ((d.toNat : Int) - 48)) = [d] := by
  unfold dec2
  rw [if_pos (by omega), show 48 + (0 * 10 + ((d.toNat : Int) - 48)).toNat = d.toNat from by omega]; simp
theorem dec_2 {d e : UInt8} (hd : 48 < (d.toNat : Int) ∧ (d.toNat : Int) ≤ 57) (he : 48 ≤ (e.toNat : Int) ∧ (e.toNat : Int) ≤ 57) : dec2 ((0 * 10 + ((d.toNat : Int) - 48)) * 10 + ((e.toNat : Int) - 48)) = [d, e] := by
  unfold dec2
  rw [if_neg (by omega), show 48 + ((0 * 10 + ((d.toNat : Int) - 48)) * 10 + ((e.toNat : Int) - 48)).toNat / 10 = d.toNat from by omega, show 48 + ((0 * 10 + ((d.toNat : Int) - 48)) * 10 + ((e.toNat : Int) - 48)).toNat % 10 = e.toNat from by omega]; simp
theorem dec_2b {d e : UInt8} (hd : (d.toNat : Int) = 48) (he : 48 ≤ (e.toNat : Int) ∧ (e.toNat : Int) ≤ 57) : dec2 ((0 * 10 + ((d.toNat : Int) - 48)) * 10 + ((e.toNat : Int) - 48)) = [e] := by
  unfold dec2
  rw [if_pos (by omega), show 48 + ((0 * 10 + ((d.toNat : Int) - 48)) * 10 + ((e.toNat : Int) - 48)).toNat = e.toNat from by omega]; simp
theorem fr_A {s t : List UInt8} {a : Int} {c d : UInt8} (h0 : 0 ≤ a) (hs : s.length ≤ 300) (hd : s.drop a.toNat = c :: d :: t) (hc : 65 ≤ (c.toNat : Int) ∧ (c.toNat : Int) ≤ 72) (hdg : ¬ (48 ≤ (d.toNat : Int) ∧ (d.toNat : Int) ≤ 57)) : Ct Tryz.prog 85 [bS s, bI a] (.w (bI 0)) := by
  have hlen := drop_len hd h0 (by simp)
  simp only [List.length_cons, List.length_nil] at hlen
  have hM : Ct Tryz.prog 61 [bI ((c.toNat : Int) - 65), bI 0] (.w (bS [])) := by have := sMakNew_ct ((c.toNat : Int) - 65) 0; rwa [newS, if_neg (by omega)] at this
  refine Ct.z wd Tryz.func85 rfl rfl Tryz.ntmps85 rfl rfl rfl rfl ?_
  repeat' ((conv => whnf); (first | (refine hK _ _ _ ?_; clear hK K) | (show Z _ _ _ _ _ _ _ _; first | refine Z.reg wd (fun K hK => ?_) | refine Z.draw2 wd rfl (fun K hK => ?_) | refine Z.seq ?_ | refine Z.skip ?_ | refine Z.cond (E := Ee) ?_ | refine Z.ret rfl ?_ | refine Z.block ?_ | refine Z.exit rfl ?_ | refine Z.loop 5 (Z.again ?_)) | (show IfB _ _ _; first | refine IfB.T rfl ?_ | refine IfB.F rfl ?_ | refine IfB.DT (by first | assumption | omega | (simp; done) | fail) ?_ | refine IfB.DF (by first | assumption | omega | (simp; done) | fail) ?_ | refine IfB.D (fun h => ?_) (fun h => ?_)) | (show Need _ _; first | refine Need.mk (by kernel_rfl) ?_ | refine Need.mk (by first | omega | (simp only [strMost, mostRows, rS_len, rI_len, List.length_append, List.length_map, List.length_set, List.length_replicate, List.length_cons, List.length_nil, List.length_drop, List.length_take, letterL_len]; done) | (simp only [strMost, mostRows, rS_len, rI_len, List.length_append, List.length_map, List.length_set, List.length_replicate, List.length_cons, List.length_nil, List.length_drop, List.length_take, letterL_len] at *; omega) | (simp at *; omega) | fail) ?_) | (show CallD _ _ _ _ _; first | refine CallD.mk _ hM (by first | ((repeat' (first | exact trivial | assumption |  exact fun _ => rfl | refine And.intro ?_ ?_ | (intro e; first | (simp at e; done) | (simp at e; omega)) | fail)); done) | fail) ?_) | (show Find _ _; first | refine Find.mk _ (drop_get hd h0 1 (by omega) rfl) ?_ | refine Find.mk _ (drop_get hd h0 0 (by omega) rfl) ?_) | (show Calc _ _; first | refine Calc.mk _ (take_2 hd (by omega)) ?_) | exact EqB.mk rfl))
theorem fr_B0 {s : List UInt8} {a : Int} {c d : UInt8} (h0 : 0 ≤ a) (hs : s.length ≤ 300) (hd : s.drop a.toNat = [c, d]) (hc : 65 ≤ (c.toNat : Int) ∧ (c.toNat : Int) ≤ 72) (hdg : 48 ≤ (d.toNat : Int) ∧ (d.toNat : Int) ≤ 57) : Ct Tryz.prog 85 [bS s, bI a] (.w (bI 0)) := by
  have hlen := drop_len hd h0 (by simp)
  simp only [List.length_cons, List.length_nil] at hlen
  refine Ct.z wd Tryz.func85 rfl rfl Tryz.ntmps85 rfl rfl rfl rfl ?_
  repeat' ((conv => whnf); (first | (refine hK _ _ _ ?_; clear hK K) | (show Z _ _ _ _ _ _ _ _; first | refine Z.reg wd (fun K hK => ?_) | refine Z.draw2 wd rfl (fun K hK => ?_) | refine Z.seq ?_ | refine Z.skip ?_ | refine Z.cond (E := Ee) ?_ | refine Z.ret rfl ?_ | refine Z.block ?_ | refine Z.blockEnd ?_ | refine Z.exit rfl ?_ | refine Z.again ?_ | refine Z.loop 5 (Z.again ?_)) | (show IfB _ _ _; first | refine IfB.T rfl ?_ | refine IfB.F rfl ?_ | refine IfB.DT (by first | assumption | omega | (simp; done) | fail) ?_ | refine IfB.DF (by first | assumption | omega | (simp; done) | fail) ?_) | (show Need _ _; first | refine Need.mk (by kernel_rfl) ?_ | refine Need.mk (by first | omega | (simp only [strMost, mostRows, rS_len, rI_len, List.length_append, List.length_map, List.length_set, List.length_replicate, List.length_cons, List.length_nil, List.length_drop, List.length_take, letterL_len]; done) | (simp only [strMost, mostRows, rS_len, rI_len, List.length_append, List.length_map, List.length_set, List.length_replicate, List.length_cons, List.length_nil, List.length_drop, List.length_take, letterL_len] at *; omega) | (simp at *; omega) | fail) ?_) | (show Find _ _; first | refine Find.mk _ (drop_get hd h0 1 (by omega) rfl) ?_ | refine Find.mk _ (drop_get hd h0 0 (by omega) rfl) ?_) | exact EqB.mk rfl))
theorem fr_B1 {s t : List UInt8} {a : Int} {c d e : UInt8} (h0 : 0 ≤ a) (hs : s.length ≤ 300) (hd : s.drop a.toNat = c :: d :: e :: t) (hc : 65 ≤ (c.toNat : Int) ∧ (c.toNat : Int) ≤ 72) (hdg : 48 ≤ (d.toNat : Int) ∧ (d.toNat : Int) ≤ 57) (heg : ¬ (48 ≤ (e.toNat : Int) ∧ (e.toNat : Int) ≤ 57)) (he9 : (e.toNat : Int) ≠ 59) : Ct Tryz.prog 85 [bS s, bI a] (.w (bI 0)) := by
  have hlen := drop_len hd h0 (by simp)
  simp only [List.length_cons, List.length_nil] at hlen
  refine Ct.z wd Tryz.func85 rfl rfl Tryz.ntmps85 rfl rfl rfl rfl ?_
  repeat' ((conv => whnf); (first | (refine hK _ _ _ ?_; clear hK K) | (show Z _ _ _ _ _ _ _ _; first | refine Z.reg wd (fun K hK => ?_) | refine Z.draw2 wd rfl (fun K hK => ?_) | refine Z.seq ?_ | refine Z.skip ?_ | refine Z.cond (E := Ee) ?_ | refine Z.ret rfl ?_ | refine Z.block ?_ | refine Z.blockEnd ?_ | refine Z.exit rfl ?_ | refine Z.again ?_ | refine Z.loop 5 (Z.again ?_)) | (show IfB _ _ _; first | refine IfB.T rfl ?_ | refine IfB.F rfl ?_ | refine IfB.DT (by first | assumption | omega | (simp; done) | fail) ?_ | refine IfB.DF (by first | assumption | omega | (simp; done) | fail) ?_ | refine IfB.D (fun h => ?_) (fun h => ?_)) | (show Need _ _; first | refine Need.mk (by kernel_rfl) ?_ | refine Need.mk (by first | omega | (simp only [strMost, mostRows, rS_len, rI_len, List.length_append, List.length_map, List.length_set, List.length_replicate, List.length_cons, List.length_nil, List.length_drop, List.length_take, letterL_len]; done) | (simp only [strMost, mostRows, rS_len, rI_len, List.length_append, List.length_map, List.length_set, List.length_replicate, List.length_cons, List.length_nil, List.length_drop, List.length_take, letterL_len] at *; omega) | (simp at *; omega) | fail) ?_) | (show Find _ _; first | refine Find.mk _ (drop_get hd h0 2 (by omega) rfl) ?_ | refine Find.mk _ (drop_get hd h0 1 (by omega) rfl) ?_ | refine Find.mk _ (drop_get hd h0 0 (by omega) rfl) ?_) | exact EqB.mk rfl))
theorem fr_B2 {s t : List UInt8} {a : Int} {c d : UInt8} (h0 : 0 ≤ a) (hs : s.length ≤ 300) (hd : s.drop a.toNat = c :: d :: 59 :: t) (hc : 65 ≤ (c.toNat : Int) ∧ (c.toNat : Int) ≤ 72) (hdg : 48 ≤ (d.toNat : Int) ∧ (d.toNat : Int) ≤ 57) (hd8 : (d.toNat : Int) = 48) : Ct Tryz.prog 85 [bS s, bI a] (.w (bI 0)) := by
  have hlen := drop_len hd h0 (by simp)
  simp only [List.length_cons, List.length_nil] at hlen
  have hM : Ct Tryz.prog 61 [bI ((c.toNat : Int) - 65), bI (0 * 10 + ((d.toNat : Int) - 48))] (.w (bS [])) := by have := sMakNew_ct ((c.toNat : Int) - 65) (0 * 10 + ((d.toNat : Int) - 48)); rwa [newS, if_neg (by omega)] at this
  refine Ct.z wd Tryz.func85 rfl rfl Tryz.ntmps85 rfl rfl rfl rfl ?_
  repeat' ((conv => whnf); (first | (refine hK _ _ _ ?_; clear hK K) | (show Z _ _ _ _ _ _ _ _; first | refine Z.reg wd (fun K hK => ?_) | refine Z.draw2 wd rfl (fun K hK => ?_) | refine Z.seq ?_ | refine Z.skip ?_ | refine Z.cond (E := Ee) ?_ | refine Z.ret rfl ?_ | refine Z.block ?_ | refine Z.blockEnd ?_ | refine Z.exit rfl ?_ | refine Z.again ?_ | refine Z.loop 5 (Z.again ?_)) | (show IfB _ _ _; first | refine IfB.T rfl ?_ | refine IfB.F rfl ?_ | refine IfB.DT (by first | assumption | omega | (simp; done) | fail) ?_ | refine IfB.DF (by first | assumption | omega | (simp; done) | fail) ?_) | (show Need _ _; first | refine Need.mk (by kernel_rfl) ?_ | refine Need.mk (by first | omega | (simp only [strMost, mostRows, rS_len, rI_len, List.length_append, List.length_map, List.length_set, List.length_replicate, List.length_cons, List.length_nil, List.length_drop, List.length_take, letterL_len]; done) | (simp only [strMost, mostRows, rS_len, rI_len, List.length_append, List.length_map, List.length_set, List.length_replicate, List.length_cons, List.length_nil, List.length_drop, List.length_take, letterL_len] at *; omega) | (simp at *; omega) | fail) ?_) | (show CallD _ _ _ _ _; first | refine CallD.mk _ hM (by first | ((repeat' (first | exact trivial | assumption |  exact fun _ => rfl | refine And.intro ?_ ?_ | (intro e; first | (simp at e; done) | (simp at e; omega)) | fail)); done) | fail) ?_) | (show Find _ _; first | refine Find.mk _ (drop_get hd h0 2 (by omega) rfl) ?_ | refine Find.mk _ (drop_get hd h0 1 (by omega) rfl) ?_ | refine Find.mk _ (drop_get hd h0 0 (by omega) rfl) ?_) | (show Calc _ _; first | refine Calc.mk _ (take_3 hd (by omega)) ?_) | exact EqB.mk rfl))
theorem fr_B3 {s t : List UInt8} {a : Int} {c d : UInt8} (h0 : 0 ≤ a) (hs : s.length ≤ 300) (hd : s.drop a.toNat = c :: d :: 59 :: t) (hc : 65 ≤ (c.toNat : Int) ∧ (c.toNat : Int) ≤ 72) (hdg : 48 ≤ (d.toNat : Int) ∧ (d.toNat : Int) ≤ 57) (hd8 : (d.toNat : Int) ≠ 48) : Ct Tryz.prog 85 [bS s, bI a] (.w (bI 3)) := by
  have hlen := drop_len hd h0 (by simp)
  simp only [List.length_cons, List.length_nil] at hlen
  have hM : Ct Tryz.prog 61 [bI ((c.toNat : Int) - 65), bI (0 * 10 + ((d.toNat : Int) - 48))] (.w (bS [c, d, 59])) := by have := sMakNew_ct ((c.toNat : Int) - 65) (0 * 10 + ((d.toNat : Int) - 48)); rwa [newS, if_pos ⟨by omega, by omega⟩, letter_c hc, dec_1 hdg] at this
  refine Ct.z wd Tryz.func85 rfl rfl Tryz.ntmps85 rfl rfl rfl rfl ?_
  repeat' ((conv => whnf); (first | (refine hK _ _ _ ?_; clear hK K) | (show Z _ _ _ _ _ _ _ _; first | refine Z.reg wd (fun K hK => ?_) | refine Z.draw2 wd rfl (fun K hK => ?_) | refine Z.seq ?_ | refine Z.skip ?_ | refine Z.cond (E := Ee) ?_ | refine Z.ret rfl ?_ | refine Z.block ?_ | refine Z.blockEnd ?_ | refine Z.exit rfl ?_ | refine Z.again ?_ | refine Z.loop 5 (Z.again ?_)) | (show IfB _ _ _; first | refine IfB.T rfl ?_ | refine IfB.F rfl ?_ | refine IfB.DT (by first | assumption | omega | (simp; done) | fail) ?_ | refine IfB.DF (by first | assumption | omega | (simp; done) | fail) ?_) | (show Need _ _; first | refine Need.mk (by kernel_rfl) ?_ | refine Need.mk (by first | omega | (simp only [strMost, mostRows, rS_len, rI_len, List.length_append, List.length_map, List.length_set, List.length_replicate, List.length_cons, List.length_nil, List.length_drop, List.length_take, letterL_len]; done) | (simp only [strMost, mostRows, rS_len, rI_len, List.length_append, List.length_map, List.length_set, List.length_replicate, List.length_cons, List.length_nil, List.length_drop, List.length_take, letterL_len] at *; omega) | (simp at *; omega) | fail) ?_) | (show CallD _ _ _ _ _; first | refine CallD.mk _ hM (by first | ((repeat' (first | exact trivial | assumption |  exact fun _ => rfl | refine And.intro ?_ ?_ | (intro e; first | (simp at e; done) | (simp at e; omega)) | fail)); done) | fail) ?_) | (show Find _ _; first | refine Find.mk _ (drop_get hd h0 2 (by omega) rfl) ?_ | refine Find.mk _ (drop_get hd h0 1 (by omega) rfl) ?_ | refine Find.mk _ (drop_get hd h0 0 (by omega) rfl) ?_) | (show Calc _ _; first | refine Calc.mk _ (take_3 hd (by omega)) ?_) | refine EqB.mk ?_))
  all_goals exact bI_eq (by omega)
theorem fr_C0 {s : List UInt8} {a : Int} {c d e : UInt8} (h0 : 0 ≤ a) (hs : s.length ≤ 300) (hd : s.drop a.toNat = [c, d, e]) (hc : 65 ≤ (c.toNat : Int) ∧ (c.toNat : Int) ≤ 72) (hdg : 48 ≤ (d.toNat : Int) ∧ (d.toNat : Int) ≤ 57) (heg : 48 ≤ (e.toNat : Int) ∧ (e.toNat : Int) ≤ 57) : Ct Tryz.prog 85 [bS s, bI a] (.w (bI 0)) := by
  have hlen := drop_len hd h0 (by simp)
  simp only [List.length_cons, List.length_nil] at hlen
  refine Ct.z wd Tryz.func85 rfl rfl Tryz.ntmps85 rfl rfl rfl rfl ?_
  repeat' ((conv => whnf); (first | (refine hK _ _ _ ?_; clear hK K) | (show Z _ _ _ _ _ _ _ _; first | refine Z.reg wd (fun K hK => ?_) | refine Z.draw2 wd rfl (fun K hK => ?_) | refine Z.seq ?_ | refine Z.skip ?_ | refine Z.cond (E := Ee) ?_ | refine Z.ret rfl ?_ | refine Z.block ?_ | refine Z.blockEnd ?_ | refine Z.exit rfl ?_ | refine Z.again ?_ | refine Z.loop 5 (Z.again ?_)) | (show IfB _ _ _; first | refine IfB.T rfl ?_ | refine IfB.F rfl ?_ | refine IfB.DT (by first | assumption | omega | (simp; done) | fail) ?_ | refine IfB.DF (by first | assumption | omega | (simp; done) | fail) ?_) | (show Need _ _; first | refine Need.mk (by kernel_rfl) ?_ | refine Need.mk (by first | omega | (simp only [strMost, mostRows, rS_len, rI_len, List.length_append, List.length_map, List.length_set, List.length_replicate, List.length_cons, List.length_nil, List.length_drop, List.length_take, letterL_len]; done) | (simp only [strMost, mostRows, rS_len, rI_len, List.length_append, List.length_map, List.length_set, List.length_replicate, List.length_cons, List.length_nil, List.length_drop, List.length_take, letterL_len] at *; omega) | (simp at *; omega) | fail) ?_) | (show Find _ _; first | refine Find.mk _ (drop_get hd h0 2 (by omega) rfl) ?_ | refine Find.mk _ (drop_get hd h0 1 (by omega) rfl) ?_ | refine Find.mk _ (drop_get hd h0 0 (by omega) rfl) ?_) | exact EqB.mk rfl))
theorem fr_C1 {s t : List UInt8} {a : Int} {c d e f : UInt8} (h0 : 0 ≤ a) (hs : s.length ≤ 300) (hd : s.drop a.toNat = c :: d :: e :: f :: t) (hc : 65 ≤ (c.toNat : Int) ∧ (c.toNat : Int) ≤ 72) (hdg : 48 ≤ (d.toNat : Int) ∧ (d.toNat : Int) ≤ 57) (heg : 48 ≤ (e.toNat : Int) ∧ (e.toNat : Int) ≤ 57) (hfg : ¬ (48 ≤ (f.toNat : Int) ∧ (f.toNat : Int) ≤ 57)) (hf9 : (f.toNat : Int) ≠ 59) : Ct Tryz.prog 85 [bS s, bI a] (.w (bI 0)) := by
  have hlen := drop_len hd h0 (by simp)
  simp only [List.length_cons, List.length_nil] at hlen
  refine Ct.z wd Tryz.func85 rfl rfl Tryz.ntmps85 rfl rfl rfl rfl ?_
  repeat' ((conv => whnf); (first | (refine hK _ _ _ ?_; clear hK K) | (show Z _ _ _ _ _ _ _ _; first | refine Z.reg wd (fun K hK => ?_) | refine Z.draw2 wd rfl (fun K hK => ?_) | refine Z.seq ?_ | refine Z.skip ?_ | refine Z.cond (E := Ee) ?_ | refine Z.ret rfl ?_ | refine Z.block ?_ | refine Z.blockEnd ?_ | refine Z.exit rfl ?_ | refine Z.again ?_ | refine Z.loop 5 (Z.again ?_)) | (show IfB _ _ _; first | refine IfB.T rfl ?_ | refine IfB.F rfl ?_ | refine IfB.DT (by first | assumption | omega | (simp; done) | fail) ?_ | refine IfB.DF (by first | assumption | omega | (simp; done) | fail) ?_ | refine IfB.D (fun h => ?_) (fun h => ?_)) | (show Need _ _; first | refine Need.mk (by kernel_rfl) ?_ | refine Need.mk (by first | omega | (simp only [strMost, mostRows, rS_len, rI_len, List.length_append, List.length_map, List.length_set, List.length_replicate, List.length_cons, List.length_nil, List.length_drop, List.length_take, letterL_len]; done) | (simp only [strMost, mostRows, rS_len, rI_len, List.length_append, List.length_map, List.length_set, List.length_replicate, List.length_cons, List.length_nil, List.length_drop, List.length_take, letterL_len] at *; omega) | (simp at *; omega) | fail) ?_) | (show Find _ _; first | refine Find.mk _ (drop_get hd h0 3 (by omega) rfl) ?_ | refine Find.mk _ (drop_get hd h0 2 (by omega) rfl) ?_ | refine Find.mk _ (drop_get hd h0 1 (by omega) rfl) ?_ | refine Find.mk _ (drop_get hd h0 0 (by omega) rfl) ?_) | exact EqB.mk rfl))
theorem fr_C2 {s t : List UInt8} {a : Int} {c d e : UInt8} (h0 : 0 ≤ a) (hs : s.length ≤ 300) (hd : s.drop a.toNat = c :: d :: e :: 59 :: t) (hc : 65 ≤ (c.toNat : Int) ∧ (c.toNat : Int) ≤ 72) (hdg : 48 ≤ (d.toNat : Int) ∧ (d.toNat : Int) ≤ 57) (heg : 48 ≤ (e.toNat : Int) ∧ (e.toNat : Int) ≤ 57) (hd8 : (d.toNat : Int) = 48) : Ct Tryz.prog 85 [bS s, bI a] (.w (bI 0)) := by
  have hlen := drop_len hd h0 (by simp)
  simp only [List.length_cons, List.length_nil] at hlen
  have hM := sMakNew_ct ((c.toNat : Int) - 65) ((0 * 10 + ((d.toNat : Int) - 48)) * 10 + ((e.toNat : Int) - 48))
  have hl3 : (newS ((c.toNat : Int) - 65) ((0 * 10 + ((d.toNat : Int) - 48)) * 10 + ((e.toNat : Int) - 48))).length ≤ 3 := by
    unfold newS
    split
    · rw [letter_c hc, dec_2b hd8 heg]; simp
    · simp
  have hne : newS ((c.toNat : Int) - 65) ((0 * 10 + ((d.toNat : Int) - 48)) * 10 + ((e.toNat : Int) - 48)) ≠ [c, d, e, 59] := fun q => by rw [q] at hl3; simp at hl3
  refine Ct.z wd Tryz.func85 rfl rfl Tryz.ntmps85 rfl rfl rfl rfl ?_
  repeat' ((conv => whnf); (first | (refine hK _ _ _ ?_; clear hK K) | (show Z _ _ _ _ _ _ _ _; first | refine Z.reg wd (fun K hK => ?_) | refine Z.draw2 wd rfl (fun K hK => ?_) | refine Z.seq ?_ | refine Z.skip ?_ | refine Z.cond (E := Ee) ?_ | refine Z.ret rfl ?_ | refine Z.block ?_ | refine Z.blockEnd ?_ | refine Z.exit rfl ?_ | refine Z.again ?_ | refine Z.loop 5 (Z.again ?_)) | (show IfB _ _ _; first | refine IfB.T rfl ?_ | refine IfB.F rfl ?_ | refine IfB.DT (by first | assumption | omega | (simp; done) | fail) ?_ | refine IfB.DF (by first | assumption | omega | (simp; done) | fail) ?_) | (show Need _ _; first | refine Need.mk (by kernel_rfl) ?_ | refine Need.mk (by first | omega | (simp only [strMost, mostRows, rS_len, rI_len, List.length_append, List.length_map, List.length_set, List.length_replicate, List.length_cons, List.length_nil, List.length_drop, List.length_take, letterL_len]; done) | (simp only [strMost, mostRows, rS_len, rI_len, List.length_append, List.length_map, List.length_set, List.length_replicate, List.length_cons, List.length_nil, List.length_drop, List.length_take, letterL_len] at *; omega) | (simp at *; omega) | fail) ?_) | (show CallD _ _ _ _ _; first | refine CallD.mk _ hM (by first | ((repeat' (first | exact trivial | assumption |  exact fun _ => rfl | refine And.intro ?_ ?_ | (intro e; first | (simp at e; done) | (simp at e; omega)) | fail)); done) | fail) ?_) | (show Find _ _; first | refine Find.mk _ (drop_get hd h0 3 (by omega) rfl) ?_ | refine Find.mk _ (drop_get hd h0 2 (by omega) rfl) ?_ | refine Find.mk _ (drop_get hd h0 1 (by omega) rfl) ?_ | refine Find.mk _ (drop_get hd h0 0 (by omega) rfl) ?_) | (show Calc _ _; first | refine Calc.mk _ (take_4 hd (by omega)) ?_) | exact EqB.mk rfl))
theorem fr_C3 {s t : List UInt8} {a : Int} {c d e : UInt8} (h0 : 0 ≤ a) (hs : s.length ≤ 300) (hd : s.drop a.toNat = c :: d :: e :: 59 :: t) (hc : 65 ≤ (c.toNat : Int) ∧ (c.toNat : Int) ≤ 72) (hdg : 48 ≤ (d.toNat : Int) ∧ (d.toNat : Int) ≤ 57) (heg : 48 ≤ (e.toNat : Int) ∧ (e.toNat : Int) ≤ 57) (hd8 : (d.toNat : Int) ≠ 48) : Ct Tryz.prog 85 [bS s, bI a] (.w (bI 4)) := by
  have hlen := drop_len hd h0 (by simp)
  simp only [List.length_cons, List.length_nil] at hlen
  have hM : Ct Tryz.prog 61 [bI ((c.toNat : Int) - 65), bI ((0 * 10 + ((d.toNat : Int) - 48)) * 10 + ((e.toNat : Int) - 48))] (.w (bS [c, d, e, 59])) := by have := sMakNew_ct ((c.toNat : Int) - 65) ((0 * 10 + ((d.toNat : Int) - 48)) * 10 + ((e.toNat : Int) - 48)); rwa [newS, if_pos ⟨by omega, by omega⟩, letter_c hc, dec_2 ⟨by omega, by omega⟩ heg] at this
  refine Ct.z wd Tryz.func85 rfl rfl Tryz.ntmps85 rfl rfl rfl rfl ?_
  repeat' ((conv => whnf); (first | (refine hK _ _ _ ?_; clear hK K) | (show Z _ _ _ _ _ _ _ _; first | refine Z.reg wd (fun K hK => ?_) | refine Z.draw2 wd rfl (fun K hK => ?_) | refine Z.seq ?_ | refine Z.skip ?_ | refine Z.cond (E := Ee) ?_ | refine Z.ret rfl ?_ | refine Z.block ?_ | refine Z.blockEnd ?_ | refine Z.exit rfl ?_ | refine Z.again ?_ | refine Z.loop 5 (Z.again ?_)) | (show IfB _ _ _; first | refine IfB.T rfl ?_ | refine IfB.F rfl ?_ | refine IfB.DT (by first | assumption | omega | (simp; done) | fail) ?_ | refine IfB.DF (by first | assumption | omega | (simp; done) | fail) ?_) | (show Need _ _; first | refine Need.mk (by kernel_rfl) ?_ | refine Need.mk (by first | omega | (simp only [strMost, mostRows, rS_len, rI_len, List.length_append, List.length_map, List.length_set, List.length_replicate, List.length_cons, List.length_nil, List.length_drop, List.length_take, letterL_len]; done) | (simp only [strMost, mostRows, rS_len, rI_len, List.length_append, List.length_map, List.length_set, List.length_replicate, List.length_cons, List.length_nil, List.length_drop, List.length_take, letterL_len] at *; omega) | (simp at *; omega) | fail) ?_) | (show CallD _ _ _ _ _; first | refine CallD.mk _ hM (by first | ((repeat' (first | exact trivial | assumption |  exact fun _ => rfl | refine And.intro ?_ ?_ | (intro e; first | (simp at e; done) | (simp at e; omega)) | fail)); done) | fail) ?_) | (show Find _ _; first | refine Find.mk _ (drop_get hd h0 3 (by omega) rfl) ?_ | refine Find.mk _ (drop_get hd h0 2 (by omega) rfl) ?_ | refine Find.mk _ (drop_get hd h0 1 (by omega) rfl) ?_ | refine Find.mk _ (drop_get hd h0 0 (by omega) rfl) ?_) | (show Calc _ _; first | refine Calc.mk _ (take_4 hd (by omega)) ?_) | refine EqB.mk ?_))
  all_goals exact bI_eq (by omega)
theorem fr_D0 {s : List UInt8} {a : Int} {c d e f : UInt8} (h0 : 0 ≤ a) (hs : s.length ≤ 300) (hd : s.drop a.toNat = [c, d, e, f]) (hc : 65 ≤ (c.toNat : Int) ∧ (c.toNat : Int) ≤ 72) (hdg : 48 ≤ (d.toNat : Int) ∧ (d.toNat : Int) ≤ 57) (heg : 48 ≤ (e.toNat : Int) ∧ (e.toNat : Int) ≤ 57) (hfg : 48 ≤ (f.toNat : Int) ∧ (f.toNat : Int) ≤ 57) : Ct Tryz.prog 85 [bS s, bI a] (.w (bI 0)) := by
  have hlen := drop_len hd h0 (by simp)
  simp only [List.length_cons, List.length_nil] at hlen
  refine Ct.z wd Tryz.func85 rfl rfl Tryz.ntmps85 rfl rfl rfl rfl ?_
  repeat' ((conv => whnf); (first | (refine hK _ _ _ ?_; clear hK K) | (show Z _ _ _ _ _ _ _ _; first | refine Z.reg wd (fun K hK => ?_) | refine Z.draw2 wd rfl (fun K hK => ?_) | refine Z.seq ?_ | refine Z.skip ?_ | refine Z.cond (E := Ee) ?_ | refine Z.ret rfl ?_ | refine Z.block ?_ | refine Z.blockEnd ?_ | refine Z.exit rfl ?_ | refine Z.again ?_ | refine Z.loop 5 (Z.again ?_)) | (show IfB _ _ _; first | refine IfB.T rfl ?_ | refine IfB.F rfl ?_ | refine IfB.DT (by first | assumption | omega | (simp; done) | fail) ?_ | refine IfB.DF (by first | assumption | omega | (simp; done) | fail) ?_) | (show Need _ _; first | refine Need.mk (by kernel_rfl) ?_ | refine Need.mk (by first | omega | (simp only [strMost, mostRows, rS_len, rI_len, List.length_append, List.length_map, List.length_set, List.length_replicate, List.length_cons, List.length_nil, List.length_drop, List.length_take, letterL_len]; done) | (simp only [strMost, mostRows, rS_len, rI_len, List.length_append, List.length_map, List.length_set, List.length_replicate, List.length_cons, List.length_nil, List.length_drop, List.length_take, letterL_len] at *; omega) | (simp at *; omega) | fail) ?_) | (show Find _ _; first | refine Find.mk _ (drop_get hd h0 3 (by omega) rfl) ?_ | refine Find.mk _ (drop_get hd h0 2 (by omega) rfl) ?_ | refine Find.mk _ (drop_get hd h0 1 (by omega) rfl) ?_ | refine Find.mk _ (drop_get hd h0 0 (by omega) rfl) ?_) | exact EqB.mk rfl))
theorem fr_D1 {s t : List UInt8} {a : Int} {c d e f g : UInt8} (h0 : 0 ≤ a) (hs : s.length ≤ 300) (hd : s.drop a.toNat = c :: d :: e :: f :: g :: t) (hc : 65 ≤ (c.toNat : Int) ∧ (c.toNat : Int) ≤ 72) (hdg : 48 ≤ (d.toNat : Int) ∧ (d.toNat : Int) ≤ 57) (heg : 48 ≤ (e.toNat : Int) ∧ (e.toNat : Int) ≤ 57) (hfg : 48 ≤ (f.toNat : Int) ∧ (f.toNat : Int) ≤ 57) : Ct Tryz.prog 85 [bS s, bI a] (.w (bI 0)) := by
  have hlen := drop_len hd h0 (by simp)
  simp only [List.length_cons, List.length_nil] at hlen
  have hM := sMakNew_ct ((c.toNat : Int) - 65) (((0 * 10 + ((d.toNat : Int) - 48)) * 10 + ((e.toNat : Int) - 48)) * 10 + ((f.toNat : Int) - 48))
  have hne : newS ((c.toNat : Int) - 65) (((0 * 10 + ((d.toNat : Int) - 48)) * 10 + ((e.toNat : Int) - 48)) * 10 + ((f.toNat : Int) - 48)) ≠ [c, d, e, f, g] := fun q => by have := newS_len ((c.toNat : Int) - 65) (((0 * 10 + ((d.toNat : Int) - 48)) * 10 + ((e.toNat : Int) - 48)) * 10 + ((f.toNat : Int) - 48)); rw [q] at this; simp at this
  refine Ct.z wd Tryz.func85 rfl rfl Tryz.ntmps85 rfl rfl rfl rfl ?_
  repeat' ((conv => whnf); (first | (refine hK _ _ _ ?_; clear hK K) | (show Z _ _ _ _ _ _ _ _; first | refine Z.reg wd (fun K hK => ?_) | refine Z.draw2 wd rfl (fun K hK => ?_) | refine Z.seq ?_ | refine Z.skip ?_ | refine Z.cond (E := Ee) ?_ | refine Z.ret rfl ?_ | refine Z.block ?_ | refine Z.blockEnd ?_ | refine Z.exit rfl ?_ | refine Z.again ?_ | refine Z.loop 5 (Z.again ?_)) | (show IfB _ _ _; first | refine IfB.T rfl ?_ | refine IfB.F rfl ?_ | refine IfB.DT (by first | assumption | omega | (simp; done) | fail) ?_ | refine IfB.DF (by first | assumption | omega | (simp; done) | fail) ?_ | refine IfB.D (fun h => ?_) (fun h => ?_)) | (show Need _ _; first | refine Need.mk (by kernel_rfl) ?_ | refine Need.mk (by first | omega | (simp only [strMost, mostRows, rS_len, rI_len, List.length_append, List.length_map, List.length_set, List.length_replicate, List.length_cons, List.length_nil, List.length_drop, List.length_take, letterL_len]; done) | (simp only [strMost, mostRows, rS_len, rI_len, List.length_append, List.length_map, List.length_set, List.length_replicate, List.length_cons, List.length_nil, List.length_drop, List.length_take, letterL_len] at *; omega) | (simp at *; omega) | fail) ?_) | (show CallD _ _ _ _ _; first | refine CallD.mk _ hM (by first | ((repeat' (first | exact trivial | assumption |  exact fun _ => rfl | refine And.intro ?_ ?_ | (intro e; first | (simp at e; done) | (simp at e; omega)) | fail)); done) | fail) ?_) | (show Find _ _; first | refine Find.mk _ (drop_get hd h0 4 (by omega) rfl) ?_ | refine Find.mk _ (drop_get hd h0 3 (by omega) rfl) ?_ | refine Find.mk _ (drop_get hd h0 2 (by omega) rfl) ?_ | refine Find.mk _ (drop_get hd h0 1 (by omega) rfl) ?_ | refine Find.mk _ (drop_get hd h0 0 (by omega) rfl) ?_) | (show Calc _ _; first | refine Calc.mk _ (take_5 hd (by omega)) ?_) | exact EqB.mk rfl))
end Go.Proofs.YtfokmnafgabdiaaGreatDoor.Eng
namespace Go.Proofs.YtfokmnafgabdiaaGreatDoor.Eng
open Go Go.RowKit Kw
set_option linter.unusedVariables false
set_option linter.unusedSimpArgs false
set_option maxRecDepth 10000
attribute [local irreducible] Ct HCt
set_option maxHeartbeats 4000000
theorem u8eq {c : UInt8} {n : Nat} (hn : n < 256) (h : (c.toNat : Int) = n) : c = UInt8.ofNat n := by
  have : c.toNat = n := by omega
  rw [← this]; simp
theorem l1Fresh_ct {s t : List UInt8} {a : Int} {c : UInt8} (h0 : 0 ≤ a) (hs : s.length ≤ 300) (hd : s.drop a.toNat = c :: t) : Ct Tryz.prog 85 [bS s, bI a] (.w (bI (if 65 ≤ (c.toNat : Int) ∧ (c.toNat : Int) ≤ 72 then sizeL (c :: t) else 0))) := by
  by_cases hc : 65 ≤ (c.toNat : Int) ∧ (c.toNat : Int) ≤ 72
  case neg => rw [if_neg hc]; exact l1Fresh_no h0 hs hd hc
  rw [if_pos hc]
  have hN := nameT_new c t hc
  cases t with
  | nil => exact l1Fresh_0 h0 hs hd hc
  | cons d t =>
    by_cases hdg : 48 ≤ (d.toNat : Int) ∧ (d.toNat : Int) ≤ 57
    case neg =>
      rw [sizeL_none (by rw [hN]; simp only; rw [if_neg (by simp only [dig, decide_eq_true_eq]; exact fun h => hdg h.1)])]
      exact fr_A h0 hs hd hc hdg
    have hdt : dig d = true := by simp only [dig, decide_eq_true_eq]; exact hdg
    cases t with
    | nil =>
      rw [sizeL_none (by rw [hN]; simp only; split <;> rfl)]
      exact fr_B0 h0 hs hd hc hdg
    | cons e t =>
      by_cases heg : 48 ≤ (e.toNat : Int) ∧ (e.toNat : Int) ≤ 57
      case neg =>
        have het : dig e = false := by simp only [dig, decide_eq_false_iff_not]; exact heg
        by_cases he9 : (e.toNat : Int) = 59
        case neg =>
          rw [sizeL_none (by
            rw [hN]; simp only [numOf, het]
            split
            · simp only [Bool.false_eq_true, if_false]
              rw [if_neg (fun q => he9 (by rw [q]; rfl))]
            · rfl)]
          exact fr_B1 h0 hs hd hc hdg heg he9
        obtain rfl := u8eq (n := 59) (by omega) he9
        by_cases hd8 : (d.toNat : Int) = 48
        · rw [sizeL_none (by rw [hN]; simp only; rw [if_neg (fun q => q.2 hd8)])]
          exact fr_B2 h0 hs hd hc hdg hd8
        · have e1 : nameT (c :: d :: UInt8.ofNat 59 :: t) = some (⟨1, (c.toNat : Int) - 65, (d.toNat : Int) - 48, [], []⟩, t) := by
            rw [hN]; simp only [numOf, het]
            rw [if_pos ⟨hdt, hd8⟩]; rfl
          rw [(sizeL_some e1).1, show ((c :: d :: UInt8.ofNat 59 :: t).length : Int) - t.length = 3 from by simp; omega]
          exact fr_B3 h0 hs hd hc hdg hd8
      have het : dig e = true := by simp only [dig, decide_eq_true_eq]; exact heg
      cases t with
      | nil =>
        rw [sizeL_none (by rw [hN]; simp only [numOf, het]; split <;> rfl)]
        exact fr_C0 h0 hs hd hc hdg heg
      | cons f t =>
        by_cases hfg : 48 ≤ (f.toNat : Int) ∧ (f.toNat : Int) ≤ 57
        case pos =>
          rw [sizeL_none (by
            rw [hN]; simp only [numOf, het]
            split
            · simp only [if_true]
              rw [if_neg (fun q => by rw [q] at hfg; exact absurd hfg (by decide))]
            · rfl)]
          cases t with
          | nil => exact fr_D0 h0 hs hd hc hdg heg hfg
          | cons g t => exact fr_D1 h0 hs hd hc hdg heg hfg
        by_cases hf9 : (f.toNat : Int) = 59
        case neg =>
          rw [sizeL_none (by
            rw [hN]; simp only [numOf, het]
            split
            · simp only [if_true]
              rw [if_neg (fun q => hf9 (by rw [q]; rfl))]
            · rfl)]
          exact fr_C1 h0 hs hd hc hdg heg hfg hf9
        obtain rfl := u8eq (n := 59) (by omega) hf9
        by_cases hd8 : (d.toNat : Int) = 48
        · rw [sizeL_none (by rw [hN]; simp only; rw [if_neg (fun q => q.2 hd8)])]
          exact fr_C2 h0 hs hd hc hdg heg hd8
        · have e1 : nameT (c :: d :: e :: UInt8.ofNat 59 :: t) = some (⟨1, (c.toNat : Int) - 65, (numOf (d :: e :: UInt8.ofNat 59 :: t)).1, [], []⟩, t) := by
            rw [hN]; simp only [numOf, het]
            rw [if_pos ⟨hdt, hd8⟩]; rfl
          rw [(sizeL_some e1).1, show ((c :: d :: e :: UInt8.ofNat 59 :: t).length : Int) - t.length = 4 from by simp; omega]
          exact fr_C3 h0 hs hd hc hdg heg hd8
theorem drop_s {s t : List UInt8} {a : Int} {c : UInt8} (hd : s.drop a.toNat = c :: t) (h0 : 0 ≤ a) : s.drop (a + 1).toNat = t := by
  rw [show (a + 1).toNat = a.toNat + 1 from by omega, ← List.drop_drop, hd]; rfl
theorem drop_s2 {s t : List UInt8} {a : Int} {c d : UInt8} (hd : s.drop a.toNat = c :: d :: t) (h0 : 0 ≤ a) : s.drop (a + 2).toNat = t := by
  rw [show (a + 2).toNat = a.toNat + 2 from by omega, ← List.drop_drop, hd]; rfl
theorem l1Size_ct : ∀ (n : Nat) (s u : List UInt8) (a : Int), u.length ≤ n → s.drop a.toNat = u → 0 ≤ a → a ≤ s.length → s.length ≤ 300 → Ct Tryz.prog 68 [bS s, bI a] (.w (bI (sizeL u))) := by
  intro n
  induction n with
  | zero =>
    intro s u a hl hd h0 ha hs
    have hu : u = [] := by cases u with | nil => rfl | cons c t => simp at hl
    subst hu
    have := congrArg List.length hd
    rw [List.length_drop] at this
    simp only [List.length_nil] at this
    refine Ct.z wd Tryz.func68 rfl rfl Tryz.ntmps68 rfl rfl rfl rfl ?_
    repeat' ((conv => whnf); (first | (refine hK _ _ _ ?_; clear hK K) | (show Z _ _ _ _ _ _ _ _; first | refine Z.reg wd (fun K hK => ?_) | refine Z.seq ?_ | refine Z.cond (E := Ee) ?_ | refine Z.ret rfl ?_) | (show IfB _ _ _; first | refine IfB.DT (by first | assumption | omega | (simp; done) | fail) ?_) | exact EqB.mk rfl))
  | succ n ih =>
    intro s u a hl hd h0 ha hs
    have hs0 := sizeL_le u
    cases u with
    | nil =>
      have := congrArg List.length hd
      rw [List.length_drop] at this
      simp only [List.length_nil] at this
      refine Ct.z wd Tryz.func68 rfl rfl Tryz.ntmps68 rfl rfl rfl rfl ?_
      repeat' ((conv => whnf); (first | (refine hK _ _ _ ?_; clear hK K) | (show Z _ _ _ _ _ _ _ _; first | refine Z.reg wd (fun K hK => ?_) | refine Z.seq ?_ | refine Z.cond (E := Ee) ?_ | refine Z.ret rfl ?_) | (show IfB _ _ _; first | refine IfB.DT (by first | assumption | omega | (simp; done) | fail) ?_) | exact EqB.mk rfl))
    | cons c t =>
      have hlen := drop_len hd h0 (by simp)
      simp only [List.length_cons] at hlen hl
      have hF := l1Fresh_ct h0 hs hd
      have hst := sizeL_le t
      by_cases c1 : c = 110
      · subst c1
        have h1 := ih s t (a + 1) (by omega) (drop_s hd h0) (by omega) (by omega) hs
        clear ih hF
        rw [sizeL_up]
        refine Ct.z wd Tryz.func68 rfl rfl Tryz.ntmps68 rfl rfl rfl rfl ?_
        repeat' ((conv => whnf); (first | (refine hK _ _ _ ?_; clear hK K) | (show Z _ _ _ _ _ _ _ _; first | refine Z.reg wd (fun K hK => ?_) | refine Z.seq ?_ | refine Z.skip ?_ | refine Z.cond (E := Ee) ?_ | refine Z.ret rfl ?_ | refine Z.block ?_) | (show IfB _ _ _; first | refine IfB.T rfl ?_ | refine IfB.DF (by first | assumption | omega | (simp; done) | fail) ?_) | (show Need _ _; first | refine Need.mk (by first | omega | (simp only [strMost, mostRows, rS_len, rI_len, List.length_append, List.length_map, List.length_set, List.length_replicate, List.length_cons, List.length_nil, List.length_drop, List.length_take, letterL_len]; done) | (simp only [strMost, mostRows, rS_len, rI_len, List.length_append, List.length_map, List.length_set, List.length_replicate, List.length_cons, List.length_nil, List.length_drop, List.length_take, letterL_len] at *; omega) | (simp at *; omega) | fail) ?_) | (show CallW _ _ _ _; first | refine CallW.mk _ h1 ?_ | refine CallW.mk _ (l1More_ct _ _ (by first | omega | (simp only [strMost, mostRows, rS_len, rI_len, List.length_append, List.length_map, List.length_set, List.length_replicate, List.length_cons, List.length_nil, List.length_drop, List.length_take, letterL_len]; done) | (simp only [strMost, mostRows, rS_len, rI_len, List.length_append, List.length_map, List.length_set, List.length_replicate, List.length_cons, List.length_nil, List.length_drop, List.length_take, letterL_len] at *; omega) | (simp at *; omega) | fail) (by first | omega | (simp only [strMost, mostRows, rS_len, rI_len, List.length_append, List.length_map, List.length_set, List.length_replicate, List.length_cons, List.length_nil, List.length_drop, List.length_take, letterL_len]; done) | (simp only [strMost, mostRows, rS_len, rI_len, List.length_append, List.length_map, List.length_set, List.length_replicate, List.length_cons, List.length_nil, List.length_drop, List.length_take, letterL_len] at *; omega) | (simp at *; omega) | fail)) ?_) | (show Find _ _; first | refine Find.mk _ (drop_get hd h0 0 (by omega) rfl) ?_) | exact EqB.mk rfl))
      by_cases c2 : c = 107
      · subst c2
        have h1 := ih s t (a + 1) (by omega) (drop_s hd h0) (by omega) (by omega) hs
        clear ih hF
        rw [sizeL_key]
        refine Ct.z wd Tryz.func68 rfl rfl Tryz.ntmps68 rfl rfl rfl rfl ?_
        repeat' ((conv => whnf); (first | (refine hK _ _ _ ?_; clear hK K) | (show Z _ _ _ _ _ _ _ _; first | refine Z.reg wd (fun K hK => ?_) | refine Z.seq ?_ | refine Z.skip ?_ | refine Z.cond (E := Ee) ?_ | refine Z.ret rfl ?_ | refine Z.block ?_) | (show IfB _ _ _; first | refine IfB.T rfl ?_ | refine IfB.F rfl ?_ | refine IfB.DF (by first | assumption | omega | (simp; done) | fail) ?_) | (show Need _ _; first | refine Need.mk (by first | omega | (simp only [strMost, mostRows, rS_len, rI_len, List.length_append, List.length_map, List.length_set, List.length_replicate, List.length_cons, List.length_nil, List.length_drop, List.length_take, letterL_len]; done) | (simp only [strMost, mostRows, rS_len, rI_len, List.length_append, List.length_map, List.length_set, List.length_replicate, List.length_cons, List.length_nil, List.length_drop, List.length_take, letterL_len] at *; omega) | (simp at *; omega) | fail) ?_) | (show CallW _ _ _ _; first | refine CallW.mk _ h1 ?_ | refine CallW.mk _ (l1More_ct _ _ (by first | omega | (simp only [strMost, mostRows, rS_len, rI_len, List.length_append, List.length_map, List.length_set, List.length_replicate, List.length_cons, List.length_nil, List.length_drop, List.length_take, letterL_len]; done) | (simp only [strMost, mostRows, rS_len, rI_len, List.length_append, List.length_map, List.length_set, List.length_replicate, List.length_cons, List.length_nil, List.length_drop, List.length_take, letterL_len] at *; omega) | (simp at *; omega) | fail) (by first | omega | (simp only [strMost, mostRows, rS_len, rI_len, List.length_append, List.length_map, List.length_set, List.length_replicate, List.length_cons, List.length_nil, List.length_drop, List.length_take, letterL_len]; done) | (simp only [strMost, mostRows, rS_len, rI_len, List.length_append, List.length_map, List.length_set, List.length_replicate, List.length_cons, List.length_nil, List.length_drop, List.length_take, letterL_len] at *; omega) | (simp at *; omega) | fail)) ?_) | (show Find _ _; first | refine Find.mk _ (drop_get hd h0 0 (by omega) rfl) ?_) | exact EqB.mk rfl))
      by_cases c3 : c = 101
      · subst c3
        have h1 := ih s t (a + 1) (by omega) (drop_s hd h0) (by omega) (by omega) hs
        rw [sizeL_two]
        by_cases hz : sizeL t = 0
        · rw [if_pos hz]
          rw [hz] at h1
          clear ih hF
          refine Ct.z wd Tryz.func68 rfl rfl Tryz.ntmps68 rfl rfl rfl rfl ?_
          repeat' ((conv => whnf); (first | (refine hK _ _ _ ?_; clear hK K) | (show Z _ _ _ _ _ _ _ _; first | refine Z.reg wd (fun K hK => ?_) | refine Z.seq ?_ | refine Z.skip ?_ | refine Z.cond (E := Ee) ?_ | refine Z.ret rfl ?_ | refine Z.block ?_) | (show IfB _ _ _; first | refine IfB.T rfl ?_ | refine IfB.F rfl ?_ | refine IfB.DF (by first | assumption | omega | (simp; done) | fail) ?_) | (show Need _ _; first | refine Need.mk (by first | omega | (simp only [strMost, mostRows, rS_len, rI_len, List.length_append, List.length_map, List.length_set, List.length_replicate, List.length_cons, List.length_nil, List.length_drop, List.length_take, letterL_len]; done) | (simp only [strMost, mostRows, rS_len, rI_len, List.length_append, List.length_map, List.length_set, List.length_replicate, List.length_cons, List.length_nil, List.length_drop, List.length_take, letterL_len] at *; omega) | (simp at *; omega) | fail) ?_) | (show CallW _ _ _ _; first | refine CallW.mk _ h1 ?_) | (show Find _ _; first | refine Find.mk _ (drop_get hd h0 0 (by omega) rfl) ?_) | exact EqB.mk rfl))
        · rw [if_neg hz]
          have hst2 := sizeL_le (t.drop (sizeL t).toNat)
          have hdl : (t.drop (sizeL t).toNat).length = t.length - (sizeL t).toNat := List.length_drop
          have h2 := ih s (t.drop (sizeL t).toNat) (a + 1 + sizeL t) (by omega) (by rw [show (a + 1 + sizeL t).toNat = (a + 1).toNat + (sizeL t).toNat from by omega, ← List.drop_drop, drop_s hd h0]) (by omega) (by omega) hs
          clear ih hF
          refine Ct.z wd Tryz.func68 rfl rfl Tryz.ntmps68 rfl rfl rfl rfl ?_
          repeat' ((conv => whnf); (first | (refine hK _ _ _ ?_; clear hK K) | (show Z _ _ _ _ _ _ _ _; first | refine Z.reg wd (fun K hK => ?_) | refine Z.seq ?_ | refine Z.skip ?_ | refine Z.cond (E := Ee) ?_ | refine Z.ret rfl ?_ | refine Z.block ?_) | (show IfB _ _ _; first | refine IfB.T rfl ?_ | refine IfB.F rfl ?_ | refine IfB.DF (by first | assumption | omega | (simp; done) | fail) ?_) | (show Need _ _; first | refine Need.mk (by first | omega | (simp only [strMost, mostRows, rS_len, rI_len, List.length_append, List.length_map, List.length_set, List.length_replicate, List.length_cons, List.length_nil, List.length_drop, List.length_take, letterL_len]; done) | (simp only [strMost, mostRows, rS_len, rI_len, List.length_append, List.length_map, List.length_set, List.length_replicate, List.length_cons, List.length_nil, List.length_drop, List.length_take, letterL_len] at *; omega) | (simp at *; omega) | fail) ?_) | (show CallW _ _ _ _; first | refine CallW.mk _ h2 ?_ | refine CallW.mk _ h1 ?_ | refine CallW.mk _ (l1More_ct _ _ (by first | omega | (simp only [strMost, mostRows, rS_len, rI_len, List.length_append, List.length_map, List.length_set, List.length_replicate, List.length_cons, List.length_nil, List.length_drop, List.length_take, letterL_len]; done) | (simp only [strMost, mostRows, rS_len, rI_len, List.length_append, List.length_map, List.length_set, List.length_replicate, List.length_cons, List.length_nil, List.length_drop, List.length_take, letterL_len] at *; omega) | (simp at *; omega) | fail) (by first | omega | (simp only [strMost, mostRows, rS_len, rI_len, List.length_append, List.length_map, List.length_set, List.length_replicate, List.length_cons, List.length_nil, List.length_drop, List.length_take, letterL_len]; done) | (simp only [strMost, mostRows, rS_len, rI_len, List.length_append, List.length_map, List.length_set, List.length_replicate, List.length_cons, List.length_nil, List.length_drop, List.length_take, letterL_len] at *; omega) | (simp at *; omega) | fail)) ?_) | (show Find _ _; first | refine Find.mk _ (drop_get hd h0 0 (by omega) rfl) ?_) | exact EqB.mk rfl))
      by_cases c4 : c = 109
      · subst c4
        cases t with
        | nil =>
          simp only [List.length_nil] at hlen hl
          rw [show sizeL [109] = 0 from rfl]
          refine Ct.z wd Tryz.func68 rfl rfl Tryz.ntmps68 rfl rfl rfl rfl ?_
          repeat' ((conv => whnf); (first | (refine hK _ _ _ ?_; clear hK K) | (show Z _ _ _ _ _ _ _ _; first | refine Z.reg wd (fun K hK => ?_) | refine Z.seq ?_ | refine Z.skip ?_ | refine Z.cond (E := Ee) ?_ | refine Z.ret rfl ?_ | refine Z.block ?_) | (show IfB _ _ _; first | refine IfB.T rfl ?_ | refine IfB.F rfl ?_ | refine IfB.DT (by first | assumption | omega | (simp; done) | fail) ?_ | refine IfB.DF (by first | assumption | omega | (simp; done) | fail) ?_) | (show Need _ _; first | refine Need.mk (by first | omega | (simp only [strMost, mostRows, rS_len, rI_len, List.length_append, List.length_map, List.length_set, List.length_replicate, List.length_cons, List.length_nil, List.length_drop, List.length_take, letterL_len]; done) | (simp only [strMost, mostRows, rS_len, rI_len, List.length_append, List.length_map, List.length_set, List.length_replicate, List.length_cons, List.length_nil, List.length_drop, List.length_take, letterL_len] at *; omega) | (simp at *; omega) | fail) ?_) | (show Find _ _; first | refine Find.mk _ (drop_get hd h0 0 (by omega) rfl) ?_) | exact EqB.mk rfl))
        | cons d t =>
          simp only [List.length_cons] at hlen hl
          have hst := sizeL_le t
          rw [sizeL_say]
          by_cases hx : 65 ≤ (d.toNat : Int) ∧ (d.toNat : Int) ≤ 72
          · have h1 := ih s t (a + 2) (by omega) (drop_s2 hd h0) (by omega) (by omega) hs
            rw [if_pos hx]
            clear ih hF
            refine Ct.z wd Tryz.func68 rfl rfl Tryz.ntmps68 rfl rfl rfl rfl ?_
            repeat' ((conv => whnf); (first | (refine hK _ _ _ ?_; clear hK K) | (show Z _ _ _ _ _ _ _ _; first | refine Z.reg wd (fun K hK => ?_) | refine Z.seq ?_ | refine Z.skip ?_ | refine Z.cond (E := Ee) ?_ | refine Z.ret rfl ?_ | refine Z.block ?_) | (show IfB _ _ _; first | refine IfB.T rfl ?_ | refine IfB.F rfl ?_ | refine IfB.DF (by first | assumption | omega | (simp; done) | fail) ?_) | (show Need _ _; first | refine Need.mk (by first | omega | (simp only [strMost, mostRows, rS_len, rI_len, List.length_append, List.length_map, List.length_set, List.length_replicate, List.length_cons, List.length_nil, List.length_drop, List.length_take, letterL_len]; done) | (simp only [strMost, mostRows, rS_len, rI_len, List.length_append, List.length_map, List.length_set, List.length_replicate, List.length_cons, List.length_nil, List.length_drop, List.length_take, letterL_len] at *; omega) | (simp at *; omega) | fail) ?_) | (show CallW _ _ _ _; first | refine CallW.mk _ h1 ?_ | refine CallW.mk _ (l1More_ct _ _ (by first | omega | (simp only [strMost, mostRows, rS_len, rI_len, List.length_append, List.length_map, List.length_set, List.length_replicate, List.length_cons, List.length_nil, List.length_drop, List.length_take, letterL_len]; done) | (simp only [strMost, mostRows, rS_len, rI_len, List.length_append, List.length_map, List.length_set, List.length_replicate, List.length_cons, List.length_nil, List.length_drop, List.length_take, letterL_len] at *; omega) | (simp at *; omega) | fail) (by first | omega | (simp only [strMost, mostRows, rS_len, rI_len, List.length_append, List.length_map, List.length_set, List.length_replicate, List.length_cons, List.length_nil, List.length_drop, List.length_take, letterL_len]; done) | (simp only [strMost, mostRows, rS_len, rI_len, List.length_append, List.length_map, List.length_set, List.length_replicate, List.length_cons, List.length_nil, List.length_drop, List.length_take, letterL_len] at *; omega) | (simp at *; omega) | fail)) ?_) | (show Find _ _; first | refine Find.mk _ (drop_get hd h0 1 (by omega) rfl) ?_ | refine Find.mk _ (drop_get hd h0 0 (by omega) rfl) ?_) | exact EqB.mk rfl))
          · rw [if_neg hx]
            clear ih hF
            refine Ct.z wd Tryz.func68 rfl rfl Tryz.ntmps68 rfl rfl rfl rfl ?_
            repeat' ((conv => whnf); (first | (refine hK _ _ _ ?_; clear hK K) | (show Z _ _ _ _ _ _ _ _; first | refine Z.reg wd (fun K hK => ?_) | refine Z.seq ?_ | refine Z.skip ?_ | refine Z.cond (E := Ee) ?_ | refine Z.ret rfl ?_ | refine Z.block ?_) | (show IfB _ _ _; first | refine IfB.T rfl ?_ | refine IfB.F rfl ?_ | refine IfB.DT (by first | assumption | omega | (simp; done) | fail) ?_ | refine IfB.DF (by first | assumption | omega | (simp; done) | fail) ?_ | refine IfB.D (fun h => ?_) (fun h => ?_)) | (show Need _ _; first | refine Need.mk (by first | omega | (simp only [strMost, mostRows, rS_len, rI_len, List.length_append, List.length_map, List.length_set, List.length_replicate, List.length_cons, List.length_nil, List.length_drop, List.length_take, letterL_len]; done) | (simp only [strMost, mostRows, rS_len, rI_len, List.length_append, List.length_map, List.length_set, List.length_replicate, List.length_cons, List.length_nil, List.length_drop, List.length_take, letterL_len] at *; omega) | (simp at *; omega) | fail) ?_) | (show Find _ _; first | refine Find.mk _ (drop_get hd h0 1 (by omega) rfl) ?_ | refine Find.mk _ (drop_get hd h0 0 (by omega) rfl) ?_) | exact EqB.mk rfl))
      by_cases c5 : c = 114
      · subst c5
        cases t with
        | nil =>
          simp only [List.length_nil] at hlen hl
          rw [show sizeL [114] = 0 from rfl]
          refine Ct.z wd Tryz.func68 rfl rfl Tryz.ntmps68 rfl rfl rfl rfl ?_
          repeat' ((conv => whnf); (first | (refine hK _ _ _ ?_; clear hK K) | (show Z _ _ _ _ _ _ _ _; first | refine Z.reg wd (fun K hK => ?_) | refine Z.seq ?_ | refine Z.skip ?_ | refine Z.cond (E := Ee) ?_ | refine Z.ret rfl ?_ | refine Z.block ?_) | (show IfB _ _ _; first | refine IfB.T rfl ?_ | refine IfB.F rfl ?_ | refine IfB.DT (by first | assumption | omega | (simp; done) | fail) ?_ | refine IfB.DF (by first | assumption | omega | (simp; done) | fail) ?_) | (show Need _ _; first | refine Need.mk (by first | omega | (simp only [strMost, mostRows, rS_len, rI_len, List.length_append, List.length_map, List.length_set, List.length_replicate, List.length_cons, List.length_nil, List.length_drop, List.length_take, letterL_len]; done) | (simp only [strMost, mostRows, rS_len, rI_len, List.length_append, List.length_map, List.length_set, List.length_replicate, List.length_cons, List.length_nil, List.length_drop, List.length_take, letterL_len] at *; omega) | (simp at *; omega) | fail) ?_) | (show Find _ _; first | refine Find.mk _ (drop_get hd h0 0 (by omega) rfl) ?_) | exact EqB.mk rfl))
        | cons d t =>
          simp only [List.length_cons] at hlen hl
          have hst := sizeL_le t
          rw [sizeL_room]
          by_cases hx : 49 ≤ (d.toNat : Int) ∧ (d.toNat : Int) ≤ 57
          · have h1 := ih s t (a + 2) (by omega) (drop_s2 hd h0) (by omega) (by omega) hs
            rw [if_pos hx]
            clear ih hF
            refine Ct.z wd Tryz.func68 rfl rfl Tryz.ntmps68 rfl rfl rfl rfl ?_
            repeat' ((conv => whnf); (first | (refine hK _ _ _ ?_; clear hK K) | (show Z _ _ _ _ _ _ _ _; first | refine Z.reg wd (fun K hK => ?_) | refine Z.seq ?_ | refine Z.skip ?_ | refine Z.cond (E := Ee) ?_ | refine Z.ret rfl ?_ | refine Z.block ?_) | (show IfB _ _ _; first | refine IfB.T rfl ?_ | refine IfB.F rfl ?_ | refine IfB.DF (by first | assumption | omega | (simp; done) | fail) ?_) | (show Need _ _; first | refine Need.mk (by first | omega | (simp only [strMost, mostRows, rS_len, rI_len, List.length_append, List.length_map, List.length_set, List.length_replicate, List.length_cons, List.length_nil, List.length_drop, List.length_take, letterL_len]; done) | (simp only [strMost, mostRows, rS_len, rI_len, List.length_append, List.length_map, List.length_set, List.length_replicate, List.length_cons, List.length_nil, List.length_drop, List.length_take, letterL_len] at *; omega) | (simp at *; omega) | fail) ?_) | (show CallW _ _ _ _; first | refine CallW.mk _ h1 ?_ | refine CallW.mk _ (l1More_ct _ _ (by first | omega | (simp only [strMost, mostRows, rS_len, rI_len, List.length_append, List.length_map, List.length_set, List.length_replicate, List.length_cons, List.length_nil, List.length_drop, List.length_take, letterL_len]; done) | (simp only [strMost, mostRows, rS_len, rI_len, List.length_append, List.length_map, List.length_set, List.length_replicate, List.length_cons, List.length_nil, List.length_drop, List.length_take, letterL_len] at *; omega) | (simp at *; omega) | fail) (by first | omega | (simp only [strMost, mostRows, rS_len, rI_len, List.length_append, List.length_map, List.length_set, List.length_replicate, List.length_cons, List.length_nil, List.length_drop, List.length_take, letterL_len]; done) | (simp only [strMost, mostRows, rS_len, rI_len, List.length_append, List.length_map, List.length_set, List.length_replicate, List.length_cons, List.length_nil, List.length_drop, List.length_take, letterL_len] at *; omega) | (simp at *; omega) | fail)) ?_) | (show Find _ _; first | refine Find.mk _ (drop_get hd h0 1 (by omega) rfl) ?_ | refine Find.mk _ (drop_get hd h0 0 (by omega) rfl) ?_) | exact EqB.mk rfl))
          · rw [if_neg hx]
            clear ih hF
            refine Ct.z wd Tryz.func68 rfl rfl Tryz.ntmps68 rfl rfl rfl rfl ?_
            repeat' ((conv => whnf); (first | (refine hK _ _ _ ?_; clear hK K) | (show Z _ _ _ _ _ _ _ _; first | refine Z.reg wd (fun K hK => ?_) | refine Z.seq ?_ | refine Z.skip ?_ | refine Z.cond (E := Ee) ?_ | refine Z.ret rfl ?_ | refine Z.block ?_) | (show IfB _ _ _; first | refine IfB.T rfl ?_ | refine IfB.F rfl ?_ | refine IfB.DT (by first | assumption | omega | (simp; done) | fail) ?_ | refine IfB.DF (by first | assumption | omega | (simp; done) | fail) ?_ | refine IfB.D (fun h => ?_) (fun h => ?_)) | (show Need _ _; first | refine Need.mk (by first | omega | (simp only [strMost, mostRows, rS_len, rI_len, List.length_append, List.length_map, List.length_set, List.length_replicate, List.length_cons, List.length_nil, List.length_drop, List.length_take, letterL_len]; done) | (simp only [strMost, mostRows, rS_len, rI_len, List.length_append, List.length_map, List.length_set, List.length_replicate, List.length_cons, List.length_nil, List.length_drop, List.length_take, letterL_len] at *; omega) | (simp at *; omega) | fail) ?_) | (show Find _ _; first | refine Find.mk _ (drop_get hd h0 1 (by omega) rfl) ?_ | refine Find.mk _ (drop_get hd h0 0 (by omega) rfl) ?_) | exact EqB.mk rfl))
      have e : sizeL (c :: t) = if 65 ≤ (c.toNat : Int) ∧ (c.toNat : Int) ≤ 72 then sizeL (c :: t) else 0 := by
        split
        · rfl
        · exact sizeL_none (nameT_no c t (by assumption) c1 c2 c3 c4 c5)
      rw [e]
      have c1 : (c.toNat : Int) ≠ 110 := u8ne (n := 110) (by omega) c1
      have c2 : (c.toNat : Int) ≠ 107 := u8ne (n := 107) (by omega) c2
      have c3 : (c.toNat : Int) ≠ 101 := u8ne (n := 101) (by omega) c3
      have c4 : (c.toNat : Int) ≠ 109 := u8ne (n := 109) (by omega) c4
      have c5 : (c.toNat : Int) ≠ 114 := u8ne (n := 114) (by omega) c5
      clear ih
      generalize (if 65 ≤ (c.toNat : Int) ∧ (c.toNat : Int) ≤ 72 then sizeL (c :: t) else 0) = z at hF ⊢
      refine Ct.z wd Tryz.func68 rfl rfl Tryz.ntmps68 rfl rfl rfl rfl ?_
      repeat' ((conv => whnf); (first | (refine hK _ _ _ ?_; clear hK K) | (show Z _ _ _ _ _ _ _ _; first | refine Z.reg wd (fun K hK => ?_) | refine Z.seq ?_ | refine Z.skip ?_ | refine Z.cond (E := Ee) ?_ | refine Z.ret rfl ?_ | refine Z.block ?_ | refine Z.blockEnd ?_) | (show IfB _ _ _; first | refine IfB.F rfl ?_ | refine IfB.DF (by first | assumption | omega | (simp; done) | fail) ?_) | (show Need _ _; first | refine Need.mk (by first | omega | (simp only [strMost, mostRows, rS_len, rI_len, List.length_append, List.length_map, List.length_set, List.length_replicate, List.length_cons, List.length_nil, List.length_drop, List.length_take, letterL_len]; done) | (simp only [strMost, mostRows, rS_len, rI_len, List.length_append, List.length_map, List.length_set, List.length_replicate, List.length_cons, List.length_nil, List.length_drop, List.length_take, letterL_len] at *; omega) | (simp at *; omega) | fail) ?_) | (show CallW _ _ _ _; first | refine CallW.mk _ hF ?_) | (show Find _ _; first | refine Find.mk _ (drop_get hd h0 0 (by omega) rfl) ?_) | exact EqB.mk rfl))
theorem size0_ct (s : List UInt8) (hs : s.length ≤ 300) : Ct Tryz.prog 68 [bS s, bI 0] (.w (bI (sizeL s))) := l1Size_ct _ s s 0 (Nat.le_refl _) rfl (by omega) (by omega) hs
theorem size1_ct (c : UInt8) (s : List UInt8) (hs : (c :: s).length ≤ 300) : Ct Tryz.prog 68 [bS (c :: s), bI 1] (.w (bI (sizeL s))) := l1Size_ct _ (c :: s) s 1 (Nat.le_refl _) rfl (by omega) (by simp; omega) hs
end Go.Proofs.YtfokmnafgabdiaaGreatDoor.Eng
namespace Go.Proofs.YtfokmnafgabdiaaGreatDoor.Eng
open Go Go.RowKit Kw
set_option linter.unusedVariables false
set_option linter.unusedSimpArgs false
set_option maxRecDepth 10000
attribute [local irreducible] Ct HCt
set_option maxHeartbeats 4000000
theorem okS_true {s : List UInt8} (hs : s ≠ []) (hl : s.length ≤ 300) (e : sizeL s = s.length) : okS s = true := by
  obtain ⟨h, hh⟩ := sizeL_full hs e
  have := nameT_op hh
  unfold okS
  rw [madeL_some hl hh]
  simp only [decide_eq_true_eq]; omega
theorem okS_made {s : List UInt8} (h : okS s = true) : s.length ≤ 300 ∧ nameT s = some (madeL s, []) := by
  unfold okS at h
  exact madeL_op (by simpa using h)
theorem okS_sound {s : List UInt8} (h : okS s = true) : s ≠ [] ∧ s.length ≤ 300 ∧ sizeL s = s.length := by
  obtain ⟨h1, h2⟩ := okS_made h
  obtain ⟨h3, h4⟩ := full_sizeL h2
  exact ⟨h3, h1, h4⟩
theorem okS_no {s : List UInt8} (h : ¬ (s ≠ [] ∧ s.length ≤ 300 ∧ sizeL s = s.length)) : okS s = false := by
  cases e : okS s with
  | false => rfl
  | true => exact absurd (okS_sound e) h
theorem sSecOk_ct (s : List UInt8) : Ct Tryz.prog 37 [bS s] (.w (bB (okS s))) := by
  refine Ct.z wd Tryz.func37 rfl rfl Tryz.ntmps37 rfl rfl rfl rfl ?_
  repeat' ((conv => whnf); (first | (refine hK _ _ _ ?_; clear hK K) | (show Z _ _ _ _ _ _ _ _; first | refine Z.reg wd (fun K hK => ?_) | refine Z.seq ?_ | refine Z.ret rfl ?_) | (show IfB _ _ _; first | refine IfB.T rfl ?_ | refine IfB.F rfl ?_ | refine IfB.D (fun h => ?_) (fun h => ?_)) | (show CallW _ _ _ _; first | refine CallW.mk _ (size0_ct _ (by first | omega | (simp only [strMost, mostRows, rS_len, rI_len, List.length_append, List.length_map, List.length_set, List.length_replicate, List.length_cons, List.length_nil, List.length_drop, List.length_take, letterL_len]; done) | (simp only [strMost, mostRows, rS_len, rI_len, List.length_append, List.length_map, List.length_set, List.length_replicate, List.length_cons, List.length_nil, List.length_drop, List.length_take, letterL_len] at *; omega) | (simp at *; omega) | fail)) ?_) | refine EqB.mk ?_))
  · cases he : decide (sizeL s = s.length) with
    | true => rw [okS_true (by assumption) (by omega) (by simpa using he)]
    | false => rw [okS_no (fun q => by simp [q.2.2] at he)]
  · rw [okS_no (fun q => by omega)]
  · rw [okS_no (fun q => absurd q.1 (by assumption))]
def okOr (s : List UInt8) : List UInt8 := if okS s = true then s else []
theorem l1Ok_ct (s : List UInt8) : Ct Tryz.prog 86 [bS s] (.w (bS (okOr s))) := by
  refine Ct.z wd Tryz.func86 rfl rfl Tryz.ntmps86 rfl rfl rfl rfl ?_
  repeat' ((conv => whnf); (first | (refine hK _ _ _ ?_; clear hK K) | (show Z _ _ _ _ _ _ _ _; first | refine Z.reg wd (fun K hK => ?_) | refine Z.seq ?_ | refine Z.skip ?_ | refine Z.cond (E := Ee) ?_ | refine Z.ret rfl ?_) | (show IfB _ _ _; first | refine IfB.N ?_ | refine IfB.mk (fun h => ?_) (fun h => ?_)) | (show CallW _ _ _ _; first | refine CallW.mk _ (sSecOk_ct _) ?_) | refine EqB.mk ?_))
  · rw [okOr, if_pos h]
  · rw [okOr, if_neg (by simp [h])]; rfl
theorem okS_cons {c : UInt8} {s : List UInt8} (hc : c = 110 ∨ c = 107) (hs : okS s = true) : okOr (c :: s) = if 1 + s.length ≤ 300 then c :: s else [] := by
  have h1 := okS_sound hs
  have h2 := sizeL_le s
  have h3 : sizeL (c :: s) = s.length + 1 := by
    have hp : s.length ≠ 0 := fun q => h1.1 (List.eq_nil_of_length_eq_zero q)
    rcases hc with rfl | rfl
    · rw [sizeL_up, moreL, if_neg (by omega), h1.2.2]; omega
    · rw [sizeL_key, moreL, if_neg (by omega), h1.2.2]; omega
  by_cases hl : 1 + s.length ≤ 300
  · rw [okOr, if_pos hl, if_pos (okS_true (by simp) (by simp; omega) (by rw [h3]; simp))]
  · rw [okOr, if_neg hl, if_neg (by rw [okS_no (fun q => by have := q.2.1; simp at this; omega)]; simp)]
theorem nextS_ok {s : List UInt8} (hs : okS s = true) : nextS s = okOr (110 :: s) := by
  rw [okS_cons (.inl rfl) hs, nextS, mkS]
  by_cases hl : 1 + s.length ≤ 300
  · rw [if_pos hl, if_pos ⟨hs, by simpa using hl⟩]; rfl
  · rw [if_neg hl, if_neg (fun q => hl (by simpa using q.2))]
theorem keyOf_ok {s : List UInt8} (hs : okS s = true) : keyOf s = okOr (107 :: s) := by
  rw [okS_cons (.inr rfl) hs, keyOf, mkS]
  by_cases hl : 1 + s.length ≤ 300
  · rw [if_pos hl, if_pos ⟨hs, by simpa using hl⟩]; rfl
  · rw [if_neg hl, if_neg (fun q => hl (by simpa using q.2))]
theorem mkS_no {a s : List UInt8} (hs : okS s = false) : mkS a s = [] := by rw [mkS, if_neg (by simp [hs])]
theorem sMakNext_ct (s : List UInt8) : Ct Tryz.prog 71 [bS s] (.w (bS (nextS s))) := by
  by_cases hs : okS s = true
  · have hl := okS_len hs
    rw [nextS_ok hs]
    refine Ct.z wd Tryz.func71 rfl rfl Tryz.ntmps71 rfl rfl rfl rfl ?_
    repeat' ((conv => whnf); (first | (refine hK _ _ _ ?_; clear hK K) | (show Z _ _ _ _ _ _ _ _; first | refine Z.reg wd (fun K hK => ?_) | refine Z.seq ?_ | refine Z.skip ?_ | refine Z.cond (E := Ee) ?_ | refine Z.ret rfl ?_) | (show IfB _ _ _; first | refine IfB.T (by assumption) ?_ | refine IfB.N ?_) | (show Need _ _; first | refine Need.mk (by first | omega | (simp only [strMost, mostRows, rS_len, rI_len, List.length_append, List.length_map, List.length_set, List.length_replicate, List.length_cons, List.length_nil, List.length_drop, List.length_take, letterL_len]; done) | (simp only [strMost, mostRows, rS_len, rI_len, List.length_append, List.length_map, List.length_set, List.length_replicate, List.length_cons, List.length_nil, List.length_drop, List.length_take, letterL_len] at *; omega) | (simp at *; omega) | fail) ?_) | (show CallW _ _ _ _; first | refine CallW.mk _ (sSecOk_ct _) ?_ | refine CallW.mk _ (l1Ok_ct _) ?_) | exact EqB.mk rfl))
  · have hs : okS s = false := by simpa using hs
    rw [nextS, mkS_no hs]
    refine Ct.z wd Tryz.func71 rfl rfl Tryz.ntmps71 rfl rfl rfl rfl ?_
    repeat' ((conv => whnf); (first | (refine hK _ _ _ ?_; clear hK K) | (show Z _ _ _ _ _ _ _ _; first | refine Z.reg wd (fun K hK => ?_) | refine Z.seq ?_ | refine Z.cond (E := Ee) ?_ | refine Z.ret rfl ?_) | (show IfB _ _ _; first | refine IfB.F (by assumption) ?_ | refine IfB.N ?_) | (show CallW _ _ _ _; first | refine CallW.mk _ (sSecOk_ct _) ?_) | exact EqB.mk rfl))
theorem sMakKey_ct (s : List UInt8) : Ct Tryz.prog 69 [bS s] (.w (bS (keyOf s))) := by
  by_cases hs : okS s = true
  · have hl := okS_len hs
    rw [keyOf_ok hs]
    refine Ct.z wd Tryz.func69 rfl rfl Tryz.ntmps69 rfl rfl rfl rfl ?_
    repeat' ((conv => whnf); (first | (refine hK _ _ _ ?_; clear hK K) | (show Z _ _ _ _ _ _ _ _; first | refine Z.reg wd (fun K hK => ?_) | refine Z.seq ?_ | refine Z.skip ?_ | refine Z.cond (E := Ee) ?_ | refine Z.ret rfl ?_) | (show IfB _ _ _; first | refine IfB.T (by assumption) ?_ | refine IfB.N ?_) | (show Need _ _; first | refine Need.mk (by first | omega | (simp only [strMost, mostRows, rS_len, rI_len, List.length_append, List.length_map, List.length_set, List.length_replicate, List.length_cons, List.length_nil, List.length_drop, List.length_take, letterL_len]; done) | (simp only [strMost, mostRows, rS_len, rI_len, List.length_append, List.length_map, List.length_set, List.length_replicate, List.length_cons, List.length_nil, List.length_drop, List.length_take, letterL_len] at *; omega) | (simp at *; omega) | fail) ?_) | (show CallW _ _ _ _; first | refine CallW.mk _ (sSecOk_ct _) ?_ | refine CallW.mk _ (l1Ok_ct _) ?_) | exact EqB.mk rfl))
  · have hs : okS s = false := by simpa using hs
    rw [keyOf, mkS_no hs]
    refine Ct.z wd Tryz.func69 rfl rfl Tryz.ntmps69 rfl rfl rfl rfl ?_
    repeat' ((conv => whnf); (first | (refine hK _ _ _ ?_; clear hK K) | (show Z _ _ _ _ _ _ _ _; first | refine Z.reg wd (fun K hK => ?_) | refine Z.seq ?_ | refine Z.cond (E := Ee) ?_ | refine Z.ret rfl ?_) | (show IfB _ _ _; first | refine IfB.F (by assumption) ?_ | refine IfB.N ?_) | (show CallW _ _ _ _; first | refine CallW.mk _ (sSecOk_ct _) ?_) | exact EqB.mk rfl))
end Go.Proofs.YtfokmnafgabdiaaGreatDoor.Eng
namespace Go.Proofs.YtfokmnafgabdiaaGreatDoor.Eng
open Go Go.RowKit Kw
set_option linter.unusedVariables false
set_option linter.unusedSimpArgs false
set_option maxRecDepth 10000
attribute [local irreducible] Ct HCt
set_option maxHeartbeats 4000000
theorem ahead_nil (t : List UInt8) : Kw.ahead t [] = t := by
  unfold Kw.ahead
  rw [List.take_of_length_le (by simp)]
theorem l1How_ct (s : List UInt8) (hk : okS s = true) : Ct Tryz.prog 67 [bS s] (.w (bHow (madeL s))) := by
  have hl := okS_len hk
  obtain ⟨_, e⟩ := okS_made hk
  clear hk
  generalize madeL s = h at e ⊢
  cases s with
  | nil => cases e
  | cons c t =>
    simp only [List.length_cons] at hl
    by_cases hc : 65 ≤ (c.toNat : Int) ∧ (c.toNat : Int) ≤ 72
    · rcases nameT_new_whole hc e with ⟨d, rfl, hd, rfl⟩ | ⟨d, x, rfl, hd, hx, rfl⟩
      · clear e
        refine Ct.z wd Tryz.func67 rfl rfl Tryz.ntmps67 rfl rfl rfl rfl ?_
        repeat' ((conv => whnf); (first | (refine hK _ _ _ ?_; clear hK K) | (show Z _ _ _ _ _ _ _ _; first | refine Z.reg wd (fun K hK => ?_) | refine Z.seq ?_ | refine Z.skip ?_ | refine Z.cond (E := Ee) ?_ | refine Z.ret rfl ?_ | refine Z.block ?_ | refine Z.blockEnd ?_ | refine Z.exit rfl ?_ | refine Z.again ?_ | refine Z.loop 4 (Z.again ?_)) | (show IfB _ _ _; first | refine IfB.T rfl ?_ | refine IfB.F rfl ?_ | refine IfB.DF (by first | assumption | omega | (simp; done) | fail) ?_) | (show Need _ _; first | refine Need.mk (by first | omega | (simp only [strMost, mostRows, rS_len, rI_len, List.length_append, List.length_map, List.length_set, List.length_replicate, List.length_cons, List.length_nil, List.length_drop, List.length_take, letterL_len]; done) | (simp only [strMost, mostRows, rS_len, rI_len, List.length_append, List.length_map, List.length_set, List.length_replicate, List.length_cons, List.length_nil, List.length_drop, List.length_take, letterL_len] at *; omega) | (simp at *; omega) | fail) ?_) | (show Find _ _; first | refine Find.mk _ rfl ?_) | refine EqB.mk ?_))
        rw [show 0 * 10 + ((d.toNat : Int) - 48) = (d.toNat : Int) - 48 from by omega]; rfl
      · clear e
        refine Ct.z wd Tryz.func67 rfl rfl Tryz.ntmps67 rfl rfl rfl rfl ?_
        repeat' ((conv => whnf); (first | (refine hK _ _ _ ?_; clear hK K) | (show Z _ _ _ _ _ _ _ _; first | refine Z.reg wd (fun K hK => ?_) | refine Z.seq ?_ | refine Z.skip ?_ | refine Z.cond (E := Ee) ?_ | refine Z.ret rfl ?_ | refine Z.block ?_ | refine Z.blockEnd ?_ | refine Z.exit rfl ?_ | refine Z.again ?_ | refine Z.loop 4 (Z.again ?_)) | (show IfB _ _ _; first | refine IfB.T rfl ?_ | refine IfB.F rfl ?_ | refine IfB.DF (by first | assumption | omega | (simp; done) | fail) ?_) | (show Need _ _; first | refine Need.mk (by first | omega | (simp only [strMost, mostRows, rS_len, rI_len, List.length_append, List.length_map, List.length_set, List.length_replicate, List.length_cons, List.length_nil, List.length_drop, List.length_take, letterL_len]; done) | (simp only [strMost, mostRows, rS_len, rI_len, List.length_append, List.length_map, List.length_set, List.length_replicate, List.length_cons, List.length_nil, List.length_drop, List.length_take, letterL_len] at *; omega) | (simp at *; omega) | fail) ?_) | (show Find _ _; first | refine Find.mk _ rfl ?_) | refine EqB.mk ?_))
        rw [show (0 * 10 + ((d.toNat : Int) - 48)) * 10 + ((x.toNat : Int) - 48) = ((d.toNat : Int) - 48) * 10 + ((x.toNat : Int) - 48) from by omega]; rfl
    by_cases c1 : c = 110
    · subst c1
      rw [nameT_up] at e
      split at e
      case h_2 => cases e
      simp only [Option.some.injEq, Prod.mk.injEq] at e
      obtain ⟨rfl, rfl⟩ := e
      rw [ahead_nil]
      refine Ct.z wd Tryz.func67 rfl rfl Tryz.ntmps67 rfl rfl rfl rfl ?_
      repeat' ((conv => whnf); (first | (refine hK _ _ _ ?_; clear hK K) | (show Z _ _ _ _ _ _ _ _; first | refine Z.reg wd (fun K hK => ?_) | refine Z.seq ?_ | refine Z.cond (E := Ee) ?_ | refine Z.ret rfl ?_ | refine Z.block ?_) | (show IfB _ _ _; first | refine IfB.T rfl ?_) | (show Need _ _; first | refine Need.mk (by first | omega | (simp only [strMost, mostRows, rS_len, rI_len, List.length_append, List.length_map, List.length_set, List.length_replicate, List.length_cons, List.length_nil, List.length_drop, List.length_take, letterL_len]; done) | (simp only [strMost, mostRows, rS_len, rI_len, List.length_append, List.length_map, List.length_set, List.length_replicate, List.length_cons, List.length_nil, List.length_drop, List.length_take, letterL_len] at *; omega) | (simp at *; omega) | fail) ?_) | (show Find _ _; first | refine Find.mk _ rfl ?_) | (show Calc _ _; first | refine Calc.mk _ (drop1_cons _ _) ?_) | exact EqB.mk rfl))
    by_cases c2 : c = 107
    · subst c2
      rw [nameT_key] at e
      split at e
      case h_2 => cases e
      simp only [Option.some.injEq, Prod.mk.injEq] at e
      obtain ⟨rfl, rfl⟩ := e
      rw [ahead_nil]
      refine Ct.z wd Tryz.func67 rfl rfl Tryz.ntmps67 rfl rfl rfl rfl ?_
      repeat' ((conv => whnf); (first | (refine hK _ _ _ ?_; clear hK K) | (show Z _ _ _ _ _ _ _ _; first | refine Z.reg wd (fun K hK => ?_) | refine Z.seq ?_ | refine Z.cond (E := Ee) ?_ | refine Z.ret rfl ?_ | refine Z.block ?_) | (show IfB _ _ _; first | refine IfB.T rfl ?_ | refine IfB.F rfl ?_) | (show Need _ _; first | refine Need.mk (by first | omega | (simp only [strMost, mostRows, rS_len, rI_len, List.length_append, List.length_map, List.length_set, List.length_replicate, List.length_cons, List.length_nil, List.length_drop, List.length_take, letterL_len]; done) | (simp only [strMost, mostRows, rS_len, rI_len, List.length_append, List.length_map, List.length_set, List.length_replicate, List.length_cons, List.length_nil, List.length_drop, List.length_take, letterL_len] at *; omega) | (simp at *; omega) | fail) ?_) | (show Find _ _; first | refine Find.mk _ rfl ?_) | (show Calc _ _; first | refine Calc.mk _ (drop1_cons _ _) ?_) | exact EqB.mk rfl))
    by_cases c3 : c = 101
    · subst c3
      rw [nameT_two] at e
      split at e
      case h_2 => cases e
      rename_i h1 r hq1
      split at e
      case h_2 => cases e
      rename_i h2 r2 hq2
      simp only [Option.some.injEq, Prod.mk.injEq] at e
      obtain ⟨rfl, rfl⟩ := e
      rw [ahead_nil]
      have hz := sizeL_some hq1
      have hlr := nameT_len hq1
      have hdr : (101 :: t).drop (1 + sizeL t).toNat = r := by
        rw [show (1 + sizeL t).toNat = (sizeL t).toNat + 1 from by omega, List.drop_succ_cons, hz.1, show ((t.length : Int) - r.length).toNat = t.length - r.length from by omega]; exact nameT_drop hq1
      have hta : t.take (sizeL t).toNat = Kw.ahead t r := by rw [hz.1]; rfl
      refine Ct.z wd Tryz.func67 rfl rfl Tryz.ntmps67 rfl rfl rfl rfl ?_
      repeat' ((conv => whnf); (first | (refine hK _ _ _ ?_; clear hK K) | (show Z _ _ _ _ _ _ _ _; first | refine Z.reg wd (fun K hK => ?_) | refine Z.draw2 wd rfl (fun K hK => ?_) | refine Z.seq ?_ | refine Z.cond (E := Ee) ?_ | refine Z.ret rfl ?_ | refine Z.block ?_) | (show IfB _ _ _; first | refine IfB.T rfl ?_ | refine IfB.F rfl ?_) | (show Need _ _; first | refine Need.mk (by kernel_rfl) ?_ | refine Need.mk (by first | omega | (simp only [strMost, mostRows, rS_len, rI_len, List.length_append, List.length_map, List.length_set, List.length_replicate, List.length_cons, List.length_nil, List.length_drop, List.length_take, letterL_len]; done) | (simp only [strMost, mostRows, rS_len, rI_len, List.length_append, List.length_map, List.length_set, List.length_replicate, List.length_cons, List.length_nil, List.length_drop, List.length_take, letterL_len] at *; omega) | (simp at *; omega) | fail) ?_) | (show CallW _ _ _ _; first | refine CallW.mk _ (size1_ct _ _ (by first | omega | (simp only [strMost, mostRows, rS_len, rI_len, List.length_append, List.length_map, List.length_set, List.length_replicate, List.length_cons, List.length_nil, List.length_drop, List.length_take, letterL_len]; done) | (simp only [strMost, mostRows, rS_len, rI_len, List.length_append, List.length_map, List.length_set, List.length_replicate, List.length_cons, List.length_nil, List.length_drop, List.length_take, letterL_len] at *; omega) | (simp at *; omega) | fail)) ?_) | (show Find _ _; first | refine Find.mk _ rfl ?_) | (show Calc _ _; first | refine Calc.mk _ rfl ?_) | refine EqB.mk ?_))
      rw [hdr, show List.take ((1 + sizeL t).toNat - Int.toNat 1) (List.drop (Int.toNat 1) (101 :: t)) = Kw.ahead t r from by
        rw [← hta]; show List.take _ t = _
        rw [show (1 + sizeL t).toNat - Int.toNat 1 = (sizeL t).toNat from by omega]]
    by_cases c4 : c = 109
    · subst c4
      cases t with
      | nil => cases e
      | cons d t =>
        rw [nameT_say] at e
        split at e
        case isFalse => cases e
        split at e
        case h_2 => cases e
        simp only [Option.some.injEq, Prod.mk.injEq] at e
        obtain ⟨rfl, rfl⟩ := e
        rw [ahead_nil]
        simp only [List.length_cons] at hl
        refine Ct.z wd Tryz.func67 rfl rfl Tryz.ntmps67 rfl rfl rfl rfl ?_
        repeat' ((conv => whnf); (first | (refine hK _ _ _ ?_; clear hK K) | (show Z _ _ _ _ _ _ _ _; first | refine Z.reg wd (fun K hK => ?_) | refine Z.draw2 wd rfl (fun K hK => ?_) | refine Z.seq ?_ | refine Z.cond (E := Ee) ?_ | refine Z.ret rfl ?_ | refine Z.block ?_) | (show IfB _ _ _; first | refine IfB.T rfl ?_ | refine IfB.F rfl ?_) | (show Need _ _; first | refine Need.mk (by kernel_rfl) ?_ | refine Need.mk (by first | omega | (simp only [strMost, mostRows, rS_len, rI_len, List.length_append, List.length_map, List.length_set, List.length_replicate, List.length_cons, List.length_nil, List.length_drop, List.length_take, letterL_len]; done) | (simp only [strMost, mostRows, rS_len, rI_len, List.length_append, List.length_map, List.length_set, List.length_replicate, List.length_cons, List.length_nil, List.length_drop, List.length_take, letterL_len] at *; omega) | (simp at *; omega) | fail) ?_) | (show Find _ _; first | refine Find.mk _ rfl ?_) | (show Calc _ _; first | refine Calc.mk _ rfl ?_) | exact EqB.mk rfl))
    by_cases c5 : c = 114
    · subst c5
      cases t with
      | nil => cases e
      | cons d t =>
        rw [nameT_room] at e
        split at e
        case isFalse => cases e
        split at e
        case h_2 => cases e
        simp only [Option.some.injEq, Prod.mk.injEq] at e
        obtain ⟨rfl, rfl⟩ := e
        rw [ahead_nil]
        simp only [List.length_cons] at hl
        refine Ct.z wd Tryz.func67 rfl rfl Tryz.ntmps67 rfl rfl rfl rfl ?_
        repeat' ((conv => whnf); (first | (refine hK _ _ _ ?_; clear hK K) | (show Z _ _ _ _ _ _ _ _; first | refine Z.reg wd (fun K hK => ?_) | refine Z.draw2 wd rfl (fun K hK => ?_) | refine Z.seq ?_ | refine Z.cond (E := Ee) ?_ | refine Z.ret rfl ?_ | refine Z.block ?_) | (show IfB _ _ _; first | refine IfB.T rfl ?_ | refine IfB.F rfl ?_) | (show Need _ _; first | refine Need.mk (by kernel_rfl) ?_ | refine Need.mk (by first | omega | (simp only [strMost, mostRows, rS_len, rI_len, List.length_append, List.length_map, List.length_set, List.length_replicate, List.length_cons, List.length_nil, List.length_drop, List.length_take, letterL_len]; done) | (simp only [strMost, mostRows, rS_len, rI_len, List.length_append, List.length_map, List.length_set, List.length_replicate, List.length_cons, List.length_nil, List.length_drop, List.length_take, letterL_len] at *; omega) | (simp at *; omega) | fail) ?_) | (show Find _ _; first | refine Find.mk _ rfl ?_) | (show Calc _ _; first | refine Calc.mk _ rfl ?_) | exact EqB.mk rfl))
    rw [nameT_no c t hc c1 c2 c3 c4 c5] at e
    cases e
theorem madeL_no {s : List UInt8} (h : okS s = false) : madeL s = how0 := by
  unfold okS at h
  have h : (madeL s).op = 0 := by simpa using h
  unfold madeL at h ⊢
  by_cases hl : s.length > 300
  · rw [if_pos hl]
  · rw [if_neg hl] at h ⊢
    cases hq : nameT s with
    | none => rfl
    | some p =>
      obtain ⟨hh, r⟩ := p
      rw [hq] at h
      cases r with
      | nil => have := nameT_op hq; simp only at h; omega
      | cons => rfl
end Go.Proofs.YtfokmnafgabdiaaGreatDoor.Eng
