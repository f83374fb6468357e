/-
  The library's contracts for a sorted list of a map's keys, laid for this program, in plain declarations (printed by the kit's lay-plain.mjs).
-/
import Derived.Shelf.SlGeneric
import Derived.Shelf.SlIter.Nil
import Derived.Shelf.SortM.Plain
import Derived.Shelf.SortM.SortNone
import Derived.Ground.GgzProg
import Derived.Ground.SlgmProg
import Derived.Test.YtpibaahiboajhaaRows
namespace Go.Proofs.Ytpibaahiboajhaa
open Go.Shelf Go.Proofs
def Try.keysW_ren : Go.Shelf.Ren := ⟨fun | 7 => 95 | 10 => 127 | n => n, fun | 23 => 117 | 26 => 9 | 3 => 102 | 28 => 163 | 0 => 0 | 27 => 162 | 33 => 149 | 4 => 4 | n => n, fun | n => n⟩
theorem Try.keysW : Go.Proofs.SlLaysZ.n7 Try.prog Try.keysW_ren := {
  mixed := by kernel_rfl
  f7 := ⟨Try.f95.name, by decide, Try.func95.trans (congrArg some (by kernel_rfl))⟩
  f10 := ⟨Try.f127.name, by decide, Try.func127.trans (congrArg some (by kernel_rfl))⟩
  t0 := Try.underlying0
  a0 := Try.isAgg0
  z0 := Try.sizeOf0
  v0 := Try.zeroValue0
  t4 := Try.underlying4
  a4 := Try.isAgg4
  z4 := Try.sizeOf4
  v4 := Try.zeroValue4
  t23 := Try.underlying117
  a23 := Try.isAgg117
  z23 := Try.sizeOf117
  v23 := Try.zeroValue117
  t26 := Try.underlying9
  a26 := Try.isAgg9
  z26 := Try.sizeOf9
  v26 := Try.zeroValue9
  t27 := Try.underlying162
  a27 := Try.isAgg162
  z27 := Try.sizeOf162
  v27 := Try.zeroValue162
  t28 := Try.underlying163
  a28 := Try.isAgg163
  z28 := Try.sizeOf163
  v28 := Try.zeroValue163
  t33 := Try.underlying149
  a33 := Try.isAgg149
  z33 := Try.sizeOf149
  v33 := Try.zeroValue149 }
def Try.sortedW_ren : Go.Shelf.Ren := ⟨fun | 6 => 94 | 8 => 125 | 9 => 126 | 11 => 143 | 13 => 132 | 12 => 144 | 23 => 155 | 24 => 156 | 14 => 163 | 15 => 164 | 16 => 165 | 17 => 166 | 18 => 167 | 19 => 168 | 20 => 169 | 21 => 170 | 22 => 171 | 25 => 180 | 26 => 173 | 27 => 174 | 28 => 181 | 29 => 182 | 30 => 183 | 31 => 187 | n => n, fun | 26 => 9 | 28 => 163 | 24 => 107 | 0 => 0 | 3 => 3 | 37 => 208 | 48 => 230 | 50 => 22 | 4 => 4 | 40 => 223 | 39 => 222 | 45 => 159 | 5 => 5 | 9 => 9 | 51 => 243 | 55 => 246 | 57 => 250 | 58 => 251 | 33 => 149 | n => n, fun | n => n⟩
theorem Try.sortedW : Go.Proofs.SlLaysZ.n6 Try.prog Try.sortedW_ren := {
  mixed := by kernel_rfl
  f6 := ⟨Try.f94.name, by decide, Try.func94.trans (congrArg some (by kernel_rfl))⟩
  f8 := ⟨Try.f125.name, by decide, Try.func125.trans (congrArg some (by kernel_rfl))⟩
  f11 := ⟨Try.f143.name, by decide, Try.func143.trans (congrArg some (by kernel_rfl))⟩
  t0 := Try.underlying0
  a0 := Try.isAgg0
  z0 := Try.sizeOf0
  v0 := Try.zeroValue0
  t24 := Try.underlying107
  a24 := Try.isAgg107
  z24 := Try.sizeOf107
  v24 := Try.zeroValue107
  t26 := Try.underlying9
  a26 := Try.isAgg9
  z26 := Try.sizeOf9
  v26 := Try.zeroValue9
  t28 := Try.underlying163
  a28 := Try.isAgg163
  z28 := Try.sizeOf163
  v28 := Try.zeroValue163
  i26 := by kernel_rfl }
def Try.sortW_ren : Go.Shelf.Ren := ⟨fun | 6 => 126 | 8 => 132 | 9 => 144 | 19 => 155 | 20 => 156 | 21 => 163 | 22 => 164 | 23 => 165 | 24 => 166 | 25 => 167 | 26 => 168 | 27 => 169 | 28 => 170 | 29 => 171 | 36 => 180 | 31 => 173 | 32 => 174 | 37 => 181 | 38 => 182 | 39 => 183 | 41 => 187 | n => n, fun | 27 => 107 | 29 => 9 | 3 => 3 | 32 => 208 | 26 => 107 | 0 => 0 | 44 => 230 | 46 => 22 | 4 => 4 | 36 => 223 | 35 => 222 | 41 => 159 | 5 => 5 | 9 => 9 | 53 => 243 | 57 => 246 | 63 => 250 | 64 => 251 | n => n, fun | n => n⟩
theorem Try.sortW : Go.Proofs.SlLaysM.n6 Try.prog Try.sortW_ren := {
  mixed := by kernel_rfl
  f6 := ⟨Try.f126.name, by decide, Try.func126.trans (congrArg some (by kernel_rfl))⟩
  f8 := Try.func132.trans (congrArg some (by kernel_rfl))
  f9 := ⟨Try.f144.name, by decide, Try.func144.trans (congrArg some (by kernel_rfl))⟩
  f19 := Try.func155.trans (congrArg some (by kernel_rfl))
  f20 := Try.func156.trans (congrArg some (by kernel_rfl))
  f21 := ⟨Try.f163.name, by decide, Try.func163.trans (congrArg some (by kernel_rfl))⟩
  f22 := ⟨Try.f164.name, by decide, Try.func164.trans (congrArg some (by kernel_rfl))⟩
  f23 := ⟨Try.f165.name, by decide, Try.func165.trans (congrArg some (by kernel_rfl))⟩
  f24 := ⟨Try.f166.name, by decide, Try.func166.trans (congrArg some (by kernel_rfl))⟩
  f25 := ⟨Try.f167.name, by decide, Try.func167.trans (congrArg some (by kernel_rfl))⟩
  f26 := ⟨Try.f168.name, by decide, Try.func168.trans (congrArg some (by kernel_rfl))⟩
  f27 := ⟨Try.f169.name, by decide, Try.func169.trans (congrArg some (by kernel_rfl))⟩
  f28 := ⟨Try.f170.name, by decide, Try.func170.trans (congrArg some (by kernel_rfl))⟩
  f29 := ⟨Try.f171.name, by decide, Try.func171.trans (congrArg some (by kernel_rfl))⟩
  f31 := Try.func173.trans (congrArg some (by kernel_rfl))
  f32 := Try.func174.trans (congrArg some (by kernel_rfl))
  f36 := ⟨Try.f180.name, by decide, Try.func180.trans (congrArg some (by kernel_rfl))⟩
  f37 := ⟨Try.f181.name, by decide, Try.func181.trans (congrArg some (by kernel_rfl))⟩
  f38 := ⟨Try.f182.name, by decide, Try.func182.trans (congrArg some (by kernel_rfl))⟩
  f39 := ⟨Try.f183.name, by decide, Try.func183.trans (congrArg some (by kernel_rfl))⟩
  f41 := ⟨Try.f187.name, by decide, Try.func187.trans (congrArg some (by kernel_rfl))⟩
  t0 := Try.underlying0
  a0 := Try.isAgg0
  z0 := Try.sizeOf0
  v0 := Try.zeroValue0
  t3 := Try.underlying3
  a3 := Try.isAgg3
  z3 := Try.sizeOf3
  v3 := Try.zeroValue3
  t4 := Try.underlying4
  a4 := Try.isAgg4
  z4 := Try.sizeOf4
  v4 := Try.zeroValue4
  t5 := Try.underlying5
  a5 := Try.isAgg5
  z5 := Try.sizeOf5
  v5 := Try.zeroValue5
  t9 := Try.underlying9
  a9 := Try.isAgg9
  z9 := Try.sizeOf9
  v9 := Try.zeroValue9
  t26 := Try.underlying107
  a26 := Try.isAgg107
  z26 := Try.sizeOf107
  v26 := Try.zeroValue107
  t27 := Try.underlying107
  a27 := Try.isAgg107
  z27 := Try.sizeOf107
  v27 := Try.zeroValue107
  t29 := Try.underlying9
  a29 := Try.isAgg9
  z29 := Try.sizeOf9
  v29 := Try.zeroValue9
  t32 := Try.underlying208
  a32 := Try.isAgg208
  z32 := Try.sizeOf208
  v32 := Try.zeroValue208
  t35 := Try.underlying222
  a35 := Try.isAgg222
  z35 := Try.sizeOf222
  v35 := Try.zeroValue222
  t36 := Try.underlying223
  a36 := Try.isAgg223
  z36 := Try.sizeOf223
  v36 := Try.zeroValue223
  t41 := Try.underlying159
  a41 := Try.isAgg159
  z41 := Try.sizeOf159
  v41 := Try.zeroValue159
  t44 := Try.underlying230
  a44 := Try.isAgg230
  z44 := Try.sizeOf230
  v44 := Try.zeroValue230
  t46 := Try.underlying22
  a46 := Try.isAgg22
  z46 := Try.sizeOf22
  v46 := Try.zeroValue22
  t53 := Try.underlying243
  a53 := Try.isAgg243
  z53 := Try.sizeOf243
  v53 := Try.zeroValue243
  t57 := Try.underlying246
  a57 := Try.isAgg246
  z57 := Try.sizeOf246
  v57 := Try.zeroValue246
  t63 := Try.underlying250
  a63 := Try.isAgg250
  z63 := Try.sizeOf250
  v63 := Try.zeroValue250
  t64 := Try.underlying251
  a64 := Try.isAgg251
  z64 := Try.sizeOf251
  v64 := Try.zeroValue251 }
end Go.Proofs.Ytpibaahiboajhaa
