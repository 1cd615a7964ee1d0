/- The library's sort at this seat: its contract, laid from the library's own proof. -/
import Derived.Test.YtkcighnochjlgaaE15
import Derived.Test.YtkcighnochjlgaaProg
namespace Go.Proofs.Ytkcighnochjlgaa
open Go.Shelf
def srtL_ren : Go.Shelf.Ren := ⟨fun | 189 => 143 | 125 => 162 | 257 => 161 | 128 => 174 | 129 => 175 | 294 => 165 | 295 => 166 | 296 => 167 | 297 => 168 | 298 => 169 | 299 => 170 | 216 => 171 | 300 => 172 | 301 => 173 | 328 => 176 | 329 => 177 | 330 => 178 | 331 => 179 | 332 => 180 | 215 => 181 | 343 => 182 | n => n, fun | 28 => 36 | 3 => 3 | 46 => 155 | 0 => 0 | 51 => 192 | 53 => 194 | 4 => 4 | 183 => 217 | 182 => 216 | 131 => 222 | 5 => 5 | 9 => 9 | 218 => 224 | 222 => 228 | 228 => 230 | 229 => 231 | n => n, fun | n => n⟩
theorem srtL : Go.Proofs.Lays.n189 Try.prog srtL_ren := {
  mixed := by kernel_rfl
  f125 := Try.func162.trans (congrArg some (by kernel_rfl))
  f128 := Try.func174.trans (congrArg some (by kernel_rfl))
  f129 := Try.func175.trans (congrArg some (by kernel_rfl))
  f189 := Try.func143.trans (congrArg some (by kernel_rfl))
  f215 := Try.func181.trans (congrArg some (by kernel_rfl))
  f216 := Try.func171.trans (congrArg some (by kernel_rfl))
  f257 := Try.func161.trans (congrArg some (by kernel_rfl))
  f294 := Try.func165.trans (congrArg some (by kernel_rfl))
  f295 := Try.func166.trans (congrArg some (by kernel_rfl))
  f296 := Try.func167.trans (congrArg some (by kernel_rfl))
  f297 := Try.func168.trans (congrArg some (by kernel_rfl))
  f298 := Try.func169.trans (congrArg some (by kernel_rfl))
  f299 := Try.func170.trans (congrArg some (by kernel_rfl))
  f300 := Try.func172.trans (congrArg some (by kernel_rfl))
  f301 := Try.func173.trans (congrArg some (by kernel_rfl))
  f328 := Try.func176.trans (congrArg some (by kernel_rfl))
  f329 := Try.func177.trans (congrArg some (by kernel_rfl))
  f330 := Try.func178.trans (congrArg some (by kernel_rfl))
  f331 := Try.func179.trans (congrArg some (by kernel_rfl))
  f332 := Try.func180.trans (congrArg some (by kernel_rfl))
  f343 := Try.func182.trans (congrArg some (by kernel_rfl))
  t0 := Try.underlying0
  a0 := Try.isAgg0
  z0 := Try.sizeOf0
  v0 := Try.zeroValue0
  t3 := Try.underlying3
  a3 := Try.isAgg3
  z3 := Try.sizeOf3
  v3 := Try.zeroValue3
  t4 := Try.underlying4
  a4 := Try.isAgg4
  z4 := Try.sizeOf4
  v4 := Try.zeroValue4
  t5 := Try.underlying5
  a5 := Try.isAgg5
  z5 := Try.sizeOf5
  v5 := Try.zeroValue5
  t9 := Try.underlying9
  a9 := Try.isAgg9
  z9 := Try.sizeOf9
  v9 := Try.zeroValue9
  t28 := Try.underlying36
  a28 := Try.isAgg36
  z28 := Try.sizeOf36
  v28 := Try.zeroValue36
  t46 := Try.underlying155
  a46 := Try.isAgg155
  z46 := Try.sizeOf155
  v46 := Try.zeroValue155
  t51 := Try.underlying192
  a51 := Try.isAgg192
  z51 := Try.sizeOf192
  v51 := Try.zeroValue192
  t53 := Try.underlying194
  a53 := Try.isAgg194
  z53 := Try.sizeOf194
  v53 := Try.zeroValue194
  t131 := Try.underlying222
  a131 := Try.isAgg222
  z131 := Try.sizeOf222
  v131 := Try.zeroValue222
  t182 := Try.underlying216
  a182 := Try.isAgg216
  z182 := Try.sizeOf216
  v182 := Try.zeroValue216
  t183 := Try.underlying217
  a183 := Try.isAgg217
  z183 := Try.sizeOf217
  v183 := Try.zeroValue217
  t218 := Try.underlying224
  a218 := Try.isAgg224
  z218 := Try.sizeOf224
  v218 := Try.zeroValue224
  t222 := Try.underlying228
  a222 := Try.isAgg228
  z222 := Try.sizeOf228
  v222 := Try.zeroValue228
  t228 := Try.underlying230
  a228 := Try.isAgg230
  z228 := Try.sizeOf230
  v228 := Try.zeroValue230
  t229 := Try.underlying231
  a229 := Try.isAgg231
  z229 := Try.sizeOf231
  v229 := Try.zeroValue231 }

theorem sort_w {w : World} {M : Hp} {X : Fr} {v : Value} {xs : List Int} (hsz : xs.length < 4611686018427387904) (S : SH w M X [Rs.row cdInt v xs]) :
    C1 Try.prog 143 [v] w M X fun u M' r' => u = .tuple #[] ∧ M' = M ∧ r' = Rs.row cdInt v (srt xs) := c1_sort srtL hsz S
end Go.Proofs.Ytkcighnochjlgaa
