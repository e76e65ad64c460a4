/-
  DERIVED: THE SHELF's CONTRACTS AT THIS DUMP, IN PLAIN WORDS (tools/lay-plain.mjs out of 'YtcbhmngagibhmaaGreatLay.lean', which tools/lay-shelf.mjs wrote): THE SAME DECLARATIONS UNDER THE SAME NAMES: 'import', 'namespace', 'open', 'def', 'theorem' AND NOTHING ELSE: no command of the shelf's: FOR A HAND-IN. Each laying: the table of numbers ('.._ren') and one theorem, a field a fact of the dump's own or the kernel's comparison; each contract: ONE APPLICATION.
-/
import Derived.Shelf.SlSortCmp.NoneTotal
import Derived.Test.YtcbhmngagibhmaaGreatProg
namespace Go.Proofs
open Go.Shelf
def Tryz.lay239_ren : Go.Shelf.Ren := ⟨fun | 6 => 239 | 15 => 250 | 14 => 249 | 28 => 260 | 29 => 261 | 20 => 252 | 21 => 253 | 22 => 254 | 23 => 255 | 24 => 256 | 25 => 257 | 26 => 258 | 27 => 259 | 46 => 262 | 47 => 263 | 48 => 264 | 49 => 265 | 50 => 266 | 57 => 267 | n => n, fun | 22 => 247 | 24 => 244 | 25 => 307 | 3 => 3 | 39 => 219 | 0 => 0 | 53 => 273 | 55 => 79 | 4 => 4 | 46 => 321 | 45 => 320 | 50 => 325 | 5 => 5 | 9 => 9 | 66 => 329 | 70 => 332 | 76 => 334 | 77 => 61 | n => n, fun | n => n⟩
theorem Tryz.lay239 : Go.Proofs.SlLaysF0.n6 Tryz.prog Tryz.lay239_ren := {
  mixed := by kernel_rfl
  f6 := ⟨Tryz.f239.name, by decide, Tryz.func239.trans (congrArg some (by kernel_rfl))⟩
  f14 := ⟨Tryz.f249.name, by decide, Tryz.func249.trans (congrArg some (by kernel_rfl))⟩
  f15 := Tryz.func250.trans (congrArg some (by kernel_rfl))
  f20 := ⟨Tryz.f252.name, by decide, Tryz.func252.trans (congrArg some (by kernel_rfl))⟩
  f21 := ⟨Tryz.f253.name, by decide, Tryz.func253.trans (congrArg some (by kernel_rfl))⟩
  f22 := ⟨Tryz.f254.name, by decide, Tryz.func254.trans (congrArg some (by kernel_rfl))⟩
  f23 := ⟨Tryz.f255.name, by decide, Tryz.func255.trans (congrArg some (by kernel_rfl))⟩
  f24 := ⟨Tryz.f256.name, by decide, Tryz.func256.trans (congrArg some (by kernel_rfl))⟩
  f25 := ⟨Tryz.f257.name, by decide, Tryz.func257.trans (congrArg some (by kernel_rfl))⟩
  f26 := ⟨Tryz.f258.name, by decide, Tryz.func258.trans (congrArg some (by kernel_rfl))⟩
  f27 := ⟨Tryz.f259.name, by decide, Tryz.func259.trans (congrArg some (by kernel_rfl))⟩
  f28 := Tryz.func260.trans (congrArg some (by kernel_rfl))
  f29 := Tryz.func261.trans (congrArg some (by kernel_rfl))
  f46 := ⟨Tryz.f262.name, by decide, Tryz.func262.trans (congrArg some (by kernel_rfl))⟩
  f47 := Tryz.func263.trans (congrArg some (by kernel_rfl))
  f48 := Tryz.func264.trans (congrArg some (by kernel_rfl))
  f49 := ⟨Tryz.f265.name, by decide, Tryz.func265.trans (congrArg some (by kernel_rfl))⟩
  f50 := ⟨Tryz.f266.name, by decide, Tryz.func266.trans (congrArg some (by kernel_rfl))⟩
  f57 := ⟨Tryz.f267.name, by decide, Tryz.func267.trans (congrArg some (by kernel_rfl))⟩
  t0 := Tryz.underlying0
  a0 := Tryz.isAgg0
  z0 := Tryz.sizeOf0
  v0 := Tryz.zeroValue0
  t3 := Tryz.underlying3
  a3 := Tryz.isAgg3
  z3 := Tryz.sizeOf3
  v3 := Tryz.zeroValue3
  t4 := Tryz.underlying4
  a4 := Tryz.isAgg4
  z4 := Tryz.sizeOf4
  v4 := Tryz.zeroValue4
  t5 := Tryz.underlying5
  a5 := Tryz.isAgg5
  z5 := Tryz.sizeOf5
  v5 := Tryz.zeroValue5
  t9 := Tryz.underlying9
  a9 := Tryz.isAgg9
  z9 := Tryz.sizeOf9
  v9 := Tryz.zeroValue9
  t22 := Tryz.underlying247
  a22 := Tryz.isAgg247
  z22 := Tryz.sizeOf247
  v22 := Tryz.zeroValue247
  t25 := Tryz.underlying307
  a25 := Tryz.isAgg307
  z25 := Tryz.sizeOf307
  v25 := Tryz.zeroValue307
  t39 := Tryz.underlying219
  a39 := Tryz.isAgg219
  z39 := Tryz.sizeOf219
  v39 := Tryz.zeroValue219
  t45 := Tryz.underlying320
  a45 := Tryz.isAgg320
  z45 := Tryz.sizeOf320
  v45 := Tryz.zeroValue320
  t46 := Tryz.underlying321
  a46 := Tryz.isAgg321
  z46 := Tryz.sizeOf321
  v46 := Tryz.zeroValue321
  t50 := Tryz.underlying325
  a50 := Tryz.isAgg325
  z50 := Tryz.sizeOf325
  v50 := Tryz.zeroValue325
  t53 := Tryz.underlying273
  a53 := Tryz.isAgg273
  z53 := Tryz.sizeOf273
  v53 := Tryz.zeroValue273
  t55 := Tryz.underlying79
  a55 := Tryz.isAgg79
  z55 := Tryz.sizeOf79
  v55 := Tryz.zeroValue79
  t66 := Tryz.underlying329
  a66 := Tryz.isAgg329
  z66 := Tryz.sizeOf329
  v66 := Tryz.zeroValue329
  t70 := Tryz.underlying332
  a70 := Tryz.isAgg332
  z70 := Tryz.sizeOf332
  v70 := Tryz.zeroValue332
  t76 := Tryz.underlying334
  a76 := Tryz.isAgg334
  z76 := Tryz.sizeOf334
  v76 := Tryz.zeroValue334
  t77 := Tryz.underlying61
  a77 := Tryz.isAgg61
  z77 := Tryz.sizeOf61
  v77 := Tryz.zeroValue61 }
end Go.Proofs
