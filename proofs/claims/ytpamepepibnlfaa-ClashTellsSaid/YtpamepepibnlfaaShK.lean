/- SHA-256: some sums, reckoned by the kernel. Nothing here speaks of a program. -/
import Derived.Test.YtpamepepibnlfaaShM
namespace Go.Aw.Sha
set_option linter.unusedVariables false
set_option linter.unusedSimpArgs false
set_option maxRecDepth 100000
def k_d0 : List Nat := [110, 52, 11, 156, 255, 179, 122, 152, 156, 165, 68, 230, 187, 120, 10, 44, 120, 144, 29, 63, 179, 55, 56, 118, 133, 17, 163, 6, 23, 175, 160, 29]
def k_dx : List Nat := [60, 126, 155, 201, 48, 220, 147, 240, 31, 166, 153, 133, 239, 36, 45, 159, 158, 134, 31, 60, 83, 85, 170, 36, 206, 94, 244, 180, 184, 167, 12, 203]
def k_d1 : List Nat := [61, 152, 27, 166, 100, 234, 31, 54, 218, 48, 102, 189, 149, 118, 183, 26, 29, 3, 165, 0, 95, 59, 219, 179, 88, 22, 97, 45, 15, 7, 140, 24]
def k_d1x : List Nat := [102, 123, 221, 182, 33, 238, 20, 74, 216, 248, 3, 194, 246, 90, 64, 41, 219, 102, 67, 252, 220, 177, 89, 37, 110, 68, 173, 34, 54, 101, 27, 36]
def k_r : List Nat := [223, 120, 159, 7, 224, 114, 144, 222, 181, 63, 117, 247, 15, 115, 197, 134, 38, 132, 186, 86, 194, 70, 20, 107, 62, 236, 150, 67, 91, 64, 143, 15]
def k_rx : List Nat := [182, 37, 136, 178, 86, 184, 241, 99, 36, 127, 133, 61, 139, 217, 139, 28, 74, 124, 252, 182, 77, 247, 140, 208, 86, 142, 85, 124, 131, 42, 112, 162]
theorem kv_d0 : sum [0] = k_d0 := by decide +kernel
theorem kv_dx : sum [0, 120] = k_dx := by decide +kernel
theorem kv_d1 : sum ([1] ++ k_d0 ++ k_d0 ++ k_d0 ++ k_d0) = k_d1 := by decide +kernel
theorem kv_d1x : sum ([1] ++ k_d0 ++ k_d0 ++ k_d0 ++ k_dx) = k_d1x := by decide +kernel
theorem kv_r : sum ([1] ++ k_d1 ++ k_d1 ++ k_d1 ++ k_d1) = k_r := by decide +kernel
theorem kv_rx : sum ([1] ++ k_d1x ++ k_d1 ++ k_d1 ++ k_d1) = k_rx := by decide +kernel
theorem kv_ne : k_r ≠ k_rx := by decide
end Go.Aw.Sha
