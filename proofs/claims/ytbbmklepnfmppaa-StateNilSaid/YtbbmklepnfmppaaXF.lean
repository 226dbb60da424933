/- The functions of the seat as the interpreter has them, each held against the loaded program; the law of a nil state. -/
import Derived.Test.YtbbmklepnfmppaaProg
import Derived.KernelRfl
import Derived.Test.YtbbmklepnfmppaaXC
import Derived.Test.YtbbmklepnfmppaaXD
import Derived.Test.YtbbmklepnfmppaaXE
set_option linter.unusedSimpArgs false
set_option linter.unusedVariables false
set_option maxHeartbeats 2000000
section
namespace Go.X
open Go.Proofs
abbrev xq3_0l : List XO := [
  ⟨some 2, .a (.box (T 0)), none⟩,
  ⟨some 4, .p (.mov (C (.bool false))), none⟩]
def xq3_0 : List XO := xq3_0l
theorem xq3_0e : E3 xq3_0 xq3_0l := E3.rfl
abbrev xq3_1l : List XO := [
  ⟨some 15, .call (.func 4) [], none⟩,
  ⟨some 16, .p (.un .not (T 15)), none⟩]
def xq3_1 : List XO := xq3_1l
theorem xq3_1e : E3 xq3_1 xq3_1l := E3.rfl
abbrev xq3_2l : List XO := [
  ⟨some 4, .p (.mov (C (.bool false))), none⟩]
def xq3_2 : List XO := xq3_2l
theorem xq3_2e : E3 xq3_2 xq3_2l := E3.rfl
abbrev xq3_3l : List XO := [
  ⟨some 5, .p (.mov (C (.pointer none))), none⟩]
def xq3_3 : List XO := xq3_3l
theorem xq3_3e : E3 xq3_3 xq3_3l := E3.rfl
abbrev xq3_4l : List XO := [
  ⟨some 18, .p (.mov (T 5)), none⟩,
  ⟨some 19, .p (.mov (T 1)), none⟩,
  ⟨some 20, .call (.func 5) [(T 18), (T 19)], none⟩,
  ⟨some 17, .p (.mov (T 20)), none⟩,
  ⟨some 21, .p (.ext (T 17) 0), none⟩,
  ⟨some 22, .p (.ext (T 17) 1), none⟩,
  ⟨some 6, .p (.mov (T 21)), none⟩,
  ⟨some 7, .p (.mov (T 22)), none⟩]
def xq3_4 : List XO := xq3_4l
theorem xq3_4e : E3 xq3_4 xq3_4l := E3.rfl
abbrev xq3_5l : List XO := [
  ⟨some 24, .p (.mov (T 5)), none⟩,
  ⟨some 25, .p (.mov (T 1)), none⟩,
  ⟨some 26, .call (.func 6) [(T 24), (T 25)], none⟩,
  ⟨some 23, .p (.mov (T 26)), none⟩,
  ⟨some 27, .p (.ext (T 23) 0), none⟩,
  ⟨some 28, .p (.ext (T 23) 1), none⟩,
  ⟨some 8, .p (.mov (T 27)), none⟩,
  ⟨some 9, .p (.mov (T 28)), none⟩]
def xq3_5 : List XO := xq3_5l
theorem xq3_5e : E3 xq3_5 xq3_5l := E3.rfl
abbrev xq3_6l : List XO := [
  ⟨some 30, .p (.mov (T 5)), none⟩,
  ⟨some 31, .p (.faddr 0 (T 2)), none⟩,
  ⟨some 32, .r (.load1 (T 31)), none⟩,
  ⟨some 33, .call (.func 7) [(T 30), (T 32)], none⟩,
  ⟨some 29, .p (.mov (T 33)), none⟩,
  ⟨some 34, .p (.ext (T 29) 0), none⟩,
  ⟨some 35, .p (.ext (T 29) 1), none⟩,
  ⟨some 10, .p (.mov (T 34)), none⟩,
  ⟨some 11, .p (.mov (T 35)), none⟩]
def xq3_6 : List XO := xq3_6l
theorem xq3_6e : E3 xq3_6 xq3_6l := E3.rfl
abbrev xq3_7l : List XO := [
  ⟨some 37, .p (.mov (T 5)), none⟩,
  ⟨some 38, .r (.loadN 3 (T 2)), none⟩,
  ⟨some 39, .call (.func 8) [(T 37), (T 38)], none⟩,
  ⟨some 36, .p (.mov (T 39)), none⟩,
  ⟨some 40, .p (.ext (T 36) 0), none⟩,
  ⟨some 41, .p (.ext (T 36) 1), none⟩,
  ⟨some 12, .p (.mov (T 40)), none⟩,
  ⟨some 13, .p (.mov (T 41)), none⟩]
def xq3_7 : List XO := xq3_7l
theorem xq3_7e : E3 xq3_7 xq3_7l := E3.rfl
abbrev xq3_8l : List XO := [
  ⟨some 14, .a (.alloc [(.int .i64 0)]), none⟩,
  ⟨none, .e (.store 1 (T 14) (C (.int .i64 0))), none⟩]
def xq3_8 : List XO := xq3_8l
theorem xq3_8e : E3 xq3_8 xq3_8l := E3.rfl
abbrev xq3_9l : List XO := [
  ⟨some 42, .p (.mov (T 5)), none⟩,
  ⟨some 43, .call (.func 9) [(T 42)], none⟩]
def xq3_9 : List XO := xq3_9l
theorem xq3_9e : E3 xq3_9 xq3_9l := E3.rfl
abbrev xq3_10l : List XO := [
  ⟨some 46, .r (.load1 (T 14)), none⟩,
  ⟨some 47, .p (.bin .add (T 46) (C (.int .i64 1))), none⟩,
  ⟨none, .e (.store 1 (T 14) (T 47)), none⟩]
def xq3_10 : List XO := xq3_10l
theorem xq3_10e : E3 xq3_10 xq3_10l := E3.rfl
abbrev xq3_11l : List XO := [
  ⟨some 48, .p (.mov (T 7)), none⟩,
  ⟨some 49, .p (.un .not (T 48)), none⟩,
  ⟨some 50, .p (.mov (T 49)), none⟩,
  ⟨some 51, .p (.mov (T 9)), some (50, true)⟩,
  ⟨some 52, .p (.un .not (T 51)), some (50, true)⟩,
  ⟨some 53, .p (.pick (T 50) (T 52) (C (.bool false))), none⟩,
  ⟨some 54, .p (.mov (T 53)), none⟩,
  ⟨some 55, .p (.mov (T 10)), some (54, true)⟩,
  ⟨some 56, .p (.eql false .int (T 55) (C (.int .u64 0))), some (54, true)⟩,
  ⟨some 57, .p (.pick (T 54) (T 56) (C (.bool false))), none⟩,
  ⟨some 58, .p (.mov (T 57)), none⟩,
  ⟨some 59, .p (.mov (T 11)), some (58, true)⟩,
  ⟨some 60, .p (.eql false .str (T 59) (C (.string (strOf [])))), some (58, true)⟩,
  ⟨some 61, .p (.pick (T 58) (T 60) (C (.bool false))), none⟩,
  ⟨some 62, .p (.mov (T 61)), none⟩,
  ⟨some 63, .p (.mov (T 13)), some (62, true)⟩,
  ⟨some 64, .p (.eql false .int (T 63) (C (.int .i64 1))), some (62, true)⟩,
  ⟨some 65, .p (.pick (T 62) (T 64) (C (.bool false))), none⟩,
  ⟨some 66, .p (.mov (T 65)), none⟩,
  ⟨some 67, .p (.mov (T 5)), some (66, true)⟩,
  ⟨some 68, .call (.func 10) [(T 67)], some (66, true)⟩,
  ⟨some 69, .p (.eql false .int (T 68) (C (.int .i64 0))), some (66, true)⟩,
  ⟨some 70, .p (.pick (T 66) (T 69) (C (.bool false))), none⟩,
  ⟨some 71, .p (.mov (T 70)), none⟩,
  ⟨some 72, .r (.load1 (T 14)), some (71, true)⟩,
  ⟨some 73, .p (.eql false .int (T 72) (C (.int .i64 0))), some (71, true)⟩,
  ⟨some 74, .p (.pick (T 71) (T 73) (C (.bool false))), none⟩,
  ⟨some 75, .p (.mov (T 74)), none⟩,
  ⟨some 76, .p (.mov (T 5)), some (75, true)⟩,
  ⟨some 77, .call (.func 11) [(T 76)], some (75, true)⟩,
  ⟨some 78, .p (.eql false .nptr (T 77) (C (.pointer none))), some (75, true)⟩,
  ⟨some 79, .p (.pick (T 75) (T 78) (C (.bool false))), none⟩,
  ⟨some 80, .p (.mov (T 79)), none⟩,
  ⟨some 81, .p (.mov (T 5)), some (80, true)⟩,
  ⟨some 82, .call (.func 12) [(T 81)], some (80, true)⟩,
  ⟨some 83, .p (.eql false .str (T 82) (C (.string (strOf [0, 0, 0, 0])))), some (80, true)⟩,
  ⟨some 84, .p (.pick (T 80) (T 83) (C (.bool false))), none⟩,
  ⟨some 85, .p (.mov (T 84)), none⟩,
  ⟨some 86, .call (.func 13) [(C (.pointer none)), (C (.pointer none))], some (85, true)⟩,
  ⟨some 87, .p (.pick (T 85) (T 86) (C (.bool false))), none⟩,
  ⟨some 88, .p (.mov (T 87)), none⟩,
  ⟨some 89, .call (.func 14) [], some (88, true)⟩,
  ⟨some 90, .call (.func 13) [(C (.pointer none)), (T 89)], some (88, true)⟩,
  ⟨some 91, .p (.un .not (T 90)), some (88, true)⟩,
  ⟨some 92, .p (.pick (T 88) (T 91) (C (.bool false))), none⟩,
  ⟨some 93, .p (.mov (T 92)), none⟩,
  ⟨some 94, .p (.mov (T 1)), some (93, true)⟩,
  ⟨some 95, .call (.func 15) [(T 94)], some (93, true)⟩,
  ⟨some 96, .p (.mov (T 1)), some (93, true)⟩,
  ⟨some 97, .call (.func 16) [(T 96)], some (93, true)⟩,
  ⟨some 98, .p (.eql false .str (T 95) (T 97)), some (93, true)⟩,
  ⟨some 99, .p (.pick (T 93) (T 98) (C (.bool false))), none⟩,
  ⟨some 100, .p (.mov (T 99)), none⟩,
  ⟨some 101, .p (.faddr 0 (T 2)), some (100, true)⟩,
  ⟨some 102, .r (.load1 (T 101)), some (100, true)⟩,
  ⟨some 103, .call (.func 17) [(T 102)], some (100, true)⟩,
  ⟨some 104, .p (.faddr 0 (T 2)), some (100, true)⟩,
  ⟨some 105, .r (.load1 (T 104)), some (100, true)⟩,
  ⟨some 106, .call (.func 18) [(T 105)], some (100, true)⟩,
  ⟨some 107, .p (.eql false .str (T 103) (T 106)), some (100, true)⟩,
  ⟨some 108, .p (.pick (T 100) (T 107) (C (.bool false))), none⟩,
  ⟨some 4, .p (.mov (T 108)), none⟩]
def xq3_11 : List XO := xq3_11l
theorem xq3_11e : E3 xq3_11 xq3_11l := E3.rfl
def xq3 : XF := ⟨2, [.tmp 4],
  .seq (.ops xq3_0) (.seq (.seq (.ops xq3_1) (.cond (T 16) (.seq (.ops xq3_2) (.ret)) (.skip))) (.seq (.ops xq3_3) (.seq (.ops xq3_4) (.seq (.ops xq3_5) (.seq (.ops xq3_6) (.seq (.ops xq3_7) (.seq (.ops xq3_8) (.seq (.seq (.ops xq3_9) (.block 0 (.rng (T 43) [44, 45] 109 (.skip) (.block 1 (.ops xq3_10))))) (.seq (.draw xq3_11 [(57, (55, []))]) (.ret))))))))))⟩
def yq3 := PLift.up (And.intro (And.intro (And.intro (@xq3_0e) (And.intro (@xq3_1e) (@xq3_2e))) (And.intro (@xq3_3e) (And.intro (@xq3_4e) (@xq3_5e)))) (And.intro (And.intro (@xq3_6e) (And.intro (@xq3_7e) (@xq3_8e))) (And.intro (@xq3_9e) (And.intro (@xq3_10e) (@xq3_11e)))))
theorem cq3 : zQ Try.prog Try.f3 = some xq3 := by kernel_rfl
abbrev xq5_0l : List XO := [
  ⟨some 4, .p (.mov (C (.string (strOf [])))), none⟩,
  ⟨some 5, .p (.mov (C (.bool false))), none⟩]
def xq5_0 : List XO := xq5_0l
theorem xq5_0e : E3 xq5_0 xq5_0l := E3.rfl
abbrev xq5_1l : List XO := [
  ⟨some 8, .p (.mov (T 0)), none⟩,
  ⟨some 9, .p (.eql false .nptr (T 8) (C (.pointer none))), none⟩]
def xq5_1 : List XO := xq5_1l
theorem xq5_1e : E3 xq5_1 xq5_1l := E3.rfl
abbrev xq5_2l : List XO := [
  ⟨some 4, .p (.mov (C (.string (strOf [])))), none⟩,
  ⟨some 5, .p (.mov (C (.bool false))), none⟩]
def xq5_2 : List XO := xq5_2l
theorem xq5_2e : E3 xq5_2 xq5_2l := E3.rfl
abbrev xq5_3l : List XO := [
  ⟨some 11, .p (.mov (T 0)), none⟩,
  ⟨some 12, .p (.nilc (T 11)), none⟩,
  ⟨some 13, .p (.faddr 0 (T 12)), none⟩,
  ⟨some 14, .r (.load1 (T 13)), none⟩,
  ⟨some 15, .p (.mov (T 1)), none⟩,
  ⟨some 16, .call (.func 15) [(T 15)], none⟩,
  ⟨some 17, .r (.lookup (.string (strOf [])) true .str (T 14) (T 16)), none⟩,
  ⟨some 10, .p (.mov (T 17)), none⟩,
  ⟨some 18, .p (.ext (T 10) 0), none⟩,
  ⟨some 19, .p (.ext (T 10) 1), none⟩,
  ⟨some 6, .p (.mov (T 18)), none⟩,
  ⟨some 7, .p (.mov (T 19)), none⟩]
def xq5_3 : List XO := xq5_3l
theorem xq5_3e : E3 xq5_3 xq5_3l := E3.rfl
abbrev xq5_4l : List XO := [
  ⟨some 20, .p (.mov (T 6)), none⟩,
  ⟨some 21, .p (.mov (T 7)), none⟩,
  ⟨some 4, .p (.mov (T 20)), none⟩,
  ⟨some 5, .p (.mov (T 21)), none⟩]
def xq5_4 : List XO := xq5_4l
theorem xq5_4e : E3 xq5_4 xq5_4l := E3.rfl
def xq5 : XF := ⟨2, [.tmp 4, .tmp 5],
  .seq (.ops xq5_0) (.seq (.seq (.ops xq5_1) (.cond (T 9) (.seq (.ops xq5_2) (.ret)) (.skip))) (.seq (.draw xq5_3 [(3, (12, []))]) (.seq (.ops xq5_4) (.ret))))⟩
def yq5 := PLift.up (And.intro (And.intro (@xq5_0e) (@xq5_1e)) (And.intro (@xq5_2e) (And.intro (@xq5_3e) (@xq5_4e))))
theorem cq5 : zQ Try.prog Try.f5 = some xq5 := by kernel_rfl
abbrev xq6_0l : List XO := [
  ⟨some 4, .p (.mov (C (.string (strOf [])))), none⟩,
  ⟨some 5, .p (.mov (C (.bool false))), none⟩]
def xq6_0 : List XO := xq6_0l
theorem xq6_0e : E3 xq6_0 xq6_0l := E3.rfl
abbrev xq6_1l : List XO := [
  ⟨some 8, .p (.mov (T 0)), none⟩,
  ⟨some 9, .p (.eql false .nptr (T 8) (C (.pointer none))), none⟩]
def xq6_1 : List XO := xq6_1l
theorem xq6_1e : E3 xq6_1 xq6_1l := E3.rfl
abbrev xq6_2l : List XO := [
  ⟨some 4, .p (.mov (C (.string (strOf [])))), none⟩,
  ⟨some 5, .p (.mov (C (.bool false))), none⟩]
def xq6_2 : List XO := xq6_2l
theorem xq6_2e : E3 xq6_2 xq6_2l := E3.rfl
abbrev xq6_3l : List XO := [
  ⟨some 11, .p (.mov (T 0)), none⟩,
  ⟨some 12, .p (.nilc (T 11)), none⟩,
  ⟨some 13, .p (.faddr 0 (T 12)), none⟩,
  ⟨some 14, .r (.load1 (T 13)), none⟩,
  ⟨some 15, .p (.mov (T 1)), none⟩,
  ⟨some 16, .r (.lookup (.string (strOf [])) true .str (T 14) (T 15)), none⟩,
  ⟨some 10, .p (.mov (T 16)), none⟩,
  ⟨some 17, .p (.ext (T 10) 0), none⟩,
  ⟨some 18, .p (.ext (T 10) 1), none⟩,
  ⟨some 6, .p (.mov (T 17)), none⟩,
  ⟨some 7, .p (.mov (T 18)), none⟩]
def xq6_3 : List XO := xq6_3l
theorem xq6_3e : E3 xq6_3 xq6_3l := E3.rfl
abbrev xq6_4l : List XO := [
  ⟨some 19, .p (.mov (T 6)), none⟩,
  ⟨some 20, .p (.mov (T 7)), none⟩,
  ⟨some 4, .p (.mov (T 19)), none⟩,
  ⟨some 5, .p (.mov (T 20)), none⟩]
def xq6_4 : List XO := xq6_4l
theorem xq6_4e : E3 xq6_4 xq6_4l := E3.rfl
def xq6 : XF := ⟨2, [.tmp 4, .tmp 5],
  .seq (.ops xq6_0) (.seq (.seq (.ops xq6_1) (.cond (T 9) (.seq (.ops xq6_2) (.ret)) (.skip))) (.seq (.ops xq6_3) (.seq (.ops xq6_4) (.ret))))⟩
def yq6 := PLift.up (And.intro (And.intro (@xq6_0e) (@xq6_1e)) (And.intro (@xq6_2e) (And.intro (@xq6_3e) (@xq6_4e))))
theorem cq6 : zQ Try.prog Try.f6 = some xq6 := by kernel_rfl
abbrev xq7_0l : List XO := [
  ⟨some 4, .p (.mov (C (.int .u64 0))), none⟩,
  ⟨some 5, .p (.mov (C (.string (strOf [])))), none⟩]
def xq7_0 : List XO := xq7_0l
theorem xq7_0e : E3 xq7_0 xq7_0l := E3.rfl
abbrev xq7_1l : List XO := [
  ⟨some 10, .p (.mov (T 0)), none⟩,
  ⟨some 11, .p (.eql false .nptr (T 10) (C (.pointer none))), none⟩]
def xq7_1 : List XO := xq7_1l
theorem xq7_1e : E3 xq7_1 xq7_1l := E3.rfl
abbrev xq7_2l : List XO := [
  ⟨some 4, .p (.mov (C (.int .u64 0))), none⟩,
  ⟨some 5, .p (.mov (C (.string (strOf [])))), none⟩]
def xq7_2 : List XO := xq7_2l
theorem xq7_2e : E3 xq7_2 xq7_2l := E3.rfl
abbrev xq7_3l : List XO := [
  ⟨some 12, .p (.mov (T 0)), none⟩,
  ⟨some 13, .p (.nilc (T 12)), none⟩,
  ⟨some 14, .p (.faddr 0 (T 13)), none⟩,
  ⟨some 15, .r (.load1 (T 14)), none⟩,
  ⟨some 16, .p (.mov (T 1)), none⟩,
  ⟨some 17, .call (.func 17) [(T 16)], none⟩,
  ⟨some 18, .r (.lookup (.string (strOf [])) false .str (T 15) (T 17)), none⟩,
  ⟨some 6, .p (.mov (T 18)), none⟩]
def xq7_3 : List XO := xq7_3l
theorem xq7_3e : E3 xq7_3 xq7_3l := E3.rfl
abbrev xq7_4l : List XO := [
  ⟨some 19, .p (.mov (T 6)), none⟩,
  ⟨some 20, .p (.lenS (T 19)), none⟩,
  ⟨some 21, .p (.eql true .int (T 20) (C (.int .i64 40))), none⟩]
def xq7_4 : List XO := xq7_4l
theorem xq7_4e : E3 xq7_4 xq7_4l := E3.rfl
abbrev xq7_5l : List XO := [
  ⟨some 4, .p (.mov (C (.int .u64 0))), none⟩,
  ⟨some 5, .p (.mov (C (.string (strOf [])))), none⟩]
def xq7_5 : List XO := xq7_5l
theorem xq7_5e : E3 xq7_5 xq7_5l := E3.rfl
abbrev xq7_6l : List XO := [
  ⟨some 7, .p (.mov (C (.int .u64 0))), none⟩]
def xq7_6 : List XO := xq7_6l
theorem xq7_6e : E3 xq7_6 xq7_6l := E3.rfl
abbrev xq7_7l : List XO := [
  ⟨some 22, .p (.mov (T 6)), none⟩,
  ⟨some 23, .p (.slcS (T 22) none (some (C (.int .i64 8)))), none⟩,
  ⟨some 24, .a (.cs2b (T 23)), none⟩,
  ⟨some 25, .p (.lenV (T 24)), none⟩,
  ⟨some 26, .p (.mov (C (.int .i64 0))), none⟩]
def xq7_7 : List XO := xq7_7l
theorem xq7_7e : E3 xq7_7 xq7_7l := E3.rfl
abbrev xq7_8l : List XO := [
  ⟨some 27, .p (.bin .lss (T 26) (T 25)), none⟩]
def xq7_8 : List XO := xq7_8l
theorem xq7_8e : E3 xq7_8 xq7_8l := E3.rfl
abbrev xq7_9l : List XO := [
  ⟨some 28, .p (.iaddrS 1 (T 24) (T 26)), none⟩,
  ⟨some 29, .r (.load1 (T 28)), none⟩,
  ⟨some 9, .p (.mov (T 29)), none⟩]
def xq7_9 : List XO := xq7_9l
theorem xq7_9e : E3 xq7_9 xq7_9l := E3.rfl
abbrev xq7_10l : List XO := [
  ⟨some 30, .p (.mov (T 7)), none⟩,
  ⟨some 31, .p (.bin .shl (T 30) (C (.int .u64 8))), none⟩,
  ⟨some 32, .p (.mov (T 9)), none⟩,
  ⟨some 33, .p (.cint .u64 (T 32)), none⟩,
  ⟨some 34, .p (.bin .or (T 31) (T 33)), none⟩,
  ⟨some 7, .p (.mov (T 34)), none⟩]
def xq7_10 : List XO := xq7_10l
theorem xq7_10e : E3 xq7_10 xq7_10l := E3.rfl
abbrev xq7_11l : List XO := [
  ⟨some 35, .p (.bin .add (T 26) (C (.int .i64 1))), none⟩,
  ⟨some 26, .p (.mov (T 35)), none⟩]
def xq7_11 : List XO := xq7_11l
theorem xq7_11e : E3 xq7_11 xq7_11l := E3.rfl
def xq7_12b : XC :=
  .seq (.ops xq7_8) (.seq (.cond (T 27) (.skip) (.exit 0)) (.seq (.block 1 (.seq (.ops xq7_9) (.ops xq7_10))) (.ops xq7_11)))
def xq7_12 : XC := xq7_12b
abbrev xq7_13l : List XO := [
  ⟨some 36, .p (.mov (T 7)), none⟩,
  ⟨some 37, .p (.mov (T 6)), none⟩,
  ⟨some 38, .p (.slcS (T 37) (some (C (.int .i64 8))) none), none⟩,
  ⟨some 4, .p (.mov (T 36)), none⟩,
  ⟨some 5, .p (.mov (T 38)), none⟩]
def xq7_13 : List XO := xq7_13l
theorem xq7_13e : E3 xq7_13 xq7_13l := E3.rfl
def xq7 : XF := ⟨2, [.tmp 4, .tmp 5],
  .seq (.ops xq7_0) (.seq (.seq (.ops xq7_1) (.cond (T 11) (.seq (.ops xq7_2) (.ret)) (.skip))) (.seq (.draw xq7_3 [(3, (8, []))]) (.seq (.seq (.ops xq7_4) (.cond (T 21) (.seq (.ops xq7_5) (.ret)) (.skip))) (.seq (.ops xq7_6) (.seq (.seq (.ops xq7_7) (.block 0 (.loop xq7_12))) (.seq (.draw xq7_13 []) (.ret)))))))⟩
def yq7 := PLift.up (And.intro (And.intro (And.intro (@xq7_0e) (And.intro (@xq7_1e) (@xq7_2e))) (And.intro (@xq7_3e) (And.intro (@xq7_4e) (@xq7_5e)))) (And.intro (And.intro (@xq7_6e) (And.intro (@xq7_7e) (@xq7_8e))) (And.intro (And.intro (@xq7_9e) (@xq7_10e)) (And.intro (@xq7_11e) (@xq7_13e)))))
theorem cq7 : zQ Try.prog Try.f7 = some xq7 := by kernel_rfl
abbrev xq8_0l : List XO := [
  ⟨some 3, .a (.box (T 1)), none⟩,
  ⟨some 4, .p (.mov (C (.slice none 0 0))), none⟩,
  ⟨some 5, .p (.mov (C (.int .i64 0))), none⟩]
def xq8_0 : List XO := xq8_0l
theorem xq8_0e : E3 xq8_0 xq8_0l := E3.rfl
abbrev xq8_1l : List XO := [
  ⟨some 14, .p (.mov (T 0)), none⟩,
  ⟨some 15, .p (.eql false .nptr (T 14) (C (.pointer none))), none⟩]
def xq8_1 : List XO := xq8_1l
theorem xq8_1e : E3 xq8_1 xq8_1l := E3.rfl
abbrev xq8_2l : List XO := [
  ⟨some 4, .p (.mov (C (.slice none 0 0))), none⟩,
  ⟨some 5, .p (.mov (C (.int .i64 1))), none⟩]
def xq8_2 : List XO := xq8_2l
theorem xq8_2e : E3 xq8_2 xq8_2l := E3.rfl
abbrev xq8_3l : List XO := [
  ⟨some 16, .r (.loadN 3 (T 3)), none⟩,
  ⟨some 17, .call (.func 19) [(T 16)], none⟩,
  ⟨some 6, .p (.mov (T 17)), none⟩]
def xq8_3 : List XO := xq8_3l
theorem xq8_3e : E3 xq8_3 xq8_3l := E3.rfl
abbrev xq8_4l : List XO := [
  ⟨some 18, .p (.mov (T 6)), none⟩,
  ⟨some 19, .p (.eql true .int (T 18) (C (.int .i64 0))), none⟩]
def xq8_4 : List XO := xq8_4l
theorem xq8_4e : E3 xq8_4 xq8_4l := E3.rfl
abbrev xq8_5l : List XO := [
  ⟨some 20, .p (.mov (T 6)), none⟩,
  ⟨some 4, .p (.mov (C (.slice none 0 0))), none⟩,
  ⟨some 5, .p (.mov (T 20)), none⟩]
def xq8_5 : List XO := xq8_5l
theorem xq8_5e : E3 xq8_5 xq8_5l := E3.rfl
abbrev xq8_6l : List XO := [
  ⟨some 22, .p (.mov (T 0)), none⟩,
  ⟨some 23, .p (.faddr 0 (T 3)), none⟩,
  ⟨some 24, .r (.load1 (T 23)), none⟩,
  ⟨some 25, .call (.func 7) [(T 22), (T 24)], none⟩,
  ⟨some 21, .p (.mov (T 25)), none⟩,
  ⟨some 26, .p (.ext (T 21) 0), none⟩,
  ⟨some 27, .p (.ext (T 21) 1), none⟩,
  ⟨some 7, .p (.mov (T 26)), none⟩,
  ⟨some 8, .p (.mov (T 27)), none⟩]
def xq8_6 : List XO := xq8_6l
theorem xq8_6e : E3 xq8_6 xq8_6l := E3.rfl
abbrev xq8_7l : List XO := [
  ⟨some 28, .p (.faddr 1 (T 3)), none⟩,
  ⟨some 29, .r (.load1 (T 28)), none⟩,
  ⟨some 30, .p (.bin .sub (T 29) (C (.int .u64 1))), none⟩,
  ⟨some 31, .p (.mov (T 7)), none⟩,
  ⟨some 32, .p (.eql true .int (T 30) (T 31)), none⟩]
def xq8_7 : List XO := xq8_7l
theorem xq8_7e : E3 xq8_7 xq8_7l := E3.rfl
abbrev xq8_8l : List XO := [
  ⟨some 4, .p (.mov (C (.slice none 0 0))), none⟩,
  ⟨some 5, .p (.mov (C (.int .i64 50))), none⟩]
def xq8_8 : List XO := xq8_8l
theorem xq8_8e : E3 xq8_8 xq8_8l := E3.rfl
abbrev xq8_9l : List XO := [
  ⟨some 33, .p (.mov (T 0)), none⟩,
  ⟨some 34, .call (.func 11) [(T 33)], none⟩,
  ⟨some 9, .p (.mov (T 34)), none⟩]
def xq8_9 : List XO := xq8_9l
theorem xq8_9e : E3 xq8_9 xq8_9l := E3.rfl
abbrev xq8_10l : List XO := [
  ⟨some 35, .a (.mkmap), none⟩,
  ⟨some 36, .p (.faddr 0 (T 3)), none⟩,
  ⟨some 37, .r (.load1 (T 36)), none⟩,
  ⟨some 38, .call (.func 17) [(T 37)], none⟩,
  ⟨none, .e (.mupd .str (T 35) (T 38) (C (.bool true))), none⟩,
  ⟨some 39, .p (.mov (T 35)), none⟩,
  ⟨some 10, .p (.mov (T 39)), none⟩]
def xq8_10 : List XO := xq8_10l
theorem xq8_10e : E3 xq8_10 xq8_10l := E3.rfl
abbrev xq8_11l : List XO := [
  ⟨some 40, .p (.faddr 2 (T 3)), none⟩,
  ⟨some 41, .r (.load1 (T 40)), none⟩,
  ⟨some 42, .p (.lenV (T 41)), none⟩,
  ⟨some 43, .p (.mov (C (.int .i64 0))), none⟩]
def xq8_11 : List XO := xq8_11l
theorem xq8_11e : E3 xq8_11 xq8_11l := E3.rfl
abbrev xq8_12l : List XO := [
  ⟨some 44, .p (.bin .lss (T 43) (T 42)), none⟩]
def xq8_12 : List XO := xq8_12l
theorem xq8_12e : E3 xq8_12 xq8_12l := E3.rfl
abbrev xq8_13l : List XO := [
  ⟨some 45, .p (.iaddrS 3 (T 41) (T 43)), none⟩,
  ⟨some 46, .r (.loadN 3 (T 45)), none⟩,
  ⟨some 12, .a (.alloc [(.int .i64 0), (.string (strOf [])), (.string (strOf []))]), none⟩,
  ⟨none, .e (.store 3 (T 12) (T 46)), none⟩]
def xq8_13 : List XO := xq8_13l
theorem xq8_13e : E3 xq8_13 xq8_13l := E3.rfl
abbrev xq8_14l : List XO := [
  ⟨some 47, .p (.mov (T 9)), none⟩,
  ⟨some 48, .r (.loadN 3 (T 12)), none⟩,
  ⟨some 49, .call (.func 20) [(T 47), (T 48)], none⟩,
  ⟨some 13, .p (.mov (T 49)), none⟩]
def xq8_14 : List XO := xq8_14l
theorem xq8_14e : E3 xq8_14 xq8_14l := E3.rfl
abbrev xq8_15l : List XO := [
  ⟨some 50, .p (.mov (T 13)), none⟩,
  ⟨some 51, .p (.eql true .int (T 50) (C (.int .i64 0))), none⟩]
def xq8_15 : List XO := xq8_15l
theorem xq8_15e : E3 xq8_15 xq8_15l := E3.rfl
abbrev xq8_16l : List XO := [
  ⟨some 52, .p (.mov (T 13)), none⟩,
  ⟨some 4, .p (.mov (C (.slice none 0 0))), none⟩,
  ⟨some 5, .p (.mov (T 52)), none⟩]
def xq8_16 : List XO := xq8_16l
theorem xq8_16e : E3 xq8_16 xq8_16l := E3.rfl
abbrev xq8_17l : List XO := [
  ⟨some 53, .p (.faddr 0 (T 12)), none⟩,
  ⟨some 54, .r (.load1 (T 53)), none⟩,
  ⟨some 55, .p (.eql false .int (T 54) (C (.int .i64 1))), none⟩,
  ⟨some 56, .p (.mov (T 55)), none⟩,
  ⟨some 57, .p (.faddr 0 (T 12)), some (56, false)⟩,
  ⟨some 58, .r (.load1 (T 57)), some (56, false)⟩,
  ⟨some 59, .p (.eql false .int (T 58) (C (.int .i64 2))), some (56, false)⟩,
  ⟨some 60, .p (.pick (T 56) (C (.bool true)) (T 59)), none⟩]
def xq8_17 : List XO := xq8_17l
theorem xq8_17e : E3 xq8_17 xq8_17l := E3.rfl
abbrev xq8_18l : List XO := [
  ⟨some 61, .p (.mov (T 10)), none⟩,
  ⟨some 62, .p (.faddr 1 (T 12)), none⟩,
  ⟨some 63, .r (.load1 (T 62)), none⟩,
  ⟨some 64, .call (.func 15) [(T 63)], none⟩,
  ⟨none, .e (.mupd .str (T 61) (T 64) (C (.bool true))), none⟩]
def xq8_18 : List XO := xq8_18l
theorem xq8_18e : E3 xq8_18 xq8_18l := E3.rfl
abbrev xq8_19l : List XO := [
  ⟨some 65, .p (.bin .add (T 43) (C (.int .i64 1))), none⟩,
  ⟨some 43, .p (.mov (T 65)), none⟩]
def xq8_19 : List XO := xq8_19l
theorem xq8_19e : E3 xq8_19 xq8_19l := E3.rfl
def xq8_20b : XC :=
  .seq (.ops xq8_12) (.seq (.cond (T 44) (.skip) (.exit 0)) (.seq (.block 1 (.seq (.ops xq8_13) (.seq (.seq (.ops xq8_14) (.seq (.ops xq8_15) (.cond (T 51) (.seq (.ops xq8_16) (.ret)) (.skip)))) (.seq (.ops xq8_17) (.cond (T 60) (.ops xq8_18) (.skip)))))) (.ops xq8_19)))
def xq8_20 : XC := xq8_20b
abbrev xq8_21l : List XO := [
  ⟨some 66, .p (.mov (T 9)), none⟩,
  ⟨some 67, .p (.nilc (T 66)), none⟩,
  ⟨some 68, .p (.faddr 0 (T 67)), none⟩,
  ⟨some 69, .r (.load1 (T 68)), none⟩,
  ⟨some 70, .p (.faddr 0 (T 3)), none⟩,
  ⟨some 71, .r (.load1 (T 70)), none⟩,
  ⟨some 72, .call (.func 17) [(T 71)], none⟩,
  ⟨some 73, .p (.faddr 1 (T 3)), none⟩,
  ⟨some 74, .r (.load1 (T 73)), none⟩,
  ⟨some 75, .call (.func 21) [(T 74), (C (.int .i64 8))], none⟩,
  ⟨some 76, .r (.loadN 3 (T 3)), none⟩,
  ⟨some 77, .call (.func 22) [(T 76)], none⟩,
  ⟨some 78, .p (.bin .add (T 75) (T 77)), none⟩,
  ⟨none, .e (.mupd .str (T 69) (T 72) (T 78)), none⟩]
def xq8_21 : List XO := xq8_21l
theorem xq8_21e : E3 xq8_21 xq8_21l := E3.rfl
abbrev xq8_22l : List XO := [
  ⟨some 79, .p (.mov (T 9)), none⟩,
  ⟨some 80, .p (.nilc (T 79)), none⟩,
  ⟨some 81, .p (.faddr 0 (T 80)), none⟩,
  ⟨some 82, .r (.load1 (T 81)), none⟩,
  ⟨some 83, .r (.lenM (T 82)), none⟩,
  ⟨some 84, .p (.bin .gtr (T 83) (C (.int .i64 1024))), none⟩]
def xq8_22 : List XO := xq8_22l
theorem xq8_22e : E3 xq8_22 xq8_22l := E3.rfl
abbrev xq8_23l : List XO := [
  ⟨some 4, .p (.mov (C (.slice none 0 0))), none⟩,
  ⟨some 5, .p (.mov (C (.int .i64 52))), none⟩]
def xq8_23 : List XO := xq8_23l
theorem xq8_23e : E3 xq8_23 xq8_23l := E3.rfl
abbrev xq8_24l : List XO := [
  ⟨some 85, .p (.mov (T 0)), none⟩,
  ⟨some 86, .p (.mov (T 9)), none⟩,
  ⟨some 87, .p (.nilc (T 86)), none⟩,
  ⟨some 88, .p (.faddr 0 (T 87)), none⟩,
  ⟨some 89, .r (.load1 (T 88)), none⟩,
  ⟨some 90, .p (.nilc (T 85)), none⟩,
  ⟨some 91, .p (.faddr 0 (T 90)), none⟩,
  ⟨none, .e (.store 1 (T 91) (T 89)), none⟩]
def xq8_24 : List XO := xq8_24l
theorem xq8_24e : E3 xq8_24 xq8_24l := E3.rfl
abbrev xq8_25l : List XO := [
  ⟨some 92, .p (.mov (T 10)), none⟩,
  ⟨some 93, .call (.func 24) [(T 92)], none⟩,
  ⟨some 94, .call (.func 23) [(T 93)], none⟩,
  ⟨some 4, .p (.mov (T 94)), none⟩,
  ⟨some 5, .p (.mov (C (.int .i64 0))), none⟩]
def xq8_25 : List XO := xq8_25l
theorem xq8_25e : E3 xq8_25 xq8_25l := E3.rfl
def xq8 : XF := ⟨2, [.tmp 4, .tmp 5],
  .seq (.ops xq8_0) (.seq (.seq (.ops xq8_1) (.cond (T 15) (.seq (.ops xq8_2) (.ret)) (.skip))) (.seq (.seq (.ops xq8_3) (.seq (.ops xq8_4) (.cond (T 19) (.seq (.ops xq8_5) (.ret)) (.skip)))) (.seq (.seq (.ops xq8_6) (.seq (.ops xq8_7) (.cond (T 32) (.seq (.ops xq8_8) (.ret)) (.skip)))) (.seq (.ops xq8_9) (.seq (.ops xq8_10) (.seq (.seq (.ops xq8_11) (.block 0 (.loop xq8_20))) (.seq (.draw xq8_21 [(3, (9, [])), (3, (11, [])), (3, (13, [])), (8, (6, [])), (10, (6, [])), (10, (9, []))]) (.seq (.seq (.ops xq8_22) (.cond (T 84) (.seq (.ops xq8_23) (.ret)) (.skip))) (.seq (.ops xq8_24) (.seq (.ops xq8_25) (.ret)))))))))))⟩
def yq8 := PLift.up (And.intro (And.intro (And.intro (And.intro (@xq8_0e) (And.intro (@xq8_1e) (@xq8_2e))) (And.intro (@xq8_3e) (And.intro (@xq8_4e) (@xq8_5e)))) (And.intro (And.intro (@xq8_6e) (And.intro (@xq8_7e) (@xq8_8e))) (And.intro (@xq8_9e) (And.intro (@xq8_10e) (@xq8_11e))))) (And.intro (And.intro (And.intro (@xq8_12e) (And.intro (@xq8_13e) (@xq8_14e))) (And.intro (@xq8_15e) (And.intro (@xq8_16e) (@xq8_17e)))) (And.intro (And.intro (@xq8_18e) (And.intro (@xq8_19e) (@xq8_21e))) (And.intro (And.intro (@xq8_22e) (@xq8_23e)) (And.intro (@xq8_24e) (@xq8_25e))))))
theorem cq8 : zQ Try.prog Try.f8 = some xq8 := by kernel_rfl
abbrev xq9_0l : List XO := [
  ⟨some 1, .a (.box (T 0)), none⟩,
  ⟨some 2, .p (.mov (C (.nilFunc))), none⟩]
def xq9_0 : List XO := xq9_0l
theorem xq9_0e : E3 xq9_0 xq9_0l := E3.rfl
abbrev xq9_1l : List XO := [
  ⟨some 3, .p (.mkfn (.func 25) [] [(T 1)]), none⟩,
  ⟨some 2, .p (.mov (T 3)), none⟩]
def xq9_1 : List XO := xq9_1l
theorem xq9_1e : E3 xq9_1 xq9_1l := E3.rfl
def xq9 : XF := ⟨1, [.tmp 2],
  .seq (.ops xq9_0) (.seq (.ops xq9_1) (.ret))⟩
def yq9 := PLift.up (And.intro (@xq9_0e) (@xq9_1e))
theorem cq9 : zQ Try.prog Try.f9 = some xq9 := by kernel_rfl
abbrev xq25_0l : List XO := [
  ⟨some 5, .r (.load1 (T 1)), none⟩,
  ⟨some 6, .p (.eql false .nptr (T 5) (C (.pointer none))), none⟩]
def xq25_0 : List XO := xq25_0l
theorem xq25_0e : E3 xq25_0 xq25_0l := E3.rfl
abbrev xq25_1l : List XO := [
  ⟨some 7, .r (.load1 (T 1)), none⟩,
  ⟨some 8, .p (.nilc (T 7)), none⟩,
  ⟨some 9, .p (.faddr 0 (T 8)), none⟩,
  ⟨some 10, .r (.load1 (T 9)), none⟩,
  ⟨some 11, .call (.func 26) [(T 10)], none⟩,
  ⟨some 12, .call (.func 23) [(T 11)], none⟩,
  ⟨some 13, .p (.lenV (T 12)), none⟩,
  ⟨some 14, .p (.mov (C (.int .i64 0))), none⟩]
def xq25_1 : List XO := xq25_1l
theorem xq25_1e : E3 xq25_1 xq25_1l := E3.rfl
abbrev xq25_2l : List XO := [
  ⟨some 15, .p (.bin .lss (T 14) (T 13)), none⟩]
def xq25_2 : List XO := xq25_2l
theorem xq25_2e : E3 xq25_2 xq25_2l := E3.rfl
abbrev xq25_3l : List XO := [
  ⟨some 16, .p (.iaddrS 1 (T 12) (T 14)), none⟩,
  ⟨some 17, .r (.load1 (T 16)), none⟩,
  ⟨some 4, .p (.mov (T 17)), none⟩]
def xq25_3 : List XO := xq25_3l
theorem xq25_3e : E3 xq25_3 xq25_3l := E3.rfl
abbrev xq25_4l : List XO := [
  ⟨some 18, .p (.mov (T 0)), none⟩,
  ⟨some 19, .p (.mov (T 4)), none⟩,
  ⟨some 20, .r (.load1 (T 1)), none⟩,
  ⟨some 21, .p (.nilc (T 20)), none⟩,
  ⟨some 22, .p (.faddr 0 (T 21)), none⟩,
  ⟨some 23, .r (.load1 (T 22)), none⟩,
  ⟨some 24, .p (.mov (T 4)), none⟩,
  ⟨some 25, .r (.lookup (.string (strOf [])) false .str (T 23) (T 24)), none⟩,
  ⟨some 26, .call (T 18) [(T 19), (T 25)], none⟩,
  ⟨some 27, .p (.un .not (T 26)), none⟩]
def xq25_4 : List XO := xq25_4l
theorem xq25_4e : E3 xq25_4 xq25_4l := E3.rfl
abbrev xq25_5l : List XO := [
  ⟨some 28, .p (.bin .add (T 14) (C (.int .i64 1))), none⟩,
  ⟨some 14, .p (.mov (T 28)), none⟩]
def xq25_5 : List XO := xq25_5l
theorem xq25_5e : E3 xq25_5 xq25_5l := E3.rfl
def xq25_6b : XC :=
  .seq (.ops xq25_2) (.seq (.cond (T 15) (.skip) (.exit 0)) (.seq (.block 1 (.seq (.ops xq25_3) (.seq (.ops xq25_4) (.cond (T 27) (.ret) (.skip))))) (.ops xq25_5)))
def xq25_6 : XC := xq25_6b
def xq25 : XF := ⟨2, [],
  .seq (.seq (.ops xq25_0) (.cond (T 6) (.ret) (.skip))) (.seq (.ops xq25_1) (.block 0 (.loop xq25_6)))⟩
def yq25 := PLift.up (And.intro (And.intro (@xq25_0e) (And.intro (@xq25_1e) (@xq25_2e))) (And.intro (@xq25_3e) (And.intro (@xq25_4e) (@xq25_5e))))
theorem cq25 : zQ Try.prog Try.f25 = some xq25 := by kernel_rfl
abbrev xq10_0l : List XO := [
  ⟨some 2, .p (.mov (C (.int .i64 0))), none⟩]
def xq10_0 : List XO := xq10_0l
theorem xq10_0e : E3 xq10_0 xq10_0l := E3.rfl
abbrev xq10_1l : List XO := [
  ⟨some 3, .p (.mov (T 0)), none⟩,
  ⟨some 4, .p (.eql false .nptr (T 3) (C (.pointer none))), none⟩]
def xq10_1 : List XO := xq10_1l
theorem xq10_1e : E3 xq10_1 xq10_1l := E3.rfl
abbrev xq10_2l : List XO := [
  ⟨some 2, .p (.mov (C (.int .i64 0))), none⟩]
def xq10_2 : List XO := xq10_2l
theorem xq10_2e : E3 xq10_2 xq10_2l := E3.rfl
abbrev xq10_3l : List XO := [
  ⟨some 5, .p (.mov (T 0)), none⟩,
  ⟨some 6, .p (.nilc (T 5)), none⟩,
  ⟨some 7, .p (.faddr 0 (T 6)), none⟩,
  ⟨some 8, .r (.load1 (T 7)), none⟩,
  ⟨some 9, .r (.lenM (T 8)), none⟩,
  ⟨some 2, .p (.mov (T 9)), none⟩]
def xq10_3 : List XO := xq10_3l
theorem xq10_3e : E3 xq10_3 xq10_3l := E3.rfl
def xq10 : XF := ⟨1, [.tmp 2],
  .seq (.ops xq10_0) (.seq (.seq (.ops xq10_1) (.cond (T 4) (.seq (.ops xq10_2) (.ret)) (.skip))) (.seq (.ops xq10_3) (.ret)))⟩
def yq10 := PLift.up (And.intro (And.intro (@xq10_0e) (@xq10_1e)) (And.intro (@xq10_2e) (@xq10_3e)))
theorem cq10 : zQ Try.prog Try.f10 = some xq10 := by kernel_rfl
abbrev xq11_0l : List XO := [
  ⟨some 2, .p (.mov (C (.pointer none))), none⟩]
def xq11_0 : List XO := xq11_0l
theorem xq11_0e : E3 xq11_0 xq11_0l := E3.rfl
abbrev xq11_1l : List XO := [
  ⟨some 3, .p (.mov (T 0)), none⟩,
  ⟨some 4, .p (.eql false .nptr (T 3) (C (.pointer none))), none⟩]
def xq11_1 : List XO := xq11_1l
theorem xq11_1e : E3 xq11_1 xq11_1l := E3.rfl
abbrev xq11_2l : List XO := [
  ⟨some 2, .p (.mov (C (.pointer none))), none⟩]
def xq11_2 : List XO := xq11_2l
theorem xq11_2e : E3 xq11_2 xq11_2l := E3.rfl
abbrev xq11_3l : List XO := [
  ⟨some 5, .p (.mov (T 0)), none⟩,
  ⟨some 6, .p (.nilc (T 5)), none⟩,
  ⟨some 7, .p (.faddr 0 (T 6)), none⟩,
  ⟨some 8, .r (.load1 (T 7)), none⟩,
  ⟨some 9, .call (.func 27) [(T 8)], none⟩,
  ⟨some 10, .p (.build [(.map none)] [(0, 1, (T 9))]), none⟩,
  ⟨some 11, .a (.box (T 10)), none⟩,
  ⟨some 2, .p (.mov (T 11)), none⟩]
def xq11_3 : List XO := xq11_3l
theorem xq11_3e : E3 xq11_3 xq11_3l := E3.rfl
def xq11 : XF := ⟨1, [.tmp 2],
  .seq (.ops xq11_0) (.seq (.seq (.ops xq11_1) (.cond (T 4) (.seq (.ops xq11_2) (.ret)) (.skip))) (.seq (.ops xq11_3) (.ret)))⟩
def yq11 := PLift.up (And.intro (And.intro (@xq11_0e) (@xq11_1e)) (And.intro (@xq11_2e) (@xq11_3e)))
theorem cq11 : zQ Try.prog Try.f11 = some xq11 := by kernel_rfl
abbrev xq13_0l : List XO := [
  ⟨some 4, .p (.mov (C (.bool false))), none⟩]
def xq13_0 : List XO := xq13_0l
theorem xq13_0e : E3 xq13_0 xq13_0l := E3.rfl
abbrev xq13_1l : List XO := [
  ⟨some 5, .p (.mov (T 0)), none⟩,
  ⟨some 6, .p (.eql false .nptr (T 5) (C (.pointer none))), none⟩,
  ⟨some 7, .p (.mov (T 6)), none⟩,
  ⟨some 8, .p (.mov (T 1)), some (7, false)⟩,
  ⟨some 9, .p (.eql false .nptr (T 8) (C (.pointer none))), some (7, false)⟩,
  ⟨some 10, .p (.pick (T 7) (C (.bool true)) (T 9)), none⟩]
def xq13_1 : List XO := xq13_1l
theorem xq13_1e : E3 xq13_1 xq13_1l := E3.rfl
abbrev xq13_2l : List XO := [
  ⟨some 11, .p (.mov (T 0)), none⟩,
  ⟨some 12, .p (.mov (T 1)), none⟩,
  ⟨some 13, .p (.eql false .nptr (T 11) (T 12)), none⟩,
  ⟨some 4, .p (.mov (T 13)), none⟩]
def xq13_2 : List XO := xq13_2l
theorem xq13_2e : E3 xq13_2 xq13_2l := E3.rfl
abbrev xq13_3l : List XO := [
  ⟨some 14, .p (.mov (T 0)), none⟩,
  ⟨some 15, .p (.nilc (T 14)), none⟩,
  ⟨some 16, .p (.faddr 0 (T 15)), none⟩,
  ⟨some 17, .r (.load1 (T 16)), none⟩,
  ⟨some 18, .p (.mov (T 1)), none⟩,
  ⟨some 19, .p (.nilc (T 18)), none⟩,
  ⟨some 20, .p (.faddr 0 (T 19)), none⟩,
  ⟨some 21, .r (.load1 (T 20)), none⟩,
  ⟨some 22, .call (.func 32) [(T 17), (T 21)], none⟩,
  ⟨some 4, .p (.mov (T 22)), none⟩]
def xq13_3 : List XO := xq13_3l
theorem xq13_3e : E3 xq13_3 xq13_3l := E3.rfl
def xq13 : XF := ⟨2, [.tmp 4],
  .seq (.ops xq13_0) (.seq (.seq (.ops xq13_1) (.cond (T 10) (.seq (.ops xq13_2) (.ret)) (.skip))) (.seq (.draw xq13_3 []) (.ret)))⟩
def yq13 := PLift.up (And.intro (And.intro (@xq13_0e) (@xq13_1e)) (And.intro (@xq13_2e) (@xq13_3e)))
theorem cq13 : zQ Try.prog Try.f13 = some xq13 := by kernel_rfl
abbrev xq14_0l : List XO := [
  ⟨some 0, .p (.mov (C (.pointer none))), none⟩]
def xq14_0 : List XO := xq14_0l
theorem xq14_0e : E3 xq14_0 xq14_0l := E3.rfl
abbrev xq14_1l : List XO := [
  ⟨some 1, .a (.mkmap), none⟩,
  ⟨some 2, .p (.build [(.map none)] [(0, 1, (T 1))]), none⟩,
  ⟨some 3, .a (.box (T 2)), none⟩,
  ⟨some 0, .p (.mov (T 3)), none⟩]
def xq14_1 : List XO := xq14_1l
theorem xq14_1e : E3 xq14_1 xq14_1l := E3.rfl
def xq14 : XF := ⟨0, [.tmp 0],
  .seq (.ops xq14_0) (.seq (.ops xq14_1) (.ret))⟩
def yq14 := PLift.up (And.intro (@xq14_0e) (@xq14_1e))
theorem cq14 : zQ Try.prog Try.f14 = some xq14 := by kernel_rfl
abbrev xq15_0l : List XO := [
  ⟨some 2, .p (.mov (C (.string (strOf [])))), none⟩]
def xq15_0 : List XO := xq15_0l
theorem xq15_0e : E3 xq15_0 xq15_0l := E3.rfl
abbrev xq15_1l : List XO := [
  ⟨some 3, .p (.mov (T 0)), none⟩,
  ⟨some 4, .p (.bin .add (C (.string (strOf [107]))) (T 3)), none⟩,
  ⟨some 2, .p (.mov (T 4)), none⟩]
def xq15_1 : List XO := xq15_1l
theorem xq15_1e : E3 xq15_1 xq15_1l := E3.rfl
def xq15 : XF := ⟨1, [.tmp 2],
  .seq (.ops xq15_0) (.seq (.ops xq15_1) (.ret))⟩
def yq15 := PLift.up (And.intro (@xq15_0e) (@xq15_1e))
theorem cq15 : zQ Try.prog Try.f15 = some xq15 := by kernel_rfl
abbrev xq16_0l : List XO := [
  ⟨some 2, .p (.mov (C (.string (strOf [])))), none⟩]
def xq16_0 : List XO := xq16_0l
theorem xq16_0e : E3 xq16_0 xq16_0l := E3.rfl
abbrev xq16_1l : List XO := [
  ⟨some 3, .p (.mov (T 0)), none⟩,
  ⟨some 4, .p (.bin .add (C (.string (strOf [107]))) (T 3)), none⟩,
  ⟨some 2, .p (.mov (T 4)), none⟩]
def xq16_1 : List XO := xq16_1l
theorem xq16_1e : E3 xq16_1 xq16_1l := E3.rfl
def xq16 : XF := ⟨1, [.tmp 2],
  .seq (.ops xq16_0) (.seq (.ops xq16_1) (.ret))⟩
def yq16 := PLift.up (And.intro (@xq16_0e) (@xq16_1e))
theorem cq16 : zQ Try.prog Try.f16 = some xq16 := by kernel_rfl
abbrev xq17_0l : List XO := [
  ⟨some 2, .p (.mov (C (.string (strOf [])))), none⟩]
def xq17_0 : List XO := xq17_0l
theorem xq17_0e : E3 xq17_0 xq17_0l := E3.rfl
abbrev xq17_1l : List XO := [
  ⟨some 3, .p (.mov (T 0)), none⟩,
  ⟨some 4, .call (.func 21) [(T 3), (C (.int .i64 8))], none⟩,
  ⟨some 5, .p (.bin .add (C (.string (strOf [110]))) (T 4)), none⟩,
  ⟨some 2, .p (.mov (T 5)), none⟩]
def xq17_1 : List XO := xq17_1l
theorem xq17_1e : E3 xq17_1 xq17_1l := E3.rfl
def xq17 : XF := ⟨1, [.tmp 2],
  .seq (.ops xq17_0) (.seq (.ops xq17_1) (.ret))⟩
def yq17 := PLift.up (And.intro (@xq17_0e) (@xq17_1e))
theorem cq17 : zQ Try.prog Try.f17 = some xq17 := by kernel_rfl
abbrev xq18_0l : List XO := [
  ⟨some 2, .p (.mov (C (.string (strOf [])))), none⟩]
def xq18_0 : List XO := xq18_0l
theorem xq18_0e : E3 xq18_0 xq18_0l := E3.rfl
abbrev xq18_1l : List XO := [
  ⟨some 3, .p (.mov (T 0)), none⟩,
  ⟨some 4, .call (.func 33) [(T 3), (C (.int .i64 8))], none⟩,
  ⟨some 5, .p (.bin .add (C (.string (strOf [110]))) (T 4)), none⟩,
  ⟨some 2, .p (.mov (T 5)), none⟩]
def xq18_1 : List XO := xq18_1l
theorem xq18_1e : E3 xq18_1 xq18_1l := E3.rfl
def xq18 : XF := ⟨1, [.tmp 2],
  .seq (.ops xq18_0) (.seq (.ops xq18_1) (.ret))⟩
def yq18 := PLift.up (And.intro (@xq18_0e) (@xq18_1e))
theorem cq18 : zQ Try.prog Try.f18 = some xq18 := by kernel_rfl
abbrev xq21_0l : List XO := [
  ⟨some 4, .p (.mov (C (.string (strOf [])))), none⟩]
def xq21_0 : List XO := xq21_0l
theorem xq21_0e : E3 xq21_0 xq21_0l := E3.rfl
abbrev xq21_1l : List XO := [
  ⟨some 5, .p (.mov (C (.slice none 0 0))), none⟩]
def xq21_1 : List XO := xq21_1l
theorem xq21_1e : E3 xq21_1 xq21_1l := E3.rfl
abbrev xq21_2l : List XO := [
  ⟨some 7, .p (.mov (T 1)), none⟩,
  ⟨some 8, .p (.minmax true (T 7) [(C (.int .i64 0))]), none⟩,
  ⟨some 9, .p (.minmax false (T 8) [(C (.int .i64 8))]), none⟩,
  ⟨some 10, .p (.mov (C (.int .i64 0))), none⟩]
def xq21_2 : List XO := xq21_2l
theorem xq21_2e : E3 xq21_2 xq21_2l := E3.rfl
abbrev xq21_3l : List XO := [
  ⟨some 11, .p (.bin .lss (T 10) (T 9)), none⟩]
def xq21_3 : List XO := xq21_3l
theorem xq21_3e : E3 xq21_3 xq21_3l := E3.rfl
abbrev xq21_4l : List XO := [
  ⟨some 12, .p (.mov (T 10)), none⟩,
  ⟨some 6, .p (.mov (T 12)), none⟩]
def xq21_4 : List XO := xq21_4l
theorem xq21_4e : E3 xq21_4 xq21_4l := E3.rfl
abbrev xq21_5l : List XO := [
  ⟨some 13, .p (.mov (T 5)), none⟩,
  ⟨some 14, .p (.mov (T 0)), none⟩,
  ⟨some 15, .p (.mov (T 1)), none⟩,
  ⟨some 16, .p (.minmax false (T 15) [(C (.int .i64 8))]), none⟩,
  ⟨some 17, .p (.bin .sub (T 16) (C (.int .i64 1))), none⟩,
  ⟨some 18, .p (.mov (T 6)), none⟩,
  ⟨some 19, .p (.bin .sub (T 17) (T 18)), none⟩,
  ⟨some 20, .p (.bin .mul (C (.int .i64 8)) (T 19)), none⟩,
  ⟨some 21, .p (.bin .shr (T 14) (T 20)), none⟩,
  ⟨some 22, .p (.cint .u8 (T 21)), none⟩,
  ⟨some 23, .a (.bslice [(.int .u8 0)] 1 [(0, 1, (T 22))]), none⟩,
  ⟨some 24, .e (.append 1 1 (T 13) (T 23)), none⟩,
  ⟨some 5, .p (.mov (T 24)), none⟩]
def xq21_5 : List XO := xq21_5l
theorem xq21_5e : E3 xq21_5 xq21_5l := E3.rfl
abbrev xq21_6l : List XO := [
  ⟨some 25, .p (.bin .add (T 10) (C (.int .i64 1))), none⟩,
  ⟨some 10, .p (.mov (T 25)), none⟩]
def xq21_6 : List XO := xq21_6l
theorem xq21_6e : E3 xq21_6 xq21_6l := E3.rfl
def xq21_7b : XC :=
  .seq (.ops xq21_3) (.seq (.cond (T 11) (.skip) (.exit 0)) (.seq (.block 1 (.seq (.ops xq21_4) (.ops xq21_5))) (.ops xq21_6)))
def xq21_7 : XC := xq21_7b
theorem xq21_7k {pr : Prog} {k : List KI} {Q : XE → Fr → Heap → Prop} {t : Fr} {h : Heap} (hw : wpk pr xq21_7b k Q t h) : wpk pr xq21_7 k Q t h := hw
abbrev xq21_8l : List XO := [
  ⟨some 26, .p (.mov (T 5)), none⟩,
  ⟨some 27, .r (.cb2s (T 26)), none⟩,
  ⟨some 4, .p (.mov (T 27)), none⟩]
def xq21_8 : List XO := xq21_8l
theorem xq21_8e : E3 xq21_8 xq21_8l := E3.rfl
def xq21 : XF := ⟨2, [.tmp 4],
  .seq (.ops xq21_0) (.seq (.ops xq21_1) (.seq (.seq (.ops xq21_2) (.block 0 (.loop xq21_7))) (.seq (.ops xq21_8) (.ret))))⟩
def yq21 := PLift.up (And.intro (And.intro (And.intro (@xq21_0e) (@xq21_1e)) (And.intro (@xq21_2e) (@xq21_3e))) (And.intro (And.intro (@xq21_4e) (@xq21_5e)) (And.intro (@xq21_6e) (@xq21_8e))))
theorem cq21 : zQ Try.prog Try.f21 = some xq21 := by kernel_rfl
abbrev xq33_0l : List XO := [
  ⟨some 4, .p (.mov (C (.string (strOf [])))), none⟩]
def xq33_0 : List XO := xq33_0l
theorem xq33_0e : E3 xq33_0 xq33_0l := E3.rfl
abbrev xq33_1l : List XO := [
  ⟨some 5, .p (.mov (T 1)), none⟩,
  ⟨some 6, .p (.bin .gtr (T 5) (C (.int .i64 8))), none⟩]
def xq33_1 : List XO := xq33_1l
theorem xq33_1e : E3 xq33_1 xq33_1l := E3.rfl
abbrev xq33_2l : List XO := [
  ⟨some 1, .p (.mov (C (.int .i64 8))), none⟩]
def xq33_2 : List XO := xq33_2l
theorem xq33_2e : E3 xq33_2 xq33_2l := E3.rfl
abbrev xq33_3l : List XO := [
  ⟨some 7, .p (.mov (T 1)), none⟩,
  ⟨some 8, .p (.bin .leq (T 7) (C (.int .i64 0))), none⟩]
def xq33_3 : List XO := xq33_3l
theorem xq33_3e : E3 xq33_3 xq33_3l := E3.rfl
abbrev xq33_4l : List XO := [
  ⟨some 4, .p (.mov (C (.string (strOf [])))), none⟩]
def xq33_4 : List XO := xq33_4l
theorem xq33_4e : E3 xq33_4 xq33_4l := E3.rfl
abbrev xq33_5l : List XO := [
  ⟨some 9, .p (.mov (T 0)), none⟩,
  ⟨some 10, .p (.bin .quo (T 9) (C (.int .u64 256))), none⟩,
  ⟨some 11, .p (.mov (T 1)), none⟩,
  ⟨some 12, .p (.bin .sub (T 11) (C (.int .i64 1))), none⟩,
  ⟨some 13, .call (.func 33) [(T 10), (T 12)], none⟩,
  ⟨some 14, .p (.mov (T 0)), none⟩,
  ⟨some 15, .p (.bin .rem (T 14) (C (.int .u64 256))), none⟩,
  ⟨some 16, .p (.cint .u8 (T 15)), none⟩,
  ⟨some 17, .a (.bslice [(.int .u8 0)] 1 [(0, 1, (T 16))]), none⟩,
  ⟨some 18, .r (.cb2s (T 17)), none⟩,
  ⟨some 19, .p (.bin .add (T 13) (T 18)), none⟩,
  ⟨some 4, .p (.mov (T 19)), none⟩]
def xq33_5 : List XO := xq33_5l
theorem xq33_5e : E3 xq33_5 xq33_5l := E3.rfl
def xq33 : XF := ⟨2, [.tmp 4],
  .seq (.ops xq33_0) (.seq (.seq (.ops xq33_1) (.cond (T 6) (.ops xq33_2) (.skip))) (.seq (.seq (.ops xq33_3) (.cond (T 8) (.seq (.ops xq33_4) (.ret)) (.skip))) (.seq (.draw xq33_5 [(9, (4, [8]))]) (.ret))))⟩
def yq33 := PLift.up (And.intro (And.intro (@xq33_0e) (And.intro (@xq33_1e) (@xq33_2e))) (And.intro (@xq33_3e) (And.intro (@xq33_4e) (@xq33_5e))))
theorem cq33 : zQ Try.prog Try.f33 = some xq33 := by kernel_rfl
end Go.X
end
section
open Go Go.X Go.Proofs Go.RowKit
namespace Go.X
set_option linter.unusedVariables false
theorem codeAt {P : Program} {l : List (Nat × Prim)} {f : Nat} {fn : Func} {F : XF} (hf : P.funcs[f]? = some fn) (hF : zQ P fn = some F) : (Tab P l).code f = some F := by
  simp only [Tab, hf, Option.bind_some, hF]
theorem str_of (s : ByteArray) : strOf s.data.toList = s := strOf_data s
theorem nilary {args : List Value} {v w : Value} {s : List Value → Option Value} (hs : ∀ a l, s (a :: l) = none) (hw : s [] = some w) (h : s args = some v) : args = [] ∧ v = w := by
  cases args with
  | nil => rw [hw] at h; exact ⟨rfl, (Option.some.inj h).symm⟩
  | cons a l => rw [hs] at h; cases h
theorem Own.push {g : Heap} {S : Nat → Prop} {v : Value} {q : List UInt8} (hO : Own g S 1 v q.length (zJ q)) (x : Nat) (hroom : q.length + 1 ≤ roomX) (hS : ∀ A, g.next ≤ A → S A) :
    ∃ v' g', zAB (g.new [uw .u8 x]) 1 1 v (.slice (some ⟨g.next, 0, none⟩) 1 1) = some (v', g') ∧ Own g' S 1 v' (q ++ [UInt8.ofNat x]).length (zJ (q ++ [UInt8.ofNat x])) ∧ Keeps S g g' := by
  have hO1 := hO.grow (Grows.new (l := [uw .u8 x]))
  have hs1 := (Var.new_self (h := g) (l := [uw .u8 x])).src (n := 1) (esz := 1) (bytes := 1) (s := v) (sp := none) (c := 1) rfl (by decide)
  obtain ⟨v', g2, e2, hO2, k2⟩ := hO1.append (bytes := 1) (m := 1) (new := [uw .u8 x]) rfl rfl (by decide) (by decide) (by omega)
  refine ⟨v', g2, by rw [hs1, e2], ?_, (Keeps.new (W := S)).trans k2 (fun _ _ e => e)⟩
  rw [← zAj, ← cellsOfBytes_app] at hO2
  rw [List.length_append]
  refine hO2.mono fun A hA => ?_
  rcases hA with hA | hA
  · exact hA
  · exact hS A (by rw [zAj] at hA; exact Nat.le_of_succ_le hA)
def numB (n k : Nat) : List UInt8 := (List.range k).map fun i => UInt8.ofNat (n >>> (8 * (k - 1 - i)))
theorem numB_len (n k : Nat) : (numB n k).length = k := by simp [numB]
def mmV (isMax : Bool) (x : Value) : List Value → Option Value
  | [] => some x
  | y :: ys => match mm isMax x y with | some z => mmV isMax z ys | none => none
theorem p_minmax {t : Fr} {b : Bool} {x : Operand} {xs : List Operand} : zA t (.minmax b x xs) = mmV b (t.eval x) (xs.map t.eval) := by
  simp only [zA]
  generalize t.eval x = v
  induction xs generalizing v with
  | nil => rfl
  | cons y ys ih =>
    simp only [mms, List.map_cons, mmV]
    cases mm b v (t.eval y) with
    | none => rfl
    | some z => exact ih z
theorem mm_max {k : IntKind} {x y : Int} : mmV true (.int k x) [.int k y] = some (.int k (if y > x then y else x)) := by simp [mmV, mm]
theorem mm_min {k : IntKind} {x y : Int} : mmV false (.int k x) [.int k y] = some (.int k (if y < x then y else x)) := by simp [mmV, mm]
def wnumS : List Value → Option Value
  | [.int .u64 n, .int .i64 k] => if 0 ≤ n ∧ n < 18446744073709551616 ∧ 0 ≤ k ∧ k ≤ 8 then some (.string (strOf (numB n.toNat k.toNat))) else none
  | _ => none
theorem wnum_ok (pr : Prog) (n k : Nat) (hn : n < 18446744073709551616) (hk : k ≤ 8) (h : Heap) : Comes pr xq21 [uw .u64 n, .int .i64 (k : Int)] h (.string (strOf (numB n k))) := by
  apply Comes.of
  unfold xq21
  dsimp only [zM]
  have m1 := mm_max (k := .i64) (x := (k : Int)) (y := 0)
  have m2 := mm_min (k := .i64) (x := (k : Int)) (y := 8)
  rw [if_neg (by omega)] at m1 m2
  (repeat (first | refine zX ?_ | refine zd ?_ | refine zk ?_ | refine zl ?_ | refine zT ?_ | refine zS ?_ | refine zc ?_ | refine zh ?_ | refine zY ?_ | refine za ?_ | refine zZ ?_ | refine zb (by decide) ?_ | refine zj ?_ | ((first | refine zi ?_ | refine zf ?_ | refine zg rfl rfl ?_ | refine zW rfl ?_ | refine ze ?_); simp only [yq21.down, zB, lemS.down, lemC.down, Int.reduceBEq, Nat.reduceAdd, Nat.reduceLeDiff, reduceIte, Nat.reduceEqDiff, Int.reduceLT, Int.reduceLE, Int.reduceGT, Int.reduceGE, Int.reduceEq, Int.reduceAdd, Int.reduceSub, Int.reduceMul, reduceCtorEq, lemH.down, p_minmax, m1, m2])))
  have hl : ∀ i, i ≤ k → ((numB n k).take i).length = i := fun i hi => by rw [List.length_take, numB_len]; omega
  refine wpk_loop_inv (fun m t g => ∃ i v, m = k - i ∧ i ≤ k ∧ Own g (fun A => h.next ≤ A) 1 v ((numB n k).take i).length (zJ ((numB n k).take i)) ∧ Grows h g ∧ t.get 0 = uw .u64 n ∧ t.get 1 = .int .i64 (k : Int) ∧ t.get 5 = v ∧ t.get 9 = .int .i64 (k : Int) ∧ t.get 10 = .int .i64 (i : Int)) ?_ k _ _ ⟨0, _, rfl, by omega, Own.nil, Grows.refl h, by simp only [yq21.down, zB, lemS.down, lemC.down, Int.reduceBEq, Nat.reduceAdd, Nat.reduceLeDiff, reduceIte, Nat.reduceEqDiff, Int.reduceLT, Int.reduceLE, Int.reduceGT, Int.reduceGE, Int.reduceEq, Int.reduceAdd, Int.reduceSub, Int.reduceMul, reduceCtorEq], by simp only [yq21.down, zB, lemS.down, lemC.down, Int.reduceBEq, Nat.reduceAdd, Nat.reduceLeDiff, reduceIte, Nat.reduceEqDiff, Int.reduceLT, Int.reduceLE, Int.reduceGT, Int.reduceGE, Int.reduceEq, Int.reduceAdd, Int.reduceSub, Int.reduceMul, reduceCtorEq], by simp only [yq21.down, zB, lemS.down, lemC.down, Int.reduceBEq, Nat.reduceAdd, Nat.reduceLeDiff, reduceIte, Nat.reduceEqDiff, Int.reduceLT, Int.reduceLE, Int.reduceGT, Int.reduceGE, Int.reduceEq, Int.reduceAdd, Int.reduceSub, Int.reduceMul, reduceCtorEq], by simp only [yq21.down, zB, lemS.down, lemC.down, Int.reduceBEq, Nat.reduceAdd, Nat.reduceLeDiff, reduceIte, Nat.reduceEqDiff, Int.reduceLT, Int.reduceLE, Int.reduceGT, Int.reduceGE, Int.reduceEq, Int.reduceAdd, Int.reduceSub, Int.reduceMul, reduceCtorEq], by (simp only [yq21.down, zB, lemS.down, lemC.down, Int.reduceBEq, Nat.reduceAdd, Nat.reduceLeDiff, reduceIte, Nat.reduceEqDiff, Int.reduceLT, Int.reduceLE, Int.reduceGT, Int.reduceGE, Int.reduceEq, Int.reduceAdd, Int.reduceSub, Int.reduceMul, reduceCtorEq]) <;> rfl⟩
  rintro m t g ⟨i, v, rfl, hi, gO, gg, t0, t1, t5, t9, t10⟩ hnext
  refine xq21_7k ?_
  dsimp only [xq21_7b]
  (repeat (first | refine zX ?_ | refine zd ?_ | refine zk ?_ | refine zl ?_ | refine zT ?_ | refine zS ?_ | refine zc ?_ | refine zh ?_ | refine zY ?_ | refine za ?_ | refine zZ ?_ | refine zb (by decide) ?_ | refine zj ?_ | ((first | refine zi ?_ | refine zf ?_ | refine zg rfl rfl ?_ | refine zW rfl ?_ | refine ze ?_); simp only [yq21.down, zB, lemS.down, lemC.down, Int.reduceBEq, Nat.reduceAdd, Nat.reduceLeDiff, reduceIte, Nat.reduceEqDiff, Int.reduceLT, Int.reduceLE, Int.reduceGT, Int.reduceGE, Int.reduceEq, Int.reduceAdd, Int.reduceSub, Int.reduceMul, reduceCtorEq, lemH.down, t0, t1, t5, t9, t10])))
  refine ⟨fun hlt => ?_, fun hge => ?_⟩
  · have hi' : i < k := by omega
    have ww : IntKind.i64.wrap ((i : Int) + 1) = ((i + 1 : Nat) : Int) := by rw [wrap_i64 (by omega) (by omega)]; omega
    have w1 : IntKind.i64.wrap ((k : Int) - 1) = ((k - 1 : Nat) : Int) := by rw [wrap_i64 (by omega) (by omega)]; omega
    have w2 : IntKind.i64.wrap (((k - 1 : Nat) : Int) - (i : Int)) = ((k - 1 - i : Nat) : Int) := by rw [wrap_i64 (by omega) (by omega)]; omega
    have w3 : IntKind.i64.wrap (8 * ((k - 1 - i : Nat) : Int)) = ((8 * (k - 1 - i) : Nat) : Int) := by rw [wrap_i64 (by omega) (by omega)]; omega
    have sh := shrV_u64 (k' := .i64) (x := n) (n := 8 * (k - 1 - i)) (by omega)
    rw [Nat.mod_eq_of_lt hn] at sh
    have hnx := gg.next
    obtain ⟨v', g2, e2, hO2, k2⟩ := gO.push (n >>> (8 * (k - 1 - i))) (by rw [hl i hi]; unfold roomX; omega) (fun A hA => by show h.next ≤ A; omega)
    (repeat (first | refine zX ?_ | refine zd ?_ | refine zk ?_ | refine zl ?_ | refine zT ?_ | refine zS ?_ | refine zc ?_ | refine zh ?_ | refine zY ?_ | refine za ?_ | refine zZ ?_ | refine zb (by decide) ?_ | refine zj ?_ | ((first | refine zi ?_ | refine zf ?_ | refine zg rfl rfl ?_ | refine zW rfl ?_ | refine ze ?_); simp only [yq21.down, zB, lemS.down, lemC.down, Int.reduceBEq, Nat.reduceAdd, Nat.reduceLeDiff, reduceIte, Nat.reduceEqDiff, Int.reduceLT, Int.reduceLE, Int.reduceGT, Int.reduceGE, Int.reduceEq, Int.reduceAdd, Int.reduceSub, Int.reduceMul, reduceCtorEq, lemH.down, lemW.down, t0, t1, t5, t9, t10, p_minmax, m2, w1, w2, w3, sh, e2, ww])))
    refine hnext (k - (i + 1)) _ _ (by omega) ⟨i + 1, v', rfl, by omega, ?_, gg.then k2 (fun A hA => by show ¬ (h.next ≤ A); omega), by simp only [yq21.down, zB, lemS.down, lemC.down, Int.reduceBEq, Nat.reduceAdd, Nat.reduceLeDiff, reduceIte, Nat.reduceEqDiff, Int.reduceLT, Int.reduceLE, Int.reduceGT, Int.reduceGE, Int.reduceEq, Int.reduceAdd, Int.reduceSub, Int.reduceMul, reduceCtorEq, t0], by simp only [yq21.down, zB, lemS.down, lemC.down, Int.reduceBEq, Nat.reduceAdd, Nat.reduceLeDiff, reduceIte, Nat.reduceEqDiff, Int.reduceLT, Int.reduceLE, Int.reduceGT, Int.reduceGE, Int.reduceEq, Int.reduceAdd, Int.reduceSub, Int.reduceMul, reduceCtorEq, t1], by simp only [yq21.down, zB, lemS.down, lemC.down, Int.reduceBEq, Nat.reduceAdd, Nat.reduceLeDiff, reduceIte, Nat.reduceEqDiff, Int.reduceLT, Int.reduceLE, Int.reduceGT, Int.reduceGE, Int.reduceEq, Int.reduceAdd, Int.reduceSub, Int.reduceMul, reduceCtorEq], by simp only [yq21.down, zB, lemS.down, lemC.down, Int.reduceBEq, Nat.reduceAdd, Nat.reduceLeDiff, reduceIte, Nat.reduceEqDiff, Int.reduceLT, Int.reduceLE, Int.reduceGT, Int.reduceGE, Int.reduceEq, Int.reduceAdd, Int.reduceSub, Int.reduceMul, reduceCtorEq, t9], by simp only [yq21.down, zB, lemS.down, lemC.down, Int.reduceBEq, Nat.reduceAdd, Nat.reduceLeDiff, reduceIte, Nat.reduceEqDiff, Int.reduceLT, Int.reduceLE, Int.reduceGT, Int.reduceGE, Int.reduceEq, Int.reduceAdd, Int.reduceSub, Int.reduceMul, reduceCtorEq]⟩
    rw [List.take_succ_eq_append_getElem (by rw [numB_len]; exact hi')]
    have : (numB n k)[i]'(by rw [numB_len]; exact hi') = UInt8.ofNat (n >>> (8 * (k - 1 - i))) := by simp [numB]
    rw [this]
    exact hO2
  · obtain rfl : i = k := by omega
    rw [List.take_of_length_le (by rw [numB_len]; exact Nat.le_refl _)] at gO
    (repeat (first | refine zX ?_ | refine zd ?_ | refine zk ?_ | refine zl ?_ | refine zT ?_ | refine zS ?_ | refine zc ?_ | refine zh ?_ | refine zY ?_ | refine za ?_ | refine zZ ?_ | refine zb (by decide) ?_ | refine zj ?_ | ((first | refine zi ?_ | refine zf ?_ | refine zg rfl rfl ?_ | refine zW rfl ?_ | refine ze ?_); simp only [yq21.down, zB, lemS.down, lemC.down, Int.reduceBEq, Nat.reduceAdd, Nat.reduceLeDiff, reduceIte, Nat.reduceEqDiff, Int.reduceLT, Int.reduceLE, Int.reduceGT, Int.reduceGE, Int.reduceEq, Int.reduceAdd, Int.reduceSub, Int.reduceMul, reduceCtorEq, lemH.down, t0, t1, t5, t9, t10, gO.cb2s])))
    exact ⟨.inr rfl, by simp only [yq21.down, zB, lemS.down, lemC.down, Int.reduceBEq, Nat.reduceAdd, Nat.reduceLeDiff, reduceIte, Nat.reduceEqDiff, Int.reduceLT, Int.reduceLE, Int.reduceGT, Int.reduceGE, Int.reduceEq, Int.reduceAdd, Int.reduceSub, Int.reduceMul, reduceCtorEq], gg⟩
theorem wnumS_ok {args : List Value} {v : Value} (h : wnumS args = some v) : args.length = 2 ∧ zn v = true ∧ ∀ pr h, Comes pr xq21 args h v := by
  unfold wnumS at h
  split at h
  · rename_i n k
    split at h
    · rename_i hc
      cases h
      refine ⟨rfl, rfl, fun pr h => ?_⟩
      have := wnum_ok pr n.toNat k.toNat (by omega) (by omega) h
      rw [show (k.toNat : Int) = k by omega] at this
      have e : uw .u64 n.toNat = .int .u64 n := by unfold uw; rw [u64_bits, Nat.mod_eq_of_lt (by omega)]; congr 1; omega
      rw [e] at this
      exact this
    · cases h
  · cases h
theorem wnumS_at {n k : Nat} (hn : n < 18446744073709551616) (hk : k ≤ 8) : wnumS [uw .u64 n, .int .i64 (OfNat.ofNat k)] = some (.string (strOf (numB n k))) := by
  have e : (OfNat.ofNat k : Int) = (k : Int) := rfl
  have e2 : uw .u64 n = .int .u64 (n : Int) := (nat_u64 hn).symm
  rw [e2, e]
  simp only [wnumS]
  rw [if_pos (by omega)]
  simp
theorem numB_succ (n k : Nat) : numB n (k + 1) = numB (n / 256) k ++ [UInt8.ofNat n] := by
  unfold numB
  rw [List.range_succ, List.map_append]
  congr 1
  · apply List.map_congr_left
    intro i hi
    have hi : i < k := by simpa using hi
    congr 1
    rw [Nat.shiftRight_eq_div_pow, Nat.shiftRight_eq_div_pow, Nat.div_div_eq_div_mul]
    congr 1
    have : 8 * (k + 1 - 1 - i) = 8 + 8 * (k - 1 - i) := by omega
    rw [this, Nat.pow_add]
  · simp
theorem cfi_comes {pr : Prog} {f : Nat} {F : XF} {args : List Value} {h : Heap} {v : Value} (hp : pr.prim f = none) (hF : pr.code f = some F) (hn : args.length = F.nargs) (hc : Comes pr F args h v) : ∃ h1, cfi pr f args h = some (v, h1) ∧ Grows h h1 := by
  obtain ⟨e, t', h1, hr, he, hres, hg⟩ := hc
  exact ⟨h1, cfi_code hp hF hn ⟨e, t', h1, hr, he, hres, rfl⟩, hg⟩
theorem quo_u64 {n : Nat} (hn : n < 18446744073709551616) : binX .quo (uw .u64 n) (.int .u64 256) = some (uw .u64 (n / 256)) := by
  rw [← nat_u64 hn, show (256 : Int) = ((256 : Nat) : Int) from rfl, quo_nat (by decide), ← nat_u64 (by omega)]
  congr 2
  unfold IntKind.wrap
  simp only [IntKind.signed, IntKind.bits, Bool.false_and, Bool.false_eq_true, if_false]
  rw [show (2 : Int) ^ 64 = 18446744073709551616 from rfl]
  omega
theorem rem_u64 {n : Nat} (hn : n < 18446744073709551616) : binX .rem (uw .u64 n) (.int .u64 256) = some (uw .u64 (n % 256)) := by
  rw [← nat_u64 hn, show (256 : Int) = ((256 : Nat) : Int) from rfl, rem_nat (by decide), ← nat_u64 (by omega)]
theorem byte_cell {p : Nat} (hp : p < 256) {h : Heap} : cb2sV (h.new [uw .u8 p]) (.slice (some ⟨h.next, 0, none⟩) 1 1) = some (.string (strOf [UInt8.ofNat p])) := by
  have hO := Own.newSlice (h := h) (l := zJ [UInt8.ofNat p]) (n := 1) (esz := 1) (sp := none) rfl (.inl rfl)
  have := hO.cb2s
  rw [zAj] at this
  exact this
theorem num3_ok (pr : Prog) (hp : pr.prim 33 = none) (hc : pr.code 33 = some xq33) : ∀ (k n : Nat) (h : Heap), n < 18446744073709551616 → k ≤ 8 → Comes pr xq33 [uw .u64 n, .int .i64 (k : Int)] h (.string (strOf (numB n k)))
  | 0, n, h, hn, hk => by
    apply Comes.of
    unfold xq33
    dsimp only [zM]
    (repeat (first | refine zX ?_ | refine zd ?_ | refine zk ?_ | refine zl ?_ | refine zT ?_ | refine zS ?_ | refine zc ?_ | refine zh ?_ | refine zY ?_ | refine za ?_ | refine zZ ?_ | refine zb (by decide) ?_ | refine zj ?_ | ((first | refine zi ?_ | refine zf ?_ | refine zg rfl rfl ?_ | refine zW rfl ?_ | refine ze ?_); simp only [yq33.down, zB, lemS.down, lemC.down, Int.reduceBEq, Nat.reduceAdd, Nat.reduceLeDiff, reduceIte, Nat.reduceEqDiff, Int.reduceLT, Int.reduceLE, Int.reduceGT, Int.reduceGE, Int.reduceEq, Int.reduceAdd, Int.reduceSub, Int.reduceMul, reduceCtorEq])))
    exact ⟨.inr rfl, by (simp only [yq33.down, zB, lemS.down, lemC.down, Int.reduceBEq, Nat.reduceAdd, Nat.reduceLeDiff, reduceIte, Nat.reduceEqDiff, Int.reduceLT, Int.reduceLE, Int.reduceGT, Int.reduceGE, Int.reduceEq, Int.reduceAdd, Int.reduceSub, Int.reduceMul, reduceCtorEq, numB]) <;> rfl, Grows.refl h⟩
  | k + 1, n, h, hn, hk => by
    have ih := num3_ok pr hp hc k (n / 256) h (by omega) (by omega)
    apply Comes.of
    unfold xq33
    dsimp only [zM]
    have d1 : decide (((k + 1 : Nat) : Int) > 8) = false := by simp; omega
    have d2 : decide (((k + 1 : Nat) : Int) ≤ 0) = false := by rw [decide_eq_false_iff_not]; omega
    obtain ⟨h1, e1, g1⟩ := cfi_comes hp hc rfl ih
    have e1 : cfi pr 33 [uw .u64 (n / 256), .int .i64 (k : Int)] h = _ := e1
    have q1 := quo_u64 hn
    have q2 := rem_u64 hn
    have w1 : IntKind.i64.wrap (((k + 1 : Nat) : Int) - 1) = (k : Int) := by rw [wrap_i64 (by omega) (by omega)]; omega
    (repeat (first | refine zX ?_ | refine zd ?_ | refine zk ?_ | refine zl ?_ | refine zT ?_ | refine zS ?_ | refine zc ?_ | refine zh ?_ | refine zY ?_ | refine za ?_ | refine zZ ?_ | refine zb (by decide) ?_ | refine zj ?_ | ((first | refine zi ?_ | refine zf ?_ | refine zg rfl rfl ?_ | refine zW rfl ?_ | refine ze ?_); simp only [yq33.down, zB, lemS.down, lemC.down, Int.reduceBEq, Nat.reduceAdd, Nat.reduceLeDiff, reduceIte, Nat.reduceEqDiff, Int.reduceLT, Int.reduceLE, Int.reduceGT, Int.reduceGE, Int.reduceEq, Int.reduceAdd, Int.reduceSub, Int.reduceMul, reduceCtorEq, d1, d2])))
    refine wpk_drawP rfl ?_
    have ad := bin_cat (a := numB (n / 256) k) (b := [UInt8.ofNat (n % 256)]) (by rw [numB_len]; unfold roomX; simp; omega)
    have um : UInt8.ofNat (n % 256) = UInt8.ofNat n := by apply UInt8.toNat.inj; simp
    have bc := byte_cell (p := n % 256) (by omega) (h := h1)
    simp only [yq33.down, zB, lemS.down, lemC.down, Int.reduceBEq, Nat.reduceAdd, Nat.reduceLeDiff, reduceIte, Nat.reduceEqDiff, Int.reduceLT, Int.reduceLE, Int.reduceGT, Int.reduceGE, Int.reduceEq, Int.reduceAdd, Int.reduceSub, Int.reduceMul, reduceCtorEq, d1, d2, lemH.down, lemW.down, q1, q2, w1, e1, bc]
    refine ⟨?_, ?_⟩
    · refine checkAt_one rfl rfl rfl rfl rfl (b := .cells [uw .u8 (n % 256)]) (mk := .slice 1 1 none) (v := .string (strOf [UInt8.ofNat (n % 256)])) ?_ ?_ ?_
      · simp only [yq33.down, zB, lemS.down, lemC.down, Int.reduceBEq, Nat.reduceAdd, Nat.reduceLeDiff, reduceIte, Nat.reduceEqDiff, Int.reduceLT, Int.reduceLE, Int.reduceGT, Int.reduceGE, Int.reduceEq, Int.reduceAdd, Int.reduceSub, Int.reduceMul, reduceCtorEq, lemH.down]
      · simp only [yq33.down, zB, lemS.down, lemC.down, Int.reduceBEq, Nat.reduceAdd, Nat.reduceLeDiff, reduceIte, Nat.reduceEqDiff, Int.reduceLT, Int.reduceLE, Int.reduceGT, Int.reduceGE, Int.reduceEq, Int.reduceAdd, Int.reduceSub, Int.reduceMul, reduceCtorEq, lemH.down]
        exact bc
      · simp only [yq33.down, zB, lemS.down, lemC.down, Int.reduceBEq, Nat.reduceAdd, Nat.reduceLeDiff, reduceIte, Nat.reduceEqDiff, Int.reduceLT, Int.reduceLE, Int.reduceGT, Int.reduceGE, Int.reduceEq, Int.reduceAdd, Int.reduceSub, Int.reduceMul, reduceCtorEq, lemH.down]
        exact cb2sV_at.trans (byte_cell (p := n % 256) (by omega) (h := h.at h1.next))
    · simp only [yq33.down, zB, lemS.down, lemC.down, Int.reduceBEq, Nat.reduceAdd, Nat.reduceLeDiff, reduceIte, Nat.reduceEqDiff, Int.reduceLT, Int.reduceLE, Int.reduceGT, Int.reduceGE, Int.reduceEq, Int.reduceAdd, Int.reduceSub, Int.reduceMul, reduceCtorEq, ad]
      (repeat (first | refine zX ?_ | refine zd ?_ | refine zk ?_ | refine zl ?_ | refine zT ?_ | refine zS ?_ | refine zc ?_ | refine zh ?_ | refine zY ?_ | refine za ?_ | refine zZ ?_ | refine zb (by decide) ?_ | refine zj ?_ | ((first | refine zi ?_ | refine zf ?_ | refine zg rfl rfl ?_ | refine zW rfl ?_ | refine ze ?_); simp only [yq33.down, zB, lemS.down, lemC.down, Int.reduceBEq, Nat.reduceAdd, Nat.reduceLeDiff, reduceIte, Nat.reduceEqDiff, Int.reduceLT, Int.reduceLE, Int.reduceGT, Int.reduceGE, Int.reduceEq, Int.reduceAdd, Int.reduceSub, Int.reduceMul, reduceCtorEq])))
      refine ⟨.inr rfl, ?_, g1.trans Grows.new⟩
      simp only [yq33.down, zB, lemS.down, lemC.down, Int.reduceBEq, Nat.reduceAdd, Nat.reduceLeDiff, reduceIte, Nat.reduceEqDiff, Int.reduceLT, Int.reduceLE, Int.reduceGT, Int.reduceGE, Int.reduceEq, Int.reduceAdd, Int.reduceSub, Int.reduceMul, reduceCtorEq, numB_succ, um]
theorem checkAt_eqG {l : List XO} {tr : List (Fr × Heap)} {j k : Nat} {d : Option Nat} {gd : Option (Nat × Bool)} {op : ROp} {t t' : Fr} {h h' : Heap}
    (h1 : l[j]? = some ⟨d, .r op, gd⟩) (h2 : tr[j]? = some (t, h)) (h3 : tr[k]? = some (t', h')) (h4 : (zN t h op).isSome = true) (h5 : zN t h' op = zN t h op) : zp l tr j k [] = true := by
  obtain ⟨v, hv⟩ := Option.isSome_iff_exists.1 h4
  unfold zp
  rw [h1, h2, h3]
  simp only [zx, h5, hv, zAc, Bool.or_true]
end Go.X
end
section
open Go Go.X Go.Proofs Go.RowKit
namespace Go.X
set_option linter.unusedVariables false
def getNS : List Value → Option Value
  | [.pointer none, .string _] => some (.tuple #[.string (strOf []), .bool false])
  | _ => none
def lastNS : List Value → Option Value
  | [.pointer none, .int .u64 _] => some (.tuple #[.int .u64 0, .string (strOf [])])
  | _ => none
def applyNS : List Value → Option Value
  | [.pointer none, .agg _] => some (.tuple #[.slice none 0 0, .int .i64 1])
  | _ => none
def lenNS5 : List Value → Option Value
  | [.pointer none] => some (.int .i64 0)
  | _ => none
def cloneNS : List Value → Option Value
  | [.pointer none] => some (.pointer none)
  | _ => none
def sameNS : List Value → Option Value
  | [.pointer none, .pointer a] => some (.bool a.isNone)
  | _ => none
def encNS : List Value → Option Value
  | [.pointer none] => some (.string (strOf [0, 0, 0, 0]))
  | _ => none
def keyOfS : List Value → Option Value
  | [.string s] => if s.data.toList.length + 1 ≤ roomX then some (.string (strOf (107 :: s.data.toList))) else none
  | _ => none
def nonceS : List Value → Option Value
  | [.int .u64 n] => if 0 ≤ n ∧ n < 18446744073709551616 then some (.string (strOf (110 :: numB n.toNat 8))) else none
  | _ => none
def trueS : List Value → Option Value
  | [] => some (.bool true)
  | _ => none
theorem getNS_ok {args : List Value} {v : Value} (h : getNS args = some v) : args.length = 2 ∧ zn v = true ∧ (∀ pr h, Comes pr xq5 args h v) ∧ (∀ pr h, Comes pr xq6 args h v) := by
  unfold getNS at h
  split at h
  · cases h
    refine ⟨rfl, rfl, fun pr h => ?_, fun pr h => ?_⟩
    · apply Comes.of
      unfold xq5
      dsimp only [zM]
      (repeat (first | refine zX ?_ | refine zd ?_ | refine zk ?_ | refine zl ?_ | refine zT ?_ | refine zS ?_ | refine zc ?_ | refine zh ?_ | refine zY ?_ | refine za ?_ | refine zZ ?_ | refine zb (by decide) ?_ | refine zj ?_ | ((first | refine zi ?_ | refine zf ?_ | refine zg rfl rfl ?_ | refine zW rfl ?_ | refine ze ?_); simp only [yq5.down, zB, lemS.down, lemC.down, Int.reduceBEq, Nat.reduceAdd, Nat.reduceLeDiff, reduceIte, Nat.reduceEqDiff, Int.reduceLT, Int.reduceLE, Int.reduceGT, Int.reduceGE, Int.reduceEq, Int.reduceAdd, Int.reduceSub, Int.reduceMul, reduceCtorEq, lemH.down, eqX_pn])))
      exact ⟨.inr rfl, by simp only [yq5.down, zB, lemS.down, lemC.down, Int.reduceBEq, Nat.reduceAdd, Nat.reduceLeDiff, reduceIte, Nat.reduceEqDiff, Int.reduceLT, Int.reduceLE, Int.reduceGT, Int.reduceGE, Int.reduceEq, Int.reduceAdd, Int.reduceSub, Int.reduceMul, reduceCtorEq], Grows.refl h⟩
    · apply Comes.of
      unfold xq6
      dsimp only [zM]
      (repeat (first | refine zX ?_ | refine zd ?_ | refine zk ?_ | refine zl ?_ | refine zT ?_ | refine zS ?_ | refine zc ?_ | refine zh ?_ | refine zY ?_ | refine za ?_ | refine zZ ?_ | refine zb (by decide) ?_ | refine zj ?_ | ((first | refine zi ?_ | refine zf ?_ | refine zg rfl rfl ?_ | refine zW rfl ?_ | refine ze ?_); simp only [yq6.down, zB, lemS.down, lemC.down, Int.reduceBEq, Nat.reduceAdd, Nat.reduceLeDiff, reduceIte, Nat.reduceEqDiff, Int.reduceLT, Int.reduceLE, Int.reduceGT, Int.reduceGE, Int.reduceEq, Int.reduceAdd, Int.reduceSub, Int.reduceMul, reduceCtorEq, lemH.down, eqX_pn])))
      exact ⟨.inr rfl, by simp only [yq6.down, zB, lemS.down, lemC.down, Int.reduceBEq, Nat.reduceAdd, Nat.reduceLeDiff, reduceIte, Nat.reduceEqDiff, Int.reduceLT, Int.reduceLE, Int.reduceGT, Int.reduceGE, Int.reduceEq, Int.reduceAdd, Int.reduceSub, Int.reduceMul, reduceCtorEq], Grows.refl h⟩
  · cases h
theorem lastNS_ok {args : List Value} {v : Value} (h : lastNS args = some v) : args.length = 2 ∧ zn v = true ∧ (∀ pr h, Comes pr xq7 args h v) := by
  unfold lastNS at h
  split at h
  · cases h
    refine ⟨rfl, rfl, fun pr h => ?_⟩
    apply Comes.of
    unfold xq7
    dsimp only [zM]
    (repeat (first | refine zX ?_ | refine zd ?_ | refine zk ?_ | refine zl ?_ | refine zT ?_ | refine zS ?_ | refine zc ?_ | refine zh ?_ | refine zY ?_ | refine za ?_ | refine zZ ?_ | refine zb (by decide) ?_ | refine zj ?_ | ((first | refine zi ?_ | refine zf ?_ | refine zg rfl rfl ?_ | refine zW rfl ?_ | refine ze ?_); simp only [yq7.down, zB, lemS.down, lemC.down, Int.reduceBEq, Nat.reduceAdd, Nat.reduceLeDiff, reduceIte, Nat.reduceEqDiff, Int.reduceLT, Int.reduceLE, Int.reduceGT, Int.reduceGE, Int.reduceEq, Int.reduceAdd, Int.reduceSub, Int.reduceMul, reduceCtorEq, lemH.down, eqX_pn])))
    exact ⟨.inr rfl, by simp only [yq7.down, zB, lemS.down, lemC.down, Int.reduceBEq, Nat.reduceAdd, Nat.reduceLeDiff, reduceIte, Nat.reduceEqDiff, Int.reduceLT, Int.reduceLE, Int.reduceGT, Int.reduceGE, Int.reduceEq, Int.reduceAdd, Int.reduceSub, Int.reduceMul, reduceCtorEq], Grows.refl h⟩
  · cases h
theorem applyNS_ok {args : List Value} {v : Value} (h : applyNS args = some v) : args.length = 2 ∧ zn v = true ∧ (∀ pr h, Comes pr xq8 args h v) := by
  unfold applyNS at h
  split at h
  · cases h
    refine ⟨rfl, rfl, fun pr h => ?_⟩
    apply Comes.of
    unfold xq8
    dsimp only [zM]
    (repeat (first | refine zX ?_ | refine zd ?_ | refine zk ?_ | refine zl ?_ | refine zT ?_ | refine zS ?_ | refine zc ?_ | refine zh ?_ | refine zY ?_ | refine za ?_ | refine zZ ?_ | refine zb (by decide) ?_ | refine zj ?_ | ((first | refine zi ?_ | refine zf ?_ | refine zg rfl rfl ?_ | refine zW rfl ?_ | refine ze ?_); simp only [yq8.down, zB, lemS.down, lemC.down, Int.reduceBEq, Nat.reduceAdd, Nat.reduceLeDiff, reduceIte, Nat.reduceEqDiff, Int.reduceLT, Int.reduceLE, Int.reduceGT, Int.reduceGE, Int.reduceEq, Int.reduceAdd, Int.reduceSub, Int.reduceMul, reduceCtorEq, lemH.down, eqX_pn])))
    exact ⟨.inr rfl, by simp only [yq8.down, zB, lemS.down, lemC.down, Int.reduceBEq, Nat.reduceAdd, Nat.reduceLeDiff, reduceIte, Nat.reduceEqDiff, Int.reduceLT, Int.reduceLE, Int.reduceGT, Int.reduceGE, Int.reduceEq, Int.reduceAdd, Int.reduceSub, Int.reduceMul, reduceCtorEq], Grows.new⟩
  · cases h
theorem lenNS5_ok {args : List Value} {v : Value} (h : lenNS5 args = some v) : args.length = 1 ∧ zn v = true ∧ (∀ pr h, Comes pr xq10 args h v) := by
  unfold lenNS5 at h
  split at h
  · cases h
    refine ⟨rfl, rfl, fun pr h => ?_⟩
    apply Comes.of
    unfold xq10
    dsimp only [zM]
    (repeat (first | refine zX ?_ | refine zd ?_ | refine zk ?_ | refine zl ?_ | refine zT ?_ | refine zS ?_ | refine zc ?_ | refine zh ?_ | refine zY ?_ | refine za ?_ | refine zZ ?_ | refine zb (by decide) ?_ | refine zj ?_ | ((first | refine zi ?_ | refine zf ?_ | refine zg rfl rfl ?_ | refine zW rfl ?_ | refine ze ?_); simp only [yq10.down, zB, lemS.down, lemC.down, Int.reduceBEq, Nat.reduceAdd, Nat.reduceLeDiff, reduceIte, Nat.reduceEqDiff, Int.reduceLT, Int.reduceLE, Int.reduceGT, Int.reduceGE, Int.reduceEq, Int.reduceAdd, Int.reduceSub, Int.reduceMul, reduceCtorEq, lemH.down, eqX_pn])))
    exact ⟨.inr rfl, by simp only [yq10.down, zB, lemS.down, lemC.down, Int.reduceBEq, Nat.reduceAdd, Nat.reduceLeDiff, reduceIte, Nat.reduceEqDiff, Int.reduceLT, Int.reduceLE, Int.reduceGT, Int.reduceGE, Int.reduceEq, Int.reduceAdd, Int.reduceSub, Int.reduceMul, reduceCtorEq], Grows.refl h⟩
  · cases h
theorem cloneNS_ok {args : List Value} {v : Value} (h : cloneNS args = some v) : args.length = 1 ∧ zn v = true ∧ (∀ pr h, Comes pr xq11 args h v) := by
  unfold cloneNS at h
  split at h
  · cases h
    refine ⟨rfl, rfl, fun pr h => ?_⟩
    apply Comes.of
    unfold xq11
    dsimp only [zM]
    (repeat (first | refine zX ?_ | refine zd ?_ | refine zk ?_ | refine zl ?_ | refine zT ?_ | refine zS ?_ | refine zc ?_ | refine zh ?_ | refine zY ?_ | refine za ?_ | refine zZ ?_ | refine zb (by decide) ?_ | refine zj ?_ | ((first | refine zi ?_ | refine zf ?_ | refine zg rfl rfl ?_ | refine zW rfl ?_ | refine ze ?_); simp only [yq11.down, zB, lemS.down, lemC.down, Int.reduceBEq, Nat.reduceAdd, Nat.reduceLeDiff, reduceIte, Nat.reduceEqDiff, Int.reduceLT, Int.reduceLE, Int.reduceGT, Int.reduceGE, Int.reduceEq, Int.reduceAdd, Int.reduceSub, Int.reduceMul, reduceCtorEq, lemH.down, eqX_pn])))
    exact ⟨.inr rfl, by simp only [yq11.down, zB, lemS.down, lemC.down, Int.reduceBEq, Nat.reduceAdd, Nat.reduceLeDiff, reduceIte, Nat.reduceEqDiff, Int.reduceLT, Int.reduceLE, Int.reduceGT, Int.reduceGE, Int.reduceEq, Int.reduceAdd, Int.reduceSub, Int.reduceMul, reduceCtorEq], Grows.refl h⟩
  · cases h
theorem eqX_np {a : Option Addr} : eqX .nptr (.pointer none) (.pointer a) = some a.isNone := by cases a <;> rfl
theorem sameNS_ok {args : List Value} {v : Value} (h : sameNS args = some v) : args.length = 2 ∧ zn v = true ∧ (∀ pr h, Comes pr xq13 args h v) := by
  unfold sameNS at h
  split at h
  · cases h
    refine ⟨rfl, rfl, fun pr h => ?_⟩
    apply Comes.of
    unfold xq13
    dsimp only [zM]
    (repeat (first | refine zX ?_ | refine zd ?_ | refine zk ?_ | refine zl ?_ | refine zT ?_ | refine zS ?_ | refine zc ?_ | refine zh ?_ | refine zY ?_ | refine za ?_ | refine zZ ?_ | refine zb (by decide) ?_ | refine zj ?_ | ((first | refine zi ?_ | refine zf ?_ | refine zg rfl rfl ?_ | refine zW rfl ?_ | refine ze ?_); simp only [yq13.down, zB, lemS.down, lemC.down, Int.reduceBEq, Nat.reduceAdd, Nat.reduceLeDiff, reduceIte, Nat.reduceEqDiff, Int.reduceLT, Int.reduceLE, Int.reduceGT, Int.reduceGE, Int.reduceEq, Int.reduceAdd, Int.reduceSub, Int.reduceMul, reduceCtorEq, lemH.down, eqX_np, Option.isNone_none])))
    exact ⟨.inr rfl, by simp only [yq13.down, zB, lemS.down, lemC.down, Int.reduceBEq, Nat.reduceAdd, Nat.reduceLeDiff, reduceIte, Nat.reduceEqDiff, Int.reduceLT, Int.reduceLE, Int.reduceGT, Int.reduceGE, Int.reduceEq, Int.reduceAdd, Int.reduceSub, Int.reduceMul, reduceCtorEq], Grows.refl h⟩
  · cases h
theorem zAR {args : List Value} {v : Value} (h : keyOfS args = some v) : args.length = 1 ∧ zn v = true ∧ (∀ pr h, Comes pr xq15 args h v) ∧ (∀ pr h, Comes pr xq16 args h v) := by
  unfold keyOfS at h
  split at h
  · rename_i s
    split at h
    · rename_i hs
      cases h
      have ad := bin_cat (a := [107]) (b := s.data.toList) (by rw [List.length_singleton]; omega)
      rw [strOf_data] at ad
      refine ⟨rfl, rfl, fun pr h => ?_, fun pr h => ?_⟩
      · apply Comes.of
        unfold xq15
        dsimp only [zM]
        (repeat (first | refine zX ?_ | refine zd ?_ | refine zk ?_ | refine zl ?_ | refine zT ?_ | refine zS ?_ | refine zc ?_ | refine zh ?_ | refine zY ?_ | refine za ?_ | refine zZ ?_ | refine zb (by decide) ?_ | refine zj ?_ | ((first | refine zi ?_ | refine zf ?_ | refine zg rfl rfl ?_ | refine zW rfl ?_ | refine ze ?_); simp only [yq15.down, zB, lemS.down, lemC.down, Int.reduceBEq, Nat.reduceAdd, Nat.reduceLeDiff, reduceIte, Nat.reduceEqDiff, Int.reduceLT, Int.reduceLE, Int.reduceGT, Int.reduceGE, Int.reduceEq, Int.reduceAdd, Int.reduceSub, Int.reduceMul, reduceCtorEq, ad])))
        exact ⟨.inr rfl, by simp only [yq15.down, zB, lemS.down, lemC.down, Int.reduceBEq, Nat.reduceAdd, Nat.reduceLeDiff, reduceIte, Nat.reduceEqDiff, Int.reduceLT, Int.reduceLE, Int.reduceGT, Int.reduceGE, Int.reduceEq, Int.reduceAdd, Int.reduceSub, Int.reduceMul, reduceCtorEq, List.singleton_append], Grows.refl h⟩
      · apply Comes.of
        unfold xq16
        dsimp only [zM]
        (repeat (first | refine zX ?_ | refine zd ?_ | refine zk ?_ | refine zl ?_ | refine zT ?_ | refine zS ?_ | refine zc ?_ | refine zh ?_ | refine zY ?_ | refine za ?_ | refine zZ ?_ | refine zb (by decide) ?_ | refine zj ?_ | ((first | refine zi ?_ | refine zf ?_ | refine zg rfl rfl ?_ | refine zW rfl ?_ | refine ze ?_); simp only [yq16.down, zB, lemS.down, lemC.down, Int.reduceBEq, Nat.reduceAdd, Nat.reduceLeDiff, reduceIte, Nat.reduceEqDiff, Int.reduceLT, Int.reduceLE, Int.reduceGT, Int.reduceGE, Int.reduceEq, Int.reduceAdd, Int.reduceSub, Int.reduceMul, reduceCtorEq, ad])))
        exact ⟨.inr rfl, by simp only [yq16.down, zB, lemS.down, lemC.down, Int.reduceBEq, Nat.reduceAdd, Nat.reduceLeDiff, reduceIte, Nat.reduceEqDiff, Int.reduceLT, Int.reduceLE, Int.reduceGT, Int.reduceGE, Int.reduceEq, Int.reduceAdd, Int.reduceSub, Int.reduceMul, reduceCtorEq, List.singleton_append], Grows.refl h⟩
    · cases h
  · cases h
theorem zAS {args : List Value} {v : Value} (h : nonceS args = some v) : args.length = 1 ∧ zn v = true ∧ (∀ pr h, pr.prim 21 = some (zF wnumS) → Comes pr xq17 args h v) ∧ (∀ pr h, pr.prim 33 = some (zF wnumS) → Comes pr xq18 args h v) := by
  unfold nonceS at h
  split at h
  · rename_i n
    split at h
    · rename_i hn
      cases h
      obtain ⟨m, rfl⟩ : ∃ m : Nat, n = (m : Int) := ⟨n.toNat, by omega⟩
      have hm : m < 18446744073709551616 := by omega
      have ad := bin_cat (a := [110]) (b := numB m 8) (by rw [numB_len]; decide)
      refine ⟨rfl, rfl, fun pr h hp => ?_, fun pr h hp => ?_⟩
      · have k := zu (h := h) hp (wnumS_at (n := m) (k := 8) hm (by decide))
        have k : cfi pr 21 [uw .u64 m, .int .i64 8] h = _ := k
        rw [← nat_u64 hm] at k
        apply Comes.of
        unfold xq17
        dsimp only [zM]
        (repeat (first | refine zX ?_ | refine zd ?_ | refine zk ?_ | refine zl ?_ | refine zT ?_ | refine zS ?_ | refine zc ?_ | refine zh ?_ | refine zY ?_ | refine za ?_ | refine zZ ?_ | refine zb (by decide) ?_ | refine zj ?_ | ((first | refine zi ?_ | refine zf ?_ | refine zg rfl rfl ?_ | refine zW rfl ?_ | refine ze ?_); simp only [yq17.down, zB, lemS.down, lemC.down, Int.reduceBEq, Nat.reduceAdd, Nat.reduceLeDiff, reduceIte, Nat.reduceEqDiff, Int.reduceLT, Int.reduceLE, Int.reduceGT, Int.reduceGE, Int.reduceEq, Int.reduceAdd, Int.reduceSub, Int.reduceMul, reduceCtorEq, k, ad])))
        exact ⟨.inr rfl, by simp only [yq17.down, zB, lemS.down, lemC.down, Int.reduceBEq, Nat.reduceAdd, Nat.reduceLeDiff, reduceIte, Nat.reduceEqDiff, Int.reduceLT, Int.reduceLE, Int.reduceGT, Int.reduceGE, Int.reduceEq, Int.reduceAdd, Int.reduceSub, Int.reduceMul, reduceCtorEq, List.singleton_append, Int.toNat_natCast], Grows.refl h⟩
      · have k := zu (h := h) hp (wnumS_at (n := m) (k := 8) hm (by decide))
        have k : cfi pr 33 [uw .u64 m, .int .i64 8] h = _ := k
        rw [← nat_u64 hm] at k
        apply Comes.of
        unfold xq18
        dsimp only [zM]
        (repeat (first | refine zX ?_ | refine zd ?_ | refine zk ?_ | refine zl ?_ | refine zT ?_ | refine zS ?_ | refine zc ?_ | refine zh ?_ | refine zY ?_ | refine za ?_ | refine zZ ?_ | refine zb (by decide) ?_ | refine zj ?_ | ((first | refine zi ?_ | refine zf ?_ | refine zg rfl rfl ?_ | refine zW rfl ?_ | refine ze ?_); simp only [yq18.down, zB, lemS.down, lemC.down, Int.reduceBEq, Nat.reduceAdd, Nat.reduceLeDiff, reduceIte, Nat.reduceEqDiff, Int.reduceLT, Int.reduceLE, Int.reduceGT, Int.reduceGE, Int.reduceEq, Int.reduceAdd, Int.reduceSub, Int.reduceMul, reduceCtorEq, k, ad])))
        exact ⟨.inr rfl, by simp only [yq18.down, zB, lemS.down, lemC.down, Int.reduceBEq, Nat.reduceAdd, Nat.reduceLeDiff, reduceIte, Nat.reduceEqDiff, Int.reduceLT, Int.reduceLE, Int.reduceGT, Int.reduceGE, Int.reduceEq, Int.reduceAdd, Int.reduceSub, Int.reduceMul, reduceCtorEq, List.singleton_append, Int.toNat_natCast], Grows.refl h⟩
    · cases h
  · cases h
end Go.X
end
section
open Go Go.X Go.Proofs Go.RowKit
namespace Go.X
set_option linter.unusedVariables false
structure N05 (pr : Prog) : Prop where
  awake : pr.prim 4 = some (zF trueS)
  get : pr.prim 5 = some (zF getNS)
  value : pr.prim 6 = some (zF getNS)
  last : pr.prim 7 = some (zF lastNS)
  apply : pr.prim 8 = some (zF applyNS)
  len : pr.prim 10 = some (zF lenNS5)
  clone : pr.prim 11 = some (zF cloneNS)
  enc : pr.prim 12 = some (zF encNS)
  same : pr.prim 13 = some (zF sameNS)
  key : pr.prim 15 = some (zF keyOfS)
  rkey : pr.prim 16 = some (zF keyOfS)
  nonce : pr.prim 17 = some (zF nonceS)
  rnonce : pr.prim 18 = some (zF nonceS)
  all : pr.prim 9 = none ∧ pr.code 9 = some xq9
  all1 : pr.prim 25 = none ∧ pr.code 25 = some xq25
  new : pr.prim 14 = none ∧ pr.code 14 = some xq14
theorem p_mkfn {t : Fr} {fn : Fn} {a b : List Operand} : zA t (.mkfn fn a b) = some (.func fn (a.map t.eval).toArray (b.map t.eval).toArray) := rfl
theorem all_run {pr : Prog} (T : N05 pr) (h : Heap) : cfi pr 9 [.pointer none] h = some (.func (.func 25) #[] #[.pointer (some ⟨h.next, 0, none⟩)], h.new [.pointer none]) := by
  refine cfi_code T.all.1 T.all.2 rfl ?_
  unfold xq9
  dsimp only [zM]
  refine wpk.out (k := []) ?_
  (repeat (first | refine zX ?_ | refine zd ?_ | refine zk ?_ | refine zl ?_ | refine zT ?_ | refine zS ?_ | refine zc ?_ | refine zh ?_ | refine zY ?_ | refine za ?_ | refine zZ ?_ | refine zb (by decide) ?_ | refine zj ?_ | ((first | refine zi ?_ | refine zf ?_ | refine zg rfl rfl ?_ | refine zW rfl ?_ | refine ze ?_); simp only [yq9.down, zB, lemS.down, lemC.down, Int.reduceBEq, Nat.reduceAdd, Nat.reduceLeDiff, reduceIte, Nat.reduceEqDiff, Int.reduceLT, Int.reduceLE, Int.reduceGT, Int.reduceGE, Int.reduceEq, Int.reduceAdd, Int.reduceSub, Int.reduceMul, reduceCtorEq, lemH.down, p_mkfn, List.map_nil, List.map_cons])))
  exact ⟨.inr rfl, by simp only [yq9.down, zB, lemS.down, lemC.down, Int.reduceBEq, Nat.reduceAdd, Nat.reduceLeDiff, reduceIte, Nat.reduceEqDiff, Int.reduceLT, Int.reduceLE, Int.reduceGT, Int.reduceGE, Int.reduceEq, Int.reduceAdd, Int.reduceSub, Int.reduceMul, reduceCtorEq], rfl⟩
theorem all1_run {pr : Prog} (T : N05 pr) {h : Heap} {a : Addr} {y : Value} (hl : h.load a = some (.pointer none)) : cfi pr 25 [y, .pointer (some a)] h = some (.tuple #[], h) := by
  refine cfi_code T.all1.1 T.all1.2 rfl ?_
  unfold xq25
  dsimp only [zM]
  refine wpk.out (k := []) ?_
  (repeat (first | refine zX ?_ | refine zd ?_ | refine zk ?_ | refine zl ?_ | refine zT ?_ | refine zS ?_ | refine zc ?_ | refine zh ?_ | refine zY ?_ | refine za ?_ | refine zZ ?_ | refine zb (by decide) ?_ | refine zj ?_ | ((first | refine zi ?_ | refine zf ?_ | refine zg rfl rfl ?_ | refine zW rfl ?_ | refine ze ?_); simp only [yq25.down, zB, lemS.down, lemC.down, Int.reduceBEq, Nat.reduceAdd, Nat.reduceLeDiff, reduceIte, Nat.reduceEqDiff, Int.reduceLT, Int.reduceLE, Int.reduceGT, Int.reduceGE, Int.reduceEq, Int.reduceAdd, Int.reduceSub, Int.reduceMul, reduceCtorEq, lemH.down, hl, eqX_pn])))
  exact ⟨.inr rfl, rfl⟩
theorem a_mkmap {t : Fr} : zq t .mkmap = some (.map, .map) := rfl
theorem fill_map {n : Nat} : fillV [.map none] [(0, 1, Mk.val n Mk.map)] = some [.map (some n)] := rfl
theorem Grows.newMap {h : Heap} : Grows h h.newMap := ⟨Nat.le_succ _, fun A hA => PT.get_set_ne _ _ (by omega), fun _ _ => rfl⟩
theorem new_run {pr : Prog} (T : N05 pr) (h : Heap) : ∃ a h', cfi pr 14 [] h = some (.pointer (some a), h') ∧ Grows h h' := by
  have : ∃ v h', cfi pr 14 [] h = some (v, h') ∧ (∃ a, v = .pointer (some a)) ∧ Grows h h' := by
    refine cfi_wp T.new.1 T.new.2 rfl ?_
    unfold xq14
    dsimp only [zM]
    refine wpk.out (k := []) ?_
    (repeat (first | refine zX ?_ | refine zd ?_ | refine zk ?_ | refine zl ?_ | refine zT ?_ | refine zS ?_ | refine zc ?_ | refine zh ?_ | refine zY ?_ | refine za ?_ | refine zZ ?_ | refine zb (by decide) ?_ | refine zj ?_ | ((first | refine zi ?_ | refine zf ?_ | refine zg rfl rfl ?_ | refine zW rfl ?_ | refine ze ?_); simp only [yq14.down, zB, lemS.down, lemC.down, Int.reduceBEq, Nat.reduceAdd, Nat.reduceLeDiff, reduceIte, Nat.reduceEqDiff, Int.reduceLT, Int.reduceLE, Int.reduceGT, Int.reduceGE, Int.reduceEq, Int.reduceAdd, Int.reduceSub, Int.reduceMul, reduceCtorEq, lemH.down, a_mkmap, mkH_map, fill_map, cellsOf_agg])))
    exact ⟨.inr rfl, _, rfl, ⟨⟨h.newMap.next, 0, none⟩, by simp only [yq14.down, zB, lemS.down, lemC.down, Int.reduceBEq, Nat.reduceAdd, Nat.reduceLeDiff, reduceIte, Nat.reduceEqDiff, Int.reduceLT, Int.reduceLE, Int.reduceGT, Int.reduceGE, Int.reduceEq, Int.reduceAdd, Int.reduceSub, Int.reduceMul, reduceCtorEq]⟩, Grows.newMap.trans Grows.new⟩
  obtain ⟨v, h', e, ⟨a, rfl⟩, g⟩ := this
  exact ⟨a, h', e, g⟩
theorem Grows.loop {h : Heap} {r : XL} {b : Blk} : Grows h ((h.pushLoop r).setBlk h.next b) :=
  ⟨Nat.le_succ _, fun A hA => by simp only [Heap.setBlk, Heap.pushLoop]; rw [PT.get_set_ne _ _ (by omega), PT.get_set_ne _ _ (by omega)], fun _ _ => rfl⟩
theorem Grows.pushLoop {h : Heap} {r : XL} : Grows h (h.pushLoop r) := ⟨Nat.le_succ _, fun A hA => PT.get_set_ne _ _ (by omega), fun _ _ => rfl⟩
theorem pushLoop_get {h : Heap} {r : XL} : (h.pushLoop r).blks.get h.next = some (.loop r) := PT.get_set_eq _ _ _
theorem one_var {g : Heap} {x0 x : Value} (h0 : cellsOf x = [x]) (h1 : oneC x = true) : ∃ g1 g2, g.new [x0] = g1 ∧ storeV g1 1 (.pointer (some ⟨g.next, 0, none⟩)) x = some (.tuple #[], g2) ∧ Var g2 g.next [x] ∧ Grows g g2 := by
  have v0 : Var (g.new [x0]) g.next [x0] := Var.new_self
  exact ⟨_, _, rfl, by rw [storeV_one h0, v0.store1 (by simp) h1]; rfl, v0.wr, Grows.new.wr (Nat.le_refl _)⟩
theorem wpk_rng0 {pr : Prog} {k : List KI} {Q : XE → Fr → Heap → Prop} {t : Fr} {h : Heap} {f : Operand} {ps : List Nat} {n : Nat} {asg body : XC} {g : Nat} {first caps : Array Value} {v : Value} (hf : t.eval f = .func (.func g) first caps)
    (hc : cfi pr g (first.toList ++ [.func (.yield h.next) #[] #[]] ++ caps.toList) (h.pushLoop ⟨t, n, ps, asg, body, .ready, none⟩) = some (v, h.pushLoop ⟨t, n, ps, asg, body, .ready, none⟩))
    (hw : ∀ h', Grows h h' → kont pr k Q t h') : wpk pr (.rng f ps n asg body) k Q t h :=
  wpk_rng hf hc pushLoop_get (by simp) (hw _ Grows.loop).out
theorem kont_frame {pr : Prog} {k : List KI} {Q : XE → Fr → Heap → Prop} {T : Fr} {h : Heap} (R : Fr → Prop) (hR : R T) (hw : ∀ t, R t → kont pr k Q t h) : kont pr k Q T h := hw T hR
theorem getNS_at {s : List UInt8} : getNS [.pointer none, .string (strOf s)] = some (.tuple #[.string (strOf []), .bool false]) := rfl
set_option maxRecDepth 100000 in
set_option maxHeartbeats 8000000 in
theorem StateNil_ok (pr : Prog) (T : N05 pr) (h : Heap) (c n : Int) (sv : Value) (s : List UInt8) (hc : 0 ≤ c ∧ c < 18446744073709551616) (hs : s.length + 1 ≤ roomX) (h1 : oneC sv = true) : Comes pr xq3 [.agg [.int .u64 c, .int .u64 n, sv].toArray, .string (strOf s)] h (.bool true) := by
  apply Comes.of
  unfold xq3
  dsimp only [zM]
  have g1 : Grows h (h.new [.int .u64 c, .int .u64 n, sv]) := Grows.new
  have v1 : Var (h.new [.int .u64 c, .int .u64 n, sv]) h.next [.int .u64 c, .int .u64 n, sv] := Var.new_self
  generalize hk : h.new [.int .u64 c, .int .u64 n, sv] = k at *
  have e1 := zu (h := k) T.awake (show trueS [] = some (.bool true) from rfl)
  have e2 := zu (h := k) T.get (getNS_at (s := s))
  have e3 := zu (h := k) T.value (getNS_at (s := s))
  have e4 := zu (h := k) T.last (show lastNS [.pointer none, .int .u64 c] = some (.tuple #[.int .u64 0, .string (strOf [])]) from rfl)
  have e5 := zu (h := k) T.apply (show applyNS [.pointer none, .agg [.int .u64 c, .int .u64 n, sv].toArray] = some (.tuple #[.slice none 0 0, .int .i64 1]) from rfl)
  have l1 : ∀ sp, k.load ⟨h.next, 0, sp⟩ = some (.int .u64 c) := fun sp => v1.load (i := 0)
  have l2 : ∀ sp, k.loadN ⟨h.next, 0, sp⟩ 3 = some [.int .u64 c, .int .u64 n, sv] := fun sp => v1.loadAll rfl
  obtain ⟨k1, k2, a1, a2, v2, g2⟩ := one_var (g := k) (x0 := .int .i64 0) (x := .int .i64 0) rfl rfl
  have e6 := all_run T k2
  have g3 : Grows k2 (k2.new [.pointer none]) := Grows.new
  have v3 : Var (k2.new [.pointer none]) k2.next [.pointer none] := Var.new_self
  generalize k2.new [.pointer none] = k3 at *
  (repeat (first | refine zX ?_ | refine zd ?_ | refine zk ?_ | refine zl ?_ | refine zT ?_ | refine zS ?_ | refine zc ?_ | refine zh ?_ | refine zY ?_ | refine za ?_ | refine zZ ?_ | refine zb (by decide) ?_ | refine zj ?_ | ((first | refine zi ?_ | refine zf ?_ | refine zg rfl rfl ?_ | refine zW rfl ?_ | refine ze ?_); simp only [yq3.down, zB, lemS.down, lemC.down, Int.reduceBEq, Nat.reduceAdd, Nat.reduceLeDiff, reduceIte, Nat.reduceEqDiff, Int.reduceLT, Int.reduceLE, Int.reduceGT, Int.reduceGE, Int.reduceEq, Int.reduceAdd, Int.reduceSub, Int.reduceMul, reduceCtorEq, lemH.down, cellsOf_agg, hk, e1, e2, e3, e4, Nat.add_zero, l1, l2, e5, a1, a2, e6])))
  refine wpk_rng0 (g := 25) (first := #[]) (caps := #[.pointer (some ⟨k2.next, 0, none⟩)]) (by simp only [yq3.down, zB, lemS.down, lemC.down, Int.reduceBEq, Nat.reduceAdd, Nat.reduceLeDiff, reduceIte, Nat.reduceEqDiff, Int.reduceLT, Int.reduceLE, Int.reduceGT, Int.reduceGE, Int.reduceEq, Int.reduceAdd, Int.reduceSub, Int.reduceMul, reduceCtorEq]) (all1_run T ((v3.grow Grows.pushLoop).load (i := 0))) fun k4 g4 => ?_
  refine kont_frame (fun t => t.get 1 = .string (strOf s) ∧ t.get 2 = .pointer (some ⟨h.next, 0, none⟩) ∧ t.get 5 = .pointer none ∧ t.get 7 = .bool false ∧ t.get 9 = .bool false ∧ t.get 10 = .int .u64 0 ∧ t.get 11 = .string (strOf []) ∧ t.get 13 = .int .i64 1 ∧ t.get 14 = .pointer (some ⟨k.next, 0, none⟩))
    ⟨by simp only [yq3.down, zB, lemS.down, lemC.down, Int.reduceBEq, Nat.reduceAdd, Nat.reduceLeDiff, reduceIte, Nat.reduceEqDiff, Int.reduceLT, Int.reduceLE, Int.reduceGT, Int.reduceGE, Int.reduceEq, Int.reduceAdd, Int.reduceSub, Int.reduceMul, reduceCtorEq], by simp only [yq3.down, zB, lemS.down, lemC.down, Int.reduceBEq, Nat.reduceAdd, Nat.reduceLeDiff, reduceIte, Nat.reduceEqDiff, Int.reduceLT, Int.reduceLE, Int.reduceGT, Int.reduceGE, Int.reduceEq, Int.reduceAdd, Int.reduceSub, Int.reduceMul, reduceCtorEq], by simp only [yq3.down, zB, lemS.down, lemC.down, Int.reduceBEq, Nat.reduceAdd, Nat.reduceLeDiff, reduceIte, Nat.reduceEqDiff, Int.reduceLT, Int.reduceLE, Int.reduceGT, Int.reduceGE, Int.reduceEq, Int.reduceAdd, Int.reduceSub, Int.reduceMul, reduceCtorEq], by simp only [yq3.down, zB, lemS.down, lemC.down, Int.reduceBEq, Nat.reduceAdd, Nat.reduceLeDiff, reduceIte, Nat.reduceEqDiff, Int.reduceLT, Int.reduceLE, Int.reduceGT, Int.reduceGE, Int.reduceEq, Int.reduceAdd, Int.reduceSub, Int.reduceMul, reduceCtorEq], by simp only [yq3.down, zB, lemS.down, lemC.down, Int.reduceBEq, Nat.reduceAdd, Nat.reduceLeDiff, reduceIte, Nat.reduceEqDiff, Int.reduceLT, Int.reduceLE, Int.reduceGT, Int.reduceGE, Int.reduceEq, Int.reduceAdd, Int.reduceSub, Int.reduceMul, reduceCtorEq], by simp only [yq3.down, zB, lemS.down, lemC.down, Int.reduceBEq, Nat.reduceAdd, Nat.reduceLeDiff, reduceIte, Nat.reduceEqDiff, Int.reduceLT, Int.reduceLE, Int.reduceGT, Int.reduceGE, Int.reduceEq, Int.reduceAdd, Int.reduceSub, Int.reduceMul, reduceCtorEq], by simp only [yq3.down, zB, lemS.down, lemC.down, Int.reduceBEq, Nat.reduceAdd, Nat.reduceLeDiff, reduceIte, Nat.reduceEqDiff, Int.reduceLT, Int.reduceLE, Int.reduceGT, Int.reduceGE, Int.reduceEq, Int.reduceAdd, Int.reduceSub, Int.reduceMul, reduceCtorEq], by simp only [yq3.down, zB, lemS.down, lemC.down, Int.reduceBEq, Nat.reduceAdd, Nat.reduceLeDiff, reduceIte, Nat.reduceEqDiff, Int.reduceLT, Int.reduceLE, Int.reduceGT, Int.reduceGE, Int.reduceEq, Int.reduceAdd, Int.reduceSub, Int.reduceMul, reduceCtorEq], by simp only [yq3.down, zB, lemS.down, lemC.down, Int.reduceBEq, Nat.reduceAdd, Nat.reduceLeDiff, reduceIte, Nat.reduceEqDiff, Int.reduceLT, Int.reduceLE, Int.reduceGT, Int.reduceGE, Int.reduceEq, Int.reduceAdd, Int.reduceSub, Int.reduceMul, reduceCtorEq]⟩ ?_
  rintro t ⟨t1, t2, t5, t7, t9, t10, t11, t13, t14⟩
  have v4 := v2.grow (g3.trans g4)
  have w4 := v1.grow ((g2.trans g3).trans g4)
  obtain ⟨a5, k5, e9, g5⟩ := new_run T k4
  have l4 : ∀ sp, k4.load ⟨k.next, 0, sp⟩ = some (.int .i64 0) := fun sp => v4.load (i := 0)
  have l5 : ∀ sp, k5.load ⟨h.next, 0, sp⟩ = some (.int .u64 c) := fun sp => (w4.grow g5).load (i := 0)
  have l6 : ∀ sp, k5.load ⟨k.next, 0, sp⟩ = some (.int .i64 0) := fun sp => (v4.grow g5).load (i := 0)
  have q1 := zu (h := k4) T.len (show lenNS5 [.pointer none] = some (.int .i64 0) from rfl)
  have q2 := zu (h := k4) T.clone (show cloneNS [.pointer none] = some (.pointer none) from rfl)
  have q3 := zu (h := k4) T.enc (show encNS [.pointer none] = some (.string (strOf [0, 0, 0, 0])) from rfl)
  have q4 := zu (h := k4) T.same (show sameNS [.pointer none, .pointer none] = some (.bool true) from rfl)
  have q5 := zu (h := k5) T.same (show sameNS [.pointer none, .pointer (some a5)] = some (.bool false) from rfl)
  have q6 := zu (h := k5) T.key (show keyOfS [.string (strOf s)] = some (.string (strOf (107 :: s))) by simp only [keyOfS, zAY]; rw [if_pos hs])
  have q7 := zu (h := k5) T.rkey (show keyOfS [.string (strOf s)] = some (.string (strOf (107 :: s))) by simp only [keyOfS, zAY]; rw [if_pos hs])
  have q8 := zu (h := k5) T.nonce (show nonceS [.int .u64 c] = some (.string (strOf (110 :: numB c.toNat 8))) by simp only [nonceS]; rw [if_pos hc])
  have q9 := zu (h := k5) T.rnonce (show nonceS [.int .u64 c] = some (.string (strOf (110 :: numB c.toNat 8))) by simp only [nonceS]; rw [if_pos hc])
  refine zS (zT (zX (zW rfl ?_)))
  simp (maxSteps := 5000000) only [yq3.down, zB, lemS.down, lemC.down, Int.reduceBEq, Nat.reduceAdd, Nat.reduceLeDiff, reduceIte, Nat.reduceEqDiff, Int.reduceLT, Int.reduceLE, Int.reduceGT, Int.reduceGE, Int.reduceEq, Int.reduceAdd, Int.reduceSub, Int.reduceMul, reduceCtorEq, lemH.down, t1, t2, t5, t7, t9, t10, t11, t13, t14, Nat.add_zero, l4, l5, l6, q1, q2, q3, q4, q5, q6, q7, q8, q9, e9, eqX_pn, eqX_np, Option.isNone_none, beq_self_eq_true]
  refine ⟨?_, ?_⟩
  · (refine checkAt_eqG rfl rfl rfl ?_ ?_ <;> simp only [yq3.down, zB, lemS.down, lemC.down, Int.reduceBEq, Nat.reduceAdd, Nat.reduceLeDiff, reduceIte, Nat.reduceEqDiff, Int.reduceLT, Int.reduceLE, Int.reduceGT, Int.reduceGE, Int.reduceEq, Int.reduceAdd, Int.reduceSub, Int.reduceMul, reduceCtorEq, t2, lemH.down, Nat.add_zero, l5, r_load1V, load1V_p, r_loadNV, loadNV_p, aggV_some, Option.isSome_some])
  · (repeat (first | refine zX ?_ | refine zd ?_ | refine zk ?_ | refine zl ?_ | refine zT ?_ | refine zS ?_ | refine zc ?_ | refine zh ?_ | refine zY ?_ | refine za ?_ | refine zZ ?_ | refine zb (by decide) ?_ | refine zj ?_ | ((first | refine zi ?_ | refine zf ?_ | refine zg rfl rfl ?_ | refine zW rfl ?_ | refine ze ?_); simp only [yq3.down, zB, lemS.down, lemC.down, Int.reduceBEq, Nat.reduceAdd, Nat.reduceLeDiff, reduceIte, Nat.reduceEqDiff, Int.reduceLT, Int.reduceLE, Int.reduceGT, Int.reduceGE, Int.reduceEq, Int.reduceAdd, Int.reduceSub, Int.reduceMul, reduceCtorEq])))
    exact ⟨.inr rfl, by simp only [yq3.down, zB, lemS.down, lemC.down, Int.reduceBEq, Nat.reduceAdd, Nat.reduceLeDiff, reduceIte, Nat.reduceEqDiff, Int.reduceLT, Int.reduceLE, Int.reduceGT, Int.reduceGE, Int.reduceEq, Int.reduceAdd, Int.reduceSub, Int.reduceMul, reduceCtorEq], g1.trans (g2.trans (g3.trans (g4.trans g5)))⟩
end Go.X
end
section
open Go Go.X Go.Proofs Go.RowKit
namespace Go.X
set_option linter.unusedVariables false
def inHeap (n : Nat) : Heap := ⟨n, .leaf, .leaf⟩
theorem hrel_in {P : Program} {w : World} (L : List Loc) (hL : ∀ l ∈ L, l.b < w.heap.size) : HRel P w.heap.size (fun A => L[A]?) (inHeap L.length) w ∧ HWF (inHeap L.length) := by
  have hb : ∀ A, (inHeap L.length).blks.get A = none := fun A => PT.get_leaf A
  have hok : ∀ A c, ¬ (inHeap L.length).okCells A = some c := fun A c h => by have := (okCells_iff.1 h).1; rw [hb] at this; cases this
  refine ⟨⟨Nat.le_refl _, fun A l h => hL l (List.mem_of_getElem? h), fun A c h => (by rw [hb] at h; cases h), fun A c l h => absurd h (hok A c), fun A B c d l m _ h => absurd h (hok A c), fun A l es h => (by rw [hb] at h; cases h), fun A B es fs l m _ h => (by rw [hb] at h; cases h), ⟨L.length, fun A hA => List.getElem?_eq_none hA⟩, fun A c f l h => absurd h (hok A c),
    ⟨fun A l r h => (by rw [hb] at h; cases h), fun A B r s l m _ h => (by rw [hb] at h; cases h), fun A l ⟨c, h, _⟩ => (by rw [hb] at h; cases h), fun A l es es' cl h => (by rw [hb] at h; cases h)⟩⟩,
    ⟨fun A _ => ⟨hb A, PT.get_leaf A⟩, fun A c h => (by rw [hb] at h; cases h), fun A c f h => absurd h (hok A c)⟩⟩
theorem calls_of_comes_at {P : Program} {Pg : Prog} (ok : XOK P Pg) {f : Nat} {F : XF} {args args' : List Value} {v : Value} {h : Heap} {ρ : Ren} {w : World} (hr : HRel P w.heap.size ρ h w) (wf : HWF h) (hρ : ∀ A, h.next ≤ A → ρ A = none) (hp : Pg.prim f = none) (hF : Pg.code f = some F) (hn : args.length = F.nargs) (ha : LRel ρ args args') (hv : zn v = true) (hc : Comes Pg F args h v) :
    Calls P f args'.toArray w fun e w' => e = .returned v ∧ Below w.heap.size w w' := by
  obtain ⟨e, t', h1, hr', he, hres, hg⟩ := hc
  have h2 : cfi Pg f args h = some (v, h1) := cfi_code hp hF hn ⟨e, t', h1, hr', he, hres, rfl⟩
  obtain ⟨n, hn⟩ := cfi_run h2
  have h3 : call Pg n f args h = some (v, h1) := hn
  obtain ⟨_, _, h4⟩ := (call_cfok ok n).fn f args h v h1 h3
  refine (h4 w.heap.size ρ w args' hr wf (fun A hA _ => hρ A hA) ha).mono fun e w' hq => ?_
  obtain ⟨v', ρ', rfl, q1, q2, q3, q4⟩ := hq
  exact ⟨by rw [flat_eq hv q4], q3.below⟩
theorem isV_some {v : Value} {r : Option (Value × Heap)} (h : isV v r = true) : ∃ h', r = some (v, h') := by
  unfold isV at h
  split at h
  · rename_i x g
    exact ⟨g, by rw [sameV_eq h]⟩
  · cases h
def M1 : List (Nat × Prim) := (4, zF trueS) :: tabM
theorem encRun : isV (.string (strOf [0, 0, 0, 0])) (call (Tab Try.prog M1) 60 12 [.pointer none] Heap.empty) = true := by kernel_rfl
def M2 : List (Nat × Prim) := (12, zF encNS) :: M1
def M3 : List (Nat × Prim) := (5, zF getNS) :: M2
def M4 : List (Nat × Prim) := (6, zF getNS) :: M3
def M5 : List (Nat × Prim) := (7, zF lastNS) :: M4
def M6 : List (Nat × Prim) := (8, zF applyNS) :: M5
def M7 : List (Nat × Prim) := (10, zF lenNS5) :: M6
def M8 : List (Nat × Prim) := (11, zF cloneNS) :: M7
def M9 : List (Nat × Prim) := (13, zF sameNS) :: M8
def M10 : List (Nat × Prim) := (15, zF keyOfS) :: M9
def M11 : List (Nat × Prim) := (16, zF keyOfS) :: M10
def M12 : List (Nat × Prim) := (21, zF wnumS) :: M11
def M13 : List (Nat × Prim) := (33, zF wnumS) :: M12
def M14 : List (Nat × Prim) := (17, zF nonceS) :: M13
def M15 : List (Nat × Prim) := (18, zF nonceS) :: M14
theorem om1 : XOK Try.prog (Tab Try.prog M1) := Tab.closed okM fun args v h => by
  obtain ⟨rfl, rfl⟩ := nilary (s := trueS) (fun _ _ => rfl) rfl h
  obtain ⟨h', e⟩ := isV_some getP05b
  exact ⟨rfl, rfl, 400, h', e⟩
theorem om2 : XOK Try.prog (Tab Try.prog M2) := Tab.closed om1 fun args v h => by
  unfold encNS at h
  split at h
  · cases h
    obtain ⟨h', e⟩ := isV_some encRun
    exact ⟨rfl, rfl, 60, h', e⟩
  · cases h
theorem om3 : XOK Try.prog (Tab Try.prog M3) := Tab.pure om2 Try.func5 cq5 fun args v h => ⟨(getNS_ok h).1, (getNS_ok h).2.1, fun g => (getNS_ok h).2.2.1 _ g⟩
theorem om4 : XOK Try.prog (Tab Try.prog M4) := Tab.pure om3 Try.func6 cq6 fun args v h => ⟨(getNS_ok h).1, (getNS_ok h).2.1, fun g => (getNS_ok h).2.2.2 _ g⟩
theorem om5 : XOK Try.prog (Tab Try.prog M5) := Tab.pure om4 Try.func7 cq7 fun args v h => ⟨(lastNS_ok h).1, (lastNS_ok h).2.1, fun g => (lastNS_ok h).2.2 _ g⟩
theorem om6 : XOK Try.prog (Tab Try.prog M6) := Tab.pure om5 Try.func8 cq8 fun args v h => ⟨(applyNS_ok h).1, (applyNS_ok h).2.1, fun g => (applyNS_ok h).2.2 _ g⟩
theorem om7 : XOK Try.prog (Tab Try.prog M7) := Tab.pure om6 Try.func10 cq10 fun args v h => ⟨(lenNS5_ok h).1, (lenNS5_ok h).2.1, fun g => (lenNS5_ok h).2.2 _ g⟩
theorem om8 : XOK Try.prog (Tab Try.prog M8) := Tab.pure om7 Try.func11 cq11 fun args v h => ⟨(cloneNS_ok h).1, (cloneNS_ok h).2.1, fun g => (cloneNS_ok h).2.2 _ g⟩
theorem om9 : XOK Try.prog (Tab Try.prog M9) := Tab.pure om8 Try.func13 cq13 fun args v h => ⟨(sameNS_ok h).1, (sameNS_ok h).2.1, fun g => (sameNS_ok h).2.2 _ g⟩
theorem om10 : XOK Try.prog (Tab Try.prog M10) := Tab.pure om9 Try.func15 cq15 fun args v h => ⟨(zAR h).1, (zAR h).2.1, fun g => (zAR h).2.2.1 _ g⟩
theorem om11 : XOK Try.prog (Tab Try.prog M11) := Tab.pure om10 Try.func16 cq16 fun args v h => ⟨(zAR h).1, (zAR h).2.1, fun g => (zAR h).2.2.2 _ g⟩
theorem om12 : XOK Try.prog (Tab Try.prog M12) := Tab.pure om11 Try.func21 cq21 fun args v h => ⟨(wnumS_ok h).1, (wnumS_ok h).2.1, fun g => (wnumS_ok h).2.2 _ g⟩
theorem om13 : XOK Try.prog (Tab Try.prog M13) := Tab.pure om12 Try.func33 cq33 fun args v h => by
  unfold wnumS at h
  split at h
  · rename_i n k
    split at h
    · rename_i hc
      cases h
      refine ⟨rfl, rfl, fun g => ?_⟩
      have := num3_ok (Tab Try.prog M12) rfl (codeAt Try.func33 cq33) k.toNat n.toNat g (by omega) (by omega)
      rw [show (k.toNat : Int) = k by omega] at this
      have e : uw .u64 n.toNat = .int .u64 n := by unfold uw; rw [u64_bits, Nat.mod_eq_of_lt (by omega)]; congr 1; omega
      rw [e] at this
      exact this
    · cases h
  · cases h
theorem om14 : XOK Try.prog (Tab Try.prog M14) := Tab.pure om13 Try.func17 cq17 fun args v h => ⟨(zAS h).1, (zAS h).2.1, fun g => (zAS h).2.2.1 _ g rfl⟩
theorem om15 : XOK Try.prog (Tab Try.prog M15) := Tab.pure om14 Try.func18 cq18 fun args v h => ⟨(zAS h).1, (zAS h).2.1, fun g => (zAS h).2.2.2 _ g rfl⟩
theorem n05 : N05 (Tab Try.prog M15) := ⟨rfl, rfl, rfl, rfl, rfl, rfl, rfl, rfl, rfl, rfl, rfl, rfl, rfl, ⟨rfl, codeAt Try.func9 cq9⟩, ⟨rfl, codeAt Try.func25 cq25⟩, ⟨rfl, codeAt Try.func14 cq14⟩⟩
def InSlice (w : World) (sv : Value) : Prop := sv = .slice none 0 0 ∨ ∃ a len cap, sv = .slice (some a) len cap ∧ a.spot = none ∧ len ≤ cap ∧ a.block < w.heap.size
theorem walkStateNil (c n : Int) (sv : Value) (s : ByteArray) (w : World) (hc : 0 ≤ c ∧ c < 18446744073709551616) (hs : s.data.toList.length + 1 ≤ roomX) (hsv : InSlice w sv) :
    Calls Try.prog 3 #[.agg #[.int .u64 c, .int .u64 n, sv], .string s] w fun e w' => e = .returned (.bool true) ∧ Below w.heap.size w w' := by
  have key : ∀ (L : List Loc) (x : Value), (∀ l ∈ L, l.b < w.heap.size) → oneC x = true → VRel (fun A => L[A]?) x sv → Calls Try.prog 3 #[.agg #[.int .u64 c, .int .u64 n, sv], .string s] w fun e w' => e = .returned (.bool true) ∧ Below w.heap.size w w' := fun L x hL h1 hx => by
    obtain ⟨r1, r2⟩ := hrel_in (P := Try.prog) L hL
    have := StateNil_ok _ n05 (inHeap L.length) c n x s.data.toList hc hs h1
    rw [str_of] at this
    exact calls_of_comes_at om15 r1 r2 (fun A hA => List.getElem?_eq_none hA) rfl (codeAt Try.func3 cq3) rfl (.cons (VRel.agg_ofL (.cons (.int _ _) (.cons (.int _ _) (.cons hx .nil)))) (.cons (.string _) .nil)) rfl this
  rcases hsv with rfl | ⟨⟨b, o, sp⟩, len, cap, rfl, hsp, hle, hb⟩
  · exact key [] (.slice none 0 0) (by simp) rfl .nilslice
  · have hsp : sp = none := hsp
    subst hsp
    refine key [⟨b, 0, 0⟩] (.slice (some ⟨0, o, none⟩) len cap) (by simpa using hb) rfl ?_
    exact VRel.slice (l := ⟨b, 0, 0⟩) rfl hle (Nat.le_refl _) (fun _ => by simp) (fun _ => rfl) (fun q hq => by cases hq)
end Go.X
end
