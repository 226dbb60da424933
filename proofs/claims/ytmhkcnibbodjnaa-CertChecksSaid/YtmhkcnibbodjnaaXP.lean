/- Headers, of the program and of the document. -/
import Derived.Test.YtmhkcnibbodjnaaProg
import Derived.KernelRfl
import Derived.Test.YtmhkcnibbodjnaaXC
import Derived.Test.YtmhkcnibbodjnaaXN
set_option linter.unusedSimpArgs false
set_option linter.unusedVariables false
set_option maxHeartbeats 2000000
section
namespace Go.X
open Go.Proofs
abbrev xq82_0l : List XO := [
  ⟨some 2, .p (.mov (C (.bool false))), none⟩]
def xq82_0 : List XO := xq82_0l
theorem xq82_0e : E3 xq82_0 xq82_0l := E3.rfl
abbrev xq82_1l : List XO := [
  ⟨some 5, .p (.mov (T 0)), none⟩,
  ⟨some 6, .p (.lenV (T 5)), none⟩,
  ⟨some 7, .p (.mov (C (.int .i64 0))), none⟩]
def xq82_1 : List XO := xq82_1l
theorem xq82_1e : E3 xq82_1 xq82_1l := E3.rfl
abbrev xq82_2l : List XO := [
  ⟨some 8, .p (.bin .lss (T 7) (T 6)), none⟩]
def xq82_2 : List XO := xq82_2l
theorem xq82_2e : E3 xq82_2 xq82_2l := E3.rfl
abbrev xq82_3l : List XO := [
  ⟨some 9, .p (.mov (T 7)), none⟩,
  ⟨some 10, .p (.iaddrS 1 (T 5) (T 7)), none⟩,
  ⟨some 11, .r (.load1 (T 10)), none⟩,
  ⟨some 3, .p (.mov (T 9)), none⟩,
  ⟨some 4, .p (.mov (T 11)), none⟩]
def xq82_3 : List XO := xq82_3l
theorem xq82_3e : E3 xq82_3 xq82_3l := E3.rfl
abbrev xq82_4l : List XO := [
  ⟨some 12, .p (.mov (T 4)), none⟩,
  ⟨some 13, .p (.bin .lss (T 12) (C (.int .i64 0))), none⟩,
  ⟨some 14, .p (.mov (T 13)), none⟩,
  ⟨some 15, .p (.mov (T 4)), some (14, false)⟩,
  ⟨some 16, .p (.bin .geq (T 15) (C (.int .i64 16))), some (14, false)⟩,
  ⟨some 17, .p (.pick (T 14) (C (.bool true)) (T 16)), none⟩,
  ⟨some 18, .p (.mov (T 17)), none⟩,
  ⟨some 19, .p (.mov (T 3)), some (18, false)⟩,
  ⟨some 20, .p (.bin .gtr (T 19) (C (.int .i64 0))), some (18, false)⟩,
  ⟨some 21, .p (.mov (T 20)), some (18, false)⟩,
  ⟨some 22, .p (.mov (T 0)), some (21, true)⟩,
  ⟨some 23, .p (.mov (T 3)), some (21, true)⟩,
  ⟨some 24, .p (.bin .sub (T 23) (C (.int .i64 1))), some (21, true)⟩,
  ⟨some 25, .p (.iaddrS 1 (T 22) (T 24)), some (21, true)⟩,
  ⟨some 26, .r (.load1 (T 25)), some (21, true)⟩,
  ⟨some 27, .p (.mov (T 4)), some (21, true)⟩,
  ⟨some 28, .p (.bin .geq (T 26) (T 27)), some (21, true)⟩,
  ⟨some 29, .p (.pick (T 21) (T 28) (C (.bool false))), some (18, false)⟩,
  ⟨some 30, .p (.pick (T 18) (C (.bool true)) (T 29)), none⟩]
def xq82_4 : List XO := xq82_4l
theorem xq82_4e : E3 xq82_4 xq82_4l := E3.rfl
abbrev xq82_5l : List XO := [
  ⟨some 2, .p (.mov (C (.bool false))), none⟩]
def xq82_5 : List XO := xq82_5l
theorem xq82_5e : E3 xq82_5 xq82_5l := E3.rfl
abbrev xq82_6l : List XO := [
  ⟨some 31, .p (.bin .add (T 7) (C (.int .i64 1))), none⟩,
  ⟨some 7, .p (.mov (T 31)), none⟩]
def xq82_6 : List XO := xq82_6l
theorem xq82_6e : E3 xq82_6 xq82_6l := E3.rfl
def xq82_7b : XC :=
  .seq (.ops xq82_2) (.seq (.cond (T 8) (.skip) (.exit 0)) (.seq (.block 1 (.seq (.ops xq82_3) (.seq (.ops xq82_4) (.cond (T 30) (.seq (.ops xq82_5) (.ret)) (.skip))))) (.ops xq82_6)))
def xq82_7 : XC := xq82_7b
theorem xq82_7k {pr : Prog} {k : List KI} {Q : XE → Fr → Heap → Prop} {t : Fr} {h : Heap} (hw : wpk pr xq82_7b k Q t h) : wpk pr xq82_7 k Q t h := hw
abbrev xq82_8l : List XO := [
  ⟨some 32, .p (.mov (T 0)), none⟩,
  ⟨some 33, .p (.lenV (T 32)), none⟩,
  ⟨some 34, .p (.bin .geq (T 33) (C (.int .i64 1))), none⟩,
  ⟨some 2, .p (.mov (T 34)), none⟩]
def xq82_8 : List XO := xq82_8l
theorem xq82_8e : E3 xq82_8 xq82_8l := E3.rfl
def xq82 : XF := ⟨1, [.tmp 2],
  .seq (.ops xq82_0) (.seq (.seq (.ops xq82_1) (.block 0 (.loop xq82_7))) (.seq (.ops xq82_8) (.ret)))⟩
def yq82 := PLift.up (And.intro (And.intro (And.intro (@xq82_0e) (@xq82_1e)) (And.intro (@xq82_2e) (@xq82_3e))) (And.intro (And.intro (@xq82_4e) (@xq82_5e)) (And.intro (@xq82_6e) (@xq82_8e))))
theorem cq82 : zc Try.prog Try.f82 = some xq82 := by kernel_rfl
abbrev xq75_0l : List XO := [
  ⟨some 1, .a (.box (T 0)), none⟩,
  ⟨some 2, .p (.mov (C (.int .i64 0))), none⟩]
def xq75_0 : List XO := xq75_0l
theorem xq75_0e : E3 xq75_0 xq75_0l := E3.rfl
abbrev xq75_1l : List XO := [
  ⟨some 3, .p (.faddr 0 (T 1)), none⟩,
  ⟨some 4, .r (.load1 (T 3)), none⟩,
  ⟨some 5, .p (.bin .lss (T 4) (C (.int .u64 1))), none⟩,
  ⟨some 6, .p (.mov (T 5)), none⟩,
  ⟨some 7, .p (.faddr 1 (T 1)), some (6, false)⟩,
  ⟨some 8, .r (.load1 (T 7)), some (6, false)⟩,
  ⟨some 9, .p (.lenS (T 8)), some (6, false)⟩,
  ⟨some 10, .p (.eql true .int (T 9) (C (.int .i64 32))), some (6, false)⟩,
  ⟨some 11, .p (.pick (T 6) (C (.bool true)) (T 10)), none⟩,
  ⟨some 12, .p (.mov (T 11)), none⟩,
  ⟨some 13, .p (.faddr 2 (T 1)), some (12, false)⟩,
  ⟨some 14, .r (.load1 (T 13)), some (12, false)⟩,
  ⟨some 15, .p (.lenS (T 14)), some (12, false)⟩,
  ⟨some 16, .p (.eql true .int (T 15) (C (.int .i64 32))), some (12, false)⟩,
  ⟨some 17, .p (.pick (T 12) (C (.bool true)) (T 16)), none⟩,
  ⟨some 18, .p (.mov (T 17)), none⟩,
  ⟨some 19, .p (.faddr 3 (T 1)), some (18, false)⟩,
  ⟨some 20, .r (.load1 (T 19)), some (18, false)⟩,
  ⟨some 21, .p (.lenS (T 20)), some (18, false)⟩,
  ⟨some 22, .p (.eql true .int (T 21) (C (.int .i64 32))), some (18, false)⟩,
  ⟨some 23, .p (.pick (T 18) (C (.bool true)) (T 22)), none⟩,
  ⟨some 24, .p (.mov (T 23)), none⟩,
  ⟨some 25, .p (.faddr 4 (T 1)), some (24, false)⟩,
  ⟨some 26, .r (.load1 (T 25)), some (24, false)⟩,
  ⟨some 27, .call (.func 82) [(T 26)], some (24, false)⟩,
  ⟨some 28, .p (.un .not (T 27)), some (24, false)⟩,
  ⟨some 29, .p (.pick (T 24) (C (.bool true)) (T 28)), none⟩]
def xq75_1 : List XO := xq75_1l
theorem xq75_1e : E3 xq75_1 xq75_1l := E3.rfl
abbrev xq75_2l : List XO := [
  ⟨some 2, .p (.mov (C (.int .i64 80))), none⟩]
def xq75_2 : List XO := xq75_2l
theorem xq75_2e : E3 xq75_2 xq75_2l := E3.rfl
abbrev xq75_3l : List XO := [
  ⟨some 2, .p (.mov (C (.int .i64 0))), none⟩]
def xq75_3 : List XO := xq75_3l
theorem xq75_3e : E3 xq75_3 xq75_3l := E3.rfl
def xq75 : XF := ⟨1, [.tmp 2],
  .seq (.ops xq75_0) (.seq (.seq (.ops xq75_1) (.cond (T 29) (.seq (.ops xq75_2) (.ret)) (.skip))) (.seq (.ops xq75_3) (.ret)))⟩
def yq75 := PLift.up (And.intro (And.intro (@xq75_0e) (@xq75_1e)) (And.intro (@xq75_2e) (@xq75_3e)))
theorem cq75 : zc Try.prog Try.f75 = some xq75 := by kernel_rfl
abbrev xq124_0l : List XO := [
  ⟨some 6, .p (.mov (T 0)), none⟩,
  ⟨some 7, .p (.mov (T 1)), none⟩,
  ⟨some 8, .p (.lenV (T 7)), none⟩,
  ⟨some 9, .p (.cint .u64 (T 8)), none⟩,
  ⟨some 10, .call (.func 66) [(T 6), (T 9), (C (.int .i64 1))], none⟩]
def xq124_0 : List XO := xq124_0l
theorem xq124_0e : E3 xq124_0 xq124_0l := E3.rfl
abbrev xq124_1l : List XO := [
  ⟨some 11, .p (.mov (T 1)), none⟩,
  ⟨some 12, .p (.lenV (T 11)), none⟩,
  ⟨some 13, .p (.mov (C (.int .i64 0))), none⟩]
def xq124_1 : List XO := xq124_1l
theorem xq124_1e : E3 xq124_1 xq124_1l := E3.rfl
abbrev xq124_2l : List XO := [
  ⟨some 14, .p (.bin .lss (T 13) (T 12)), none⟩]
def xq124_2 : List XO := xq124_2l
theorem xq124_2e : E3 xq124_2 xq124_2l := E3.rfl
abbrev xq124_3l : List XO := [
  ⟨some 15, .p (.iaddrS 1 (T 11) (T 13)), none⟩,
  ⟨some 16, .r (.load1 (T 15)), none⟩,
  ⟨some 5, .p (.mov (T 16)), none⟩]
def xq124_3 : List XO := xq124_3l
theorem xq124_3e : E3 xq124_3 xq124_3l := E3.rfl
abbrev xq124_4l : List XO := [
  ⟨some 17, .p (.mov (T 0)), none⟩,
  ⟨some 18, .p (.mov (T 5)), none⟩,
  ⟨some 19, .p (.cint .u64 (T 18)), none⟩,
  ⟨some 20, .call (.func 66) [(T 17), (T 19), (C (.int .i64 1))], none⟩]
def xq124_4 : List XO := xq124_4l
theorem xq124_4e : E3 xq124_4 xq124_4l := E3.rfl
abbrev xq124_5l : List XO := [
  ⟨some 21, .p (.bin .add (T 13) (C (.int .i64 1))), none⟩,
  ⟨some 13, .p (.mov (T 21)), none⟩]
def xq124_5 : List XO := xq124_5l
theorem xq124_5e : E3 xq124_5 xq124_5l := E3.rfl
def xq124_6b : XC :=
  .seq (.ops xq124_2) (.seq (.cond (T 14) (.skip) (.exit 0)) (.seq (.block 1 (.seq (.ops xq124_3) (.ops xq124_4))) (.ops xq124_5)))
def xq124_6 : XC := xq124_6b
theorem xq124_6k {pr : Prog} {k : List KI} {Q : XE → Fr → Heap → Prop} {t : Fr} {h : Heap} (hw : wpk pr xq124_6b k Q t h) : wpk pr xq124_6 k Q t h := hw
def xq124 : XF := ⟨2, [],
  .seq (.ops xq124_0) (.seq (.ops xq124_1) (.block 0 (.loop xq124_6)))⟩
def yq124 := PLift.up (And.intro (And.intro (@xq124_0e) (And.intro (@xq124_1e) (@xq124_2e))) (And.intro (@xq124_3e) (And.intro (@xq124_4e) (@xq124_5e))))
theorem cq124 : zc Try.prog Try.f124 = some xq124 := by kernel_rfl
abbrev xq111_0l : List XO := [
  ⟨some 3, .a (.box (T 1)), none⟩]
def xq111_0 : List XO := xq111_0l
theorem xq111_0e : E3 xq111_0 xq111_0l := E3.rfl
abbrev xq111_1l : List XO := [
  ⟨some 4, .p (.mov (T 0)), none⟩,
  ⟨some 5, .p (.faddr 0 (T 3)), none⟩,
  ⟨some 6, .r (.load1 (T 5)), none⟩,
  ⟨some 7, .call (.func 66) [(T 4), (T 6), (C (.int .i64 8))], none⟩]
def xq111_1 : List XO := xq111_1l
theorem xq111_1e : E3 xq111_1 xq111_1l := E3.rfl
abbrev xq111_2l : List XO := [
  ⟨some 8, .p (.mov (T 0)), none⟩,
  ⟨some 9, .p (.faddr 1 (T 3)), none⟩,
  ⟨some 10, .r (.load1 (T 9)), none⟩,
  ⟨some 11, .call (.func 68) [(T 8), (T 10)], none⟩]
def xq111_2 : List XO := xq111_2l
theorem xq111_2e : E3 xq111_2 xq111_2l := E3.rfl
abbrev xq111_3l : List XO := [
  ⟨some 12, .p (.mov (T 0)), none⟩,
  ⟨some 13, .p (.faddr 2 (T 3)), none⟩,
  ⟨some 14, .r (.load1 (T 13)), none⟩,
  ⟨some 15, .call (.func 68) [(T 12), (T 14)], none⟩]
def xq111_3 : List XO := xq111_3l
theorem xq111_3e : E3 xq111_3 xq111_3l := E3.rfl
abbrev xq111_4l : List XO := [
  ⟨some 16, .p (.mov (T 0)), none⟩,
  ⟨some 17, .p (.faddr 3 (T 3)), none⟩,
  ⟨some 18, .r (.load1 (T 17)), none⟩,
  ⟨some 19, .call (.func 68) [(T 16), (T 18)], none⟩]
def xq111_4 : List XO := xq111_4l
theorem xq111_4e : E3 xq111_4 xq111_4l := E3.rfl
abbrev xq111_5l : List XO := [
  ⟨some 20, .p (.mov (T 0)), none⟩,
  ⟨some 21, .p (.faddr 4 (T 3)), none⟩,
  ⟨some 22, .r (.load1 (T 21)), none⟩,
  ⟨some 23, .call (.func 124) [(T 20), (T 22)], none⟩]
def xq111_5 : List XO := xq111_5l
theorem xq111_5e : E3 xq111_5 xq111_5l := E3.rfl
def xq111 : XF := ⟨2, [],
  .seq (.ops xq111_0) (.seq (.ops xq111_1) (.seq (.ops xq111_2) (.seq (.ops xq111_3) (.seq (.ops xq111_4) (.ops xq111_5)))))⟩
def yq111 := PLift.up (And.intro (And.intro (@xq111_0e) (And.intro (@xq111_1e) (@xq111_2e))) (And.intro (@xq111_3e) (And.intro (@xq111_4e) (@xq111_5e))))
theorem cq111 : zc Try.prog Try.f111 = some xq111 := by kernel_rfl
abbrev xq95_0l : List XO := [
  ⟨some 1, .a (.box (T 0)), none⟩,
  ⟨some 2, .p (.mov (C (.string (zB [])))), none⟩]
def xq95_0 : List XO := xq95_0l
theorem xq95_0e : E3 xq95_0 xq95_0l := E3.rfl
abbrev xq95_1l : List XO := [
  ⟨some 4, .call (.func 51) [], none⟩,
  ⟨some 3, .p (.mov (T 4)), none⟩]
def xq95_1 : List XO := xq95_1l
theorem xq95_1e : E3 xq95_1 xq95_1l := E3.rfl
abbrev xq95_2l : List XO := [
  ⟨some 5, .p (.mov (T 3)), none⟩,
  ⟨some 6, .r (.loadN 5 (T 1)), none⟩,
  ⟨some 7, .call (.func 111) [(T 5), (T 6)], none⟩]
def xq95_2 : List XO := xq95_2l
theorem xq95_2e : E3 xq95_2 xq95_2l := E3.rfl
abbrev xq95_3l : List XO := [
  ⟨some 8, .p (.mov (T 3)), none⟩,
  ⟨some 9, .call (.func 53) [(T 8)], none⟩,
  ⟨some 10, .a (.bslice [(.string (zB []))] 1 [(0, 1, (T 9))]), none⟩,
  ⟨some 11, .call (.func 64) [(C (.int .u8 72)), (T 10)], none⟩,
  ⟨some 2, .p (.mov (T 11)), none⟩]
def xq95_3 : List XO := xq95_3l
theorem xq95_3e : E3 xq95_3 xq95_3l := E3.rfl
def xq95 : XF := ⟨1, [.tmp 2],
  .seq (.ops xq95_0) (.seq (.ops xq95_1) (.seq (.ops xq95_2) (.seq (.ops xq95_3) (.ret))))⟩
def yq95 := PLift.up (And.intro (And.intro (@xq95_0e) (@xq95_1e)) (And.intro (@xq95_2e) (@xq95_3e)))
theorem cq95 : zc Try.prog Try.f95 = some xq95 := by kernel_rfl
abbrev xq76_0l : List XO := [
  ⟨some 1, .a (.box (T 0)), none⟩,
  ⟨some 2, .p (.mov (C (.string (zB [])))), none⟩]
def xq76_0 : List XO := xq76_0l
theorem xq76_0e : E3 xq76_0 xq76_0l := E3.rfl
abbrev xq76_1l : List XO := [
  ⟨some 3, .r (.loadN 5 (T 1)), none⟩,
  ⟨some 4, .call (.func 95) [(T 3)], none⟩,
  ⟨some 5, .a (.bslice [(.string (zB []))] 1 [(0, 1, (T 4))]), none⟩,
  ⟨some 6, .call (.func 64) [(C (.int .u8 67)), (T 5)], none⟩,
  ⟨some 2, .p (.mov (T 6)), none⟩]
def xq76_1 : List XO := xq76_1l
theorem xq76_1e : E3 xq76_1 xq76_1l := E3.rfl
def xq76 : XF := ⟨1, [.tmp 2],
  .seq (.ops xq76_0) (.seq (.ops xq76_1) (.ret))⟩
def yq76 := PLift.up (And.intro (@xq76_0e) (@xq76_1e))
theorem cq76 : zc Try.prog Try.f76 = some xq76 := by kernel_rfl
abbrev xq41_0l : List XO := [
  ⟨some 5, .a (.box (T 2)), none⟩,
  ⟨some 6, .a (.alloc [(.int .i64 0), (.string (zB []))]), none⟩,
  ⟨some 7, .p (.mov (C (.int .i64 0))), none⟩]
def xq41_0 : List XO := xq41_0l
theorem xq41_0e : E3 xq41_0 xq41_0l := E3.rfl
abbrev xq41_1l : List XO := [
  ⟨some 11, .r (.loadN 5 (T 5)), none⟩,
  ⟨some 12, .call (.func 75) [(T 11)], none⟩,
  ⟨some 8, .p (.mov (T 12)), none⟩]
def xq41_1 : List XO := xq41_1l
theorem xq41_1e : E3 xq41_1 xq41_1l := E3.rfl
abbrev xq41_2l : List XO := [
  ⟨some 13, .p (.mov (T 8)), none⟩,
  ⟨some 14, .p (.eql true .int (T 13) (C (.int .i64 0))), none⟩]
def xq41_2 : List XO := xq41_2l
theorem xq41_2e : E3 xq41_2 xq41_2l := E3.rfl
abbrev xq41_3l : List XO := [
  ⟨some 15, .p (.build [(.int .i64 0), (.string (zB []))] []), none⟩,
  ⟨some 16, .p (.mov (T 8)), none⟩,
  ⟨none, .e (.store 2 (T 6) (T 15)), none⟩,
  ⟨some 7, .p (.mov (T 16)), none⟩]
def xq41_3 : List XO := xq41_3l
theorem xq41_3e : E3 xq41_3 xq41_3l := E3.rfl
abbrev xq41_4l : List XO := [
  ⟨some 18, .p (.mov (T 0)), none⟩,
  ⟨some 19, .p (.mov (T 1)), none⟩,
  ⟨some 20, .r (.loadN 5 (T 5)), none⟩,
  ⟨some 21, .call (.func 76) [(T 20)], none⟩,
  ⟨some 22, .call (.func 24) [(T 18), (T 19), (T 21)], none⟩,
  ⟨some 17, .p (.mov (T 22)), none⟩,
  ⟨some 23, .p (.ext (T 17) 0), none⟩,
  ⟨some 24, .p (.ext (T 17) 1), none⟩,
  ⟨some 9, .p (.mov (T 23)), none⟩,
  ⟨some 10, .p (.mov (T 24)), none⟩]
def xq41_4 : List XO := xq41_4l
theorem xq41_4e : E3 xq41_4 xq41_4l := E3.rfl
abbrev xq41_5l : List XO := [
  ⟨some 25, .p (.mov (T 10)), none⟩,
  ⟨some 26, .p (.eql true .int (T 25) (C (.int .i64 0))), none⟩]
def xq41_5 : List XO := xq41_5l
theorem xq41_5e : E3 xq41_5 xq41_5l := E3.rfl
abbrev xq41_6l : List XO := [
  ⟨some 27, .p (.build [(.int .i64 0), (.string (zB []))] []), none⟩,
  ⟨some 28, .p (.mov (T 10)), none⟩,
  ⟨none, .e (.store 2 (T 6) (T 27)), none⟩,
  ⟨some 7, .p (.mov (T 28)), none⟩]
def xq41_6 : List XO := xq41_6l
theorem xq41_6e : E3 xq41_6 xq41_6l := E3.rfl
abbrev xq41_7l : List XO := [
  ⟨some 29, .p (.mov (T 1)), none⟩,
  ⟨some 30, .p (.mov (T 9)), none⟩,
  ⟨some 31, .p (.build [(.int .i64 0), (.string (zB []))] [(0, 1, (T 29)), (1, 1, (T 30))]), none⟩,
  ⟨none, .e (.store 2 (T 6) (T 31)), none⟩,
  ⟨some 7, .p (.mov (C (.int .i64 0))), none⟩]
def xq41_7 : List XO := xq41_7l
theorem xq41_7e : E3 xq41_7 xq41_7l := E3.rfl
def xq41 : XF := ⟨3, [.cellN 6 2, .tmp 7],
  .seq (.ops xq41_0) (.seq (.seq (.ops xq41_1) (.seq (.ops xq41_2) (.cond (T 14) (.seq (.ops xq41_3) (.ret)) (.skip)))) (.seq (.ops xq41_4) (.seq (.seq (.ops xq41_5) (.cond (T 26) (.seq (.ops xq41_6) (.ret)) (.skip))) (.seq (.ops xq41_7) (.ret)))))⟩
def yq41 := PLift.up (And.intro (And.intro (And.intro (@xq41_0e) (@xq41_1e)) (And.intro (@xq41_2e) (@xq41_3e))) (And.intro (And.intro (@xq41_4e) (@xq41_5e)) (And.intro (@xq41_6e) (@xq41_7e))))
theorem cq41 : zc Try.prog Try.f41 = some xq41 := by kernel_rfl
abbrev xq46_0l : List XO := [
  ⟨some 4, .a (.box (T 1)), none⟩,
  ⟨some 5, .a (.box (T 2)), none⟩,
  ⟨some 6, .p (.mov (C (.bool false))), none⟩]
def xq46_0 : List XO := xq46_0l
theorem xq46_0e : E3 xq46_0 xq46_0l := E3.rfl
abbrev xq46_1l : List XO := [
  ⟨some 7, .r (.loadN 5 (T 4)), none⟩,
  ⟨some 8, .call (.func 75) [(T 7)], none⟩,
  ⟨some 9, .p (.eql false .int (T 8) (C (.int .i64 0))), none⟩,
  ⟨some 10, .p (.mov (T 9)), none⟩,
  ⟨some 11, .p (.mov (T 0)), some (10, true)⟩,
  ⟨some 12, .p (.faddr 0 (T 5)), some (10, true)⟩,
  ⟨some 13, .r (.load1 (T 12)), some (10, true)⟩,
  ⟨some 14, .r (.loadN 5 (T 4)), some (10, true)⟩,
  ⟨some 15, .call (.func 76) [(T 14)], some (10, true)⟩,
  ⟨some 16, .p (.faddr 1 (T 5)), some (10, true)⟩,
  ⟨some 17, .r (.load1 (T 16)), some (10, true)⟩,
  ⟨some 18, .call (.func 26) [(T 11), (T 13), (T 15), (T 17)], some (10, true)⟩,
  ⟨some 19, .p (.pick (T 10) (T 18) (C (.bool false))), none⟩,
  ⟨some 6, .p (.mov (T 19)), none⟩]
def xq46_1 : List XO := xq46_1l
theorem xq46_1e : E3 xq46_1 xq46_1l := E3.rfl
def xq46 : XF := ⟨3, [.tmp 6],
  .seq (.ops xq46_0) (.seq (.draw xq46_1 [(6, (11, [])), (10, (8, []))]) (.ret))⟩
def yq46 := PLift.up (And.intro (@xq46_0e) (@xq46_1e))
theorem cq46 : zc Try.prog Try.f46 = some xq46 := by kernel_rfl
abbrev xq79_0l : List XO := [
  ⟨some 2, .a (.box (T 0)), none⟩,
  ⟨some 4, .p (.mov (C (.int .i64 0))), none⟩,
  ⟨some 5, .p (.mov (C (.bool false))), none⟩]
def xq79_0 : List XO := xq79_0l
theorem xq79_0e : E3 xq79_0 xq79_0l := E3.rfl
abbrev xq79_1l : List XO := [
  ⟨some 6, .p (.faddr 0 (T 2)), none⟩,
  ⟨some 7, .r (.load1 (T 6)), none⟩,
  ⟨some 8, .p (.mov (T 1)), none⟩,
  ⟨some 9, .call (.func 97) [(T 7), (T 8), (.func 98)], none⟩,
  ⟨some 10, .p (.ext (T 9) 0), none⟩,
  ⟨some 11, .p (.ext (T 9) 1), none⟩,
  ⟨some 4, .p (.mov (T 10)), none⟩,
  ⟨some 5, .p (.mov (T 11)), none⟩]
def xq79_1 : List XO := xq79_1l
theorem xq79_1e : E3 xq79_1 xq79_1l := E3.rfl
def xq79 : XF := ⟨2, [.tmp 4, .tmp 5],
  .seq (.ops xq79_0) (.seq (.ops xq79_1) (.ret))⟩
def yq79 := PLift.up (And.intro (@xq79_0e) (@xq79_1e))
theorem cq79 : zc Try.prog Try.f79 = some xq79 := by kernel_rfl
abbrev xq98_0l : List XO := [
  ⟨some 2, .a (.box (T 0)), none⟩,
  ⟨some 4, .p (.mov (C (.int .i64 0))), none⟩]
def xq98_0 : List XO := xq98_0l
theorem xq98_0e : E3 xq98_0 xq98_0l := E3.rfl
abbrev xq98_1l : List XO := [
  ⟨some 5, .p (.faddr 0 (T 2)), none⟩,
  ⟨some 6, .r (.load1 (T 5)), none⟩,
  ⟨some 7, .p (.mov (T 1)), none⟩,
  ⟨some 8, .call (.func 99) [(T 6), (T 7)], none⟩,
  ⟨some 4, .p (.mov (T 8)), none⟩]
def xq98_1 : List XO := xq98_1l
theorem xq98_1e : E3 xq98_1 xq98_1l := E3.rfl
def xq98 : XF := ⟨2, [.tmp 4],
  .seq (.ops xq98_0) (.seq (.ops xq98_1) (.ret))⟩
def yq98 := PLift.up (And.intro (@xq98_0e) (@xq98_1e))
theorem cq98 : zc Try.prog Try.f98 = some xq98 := by kernel_rfl
abbrev xq99_0l : List XO := [
  ⟨some 4, .p (.mov (C (.int .i64 0))), none⟩]
def xq99_0 : List XO := xq99_0l
theorem xq99_0e : E3 xq99_0 xq99_0l := E3.rfl
abbrev xq99_1l : List XO := [
  ⟨some 7, .p (.mov (T 0)), none⟩,
  ⟨some 8, .call (.func 114) [(T 7)], none⟩,
  ⟨some 5, .p (.mov (T 8)), none⟩]
def xq99_1 : List XO := xq99_1l
theorem xq99_1e : E3 xq99_1 xq99_1l := E3.rfl
abbrev xq99_2l : List XO := [
  ⟨some 9, .p (.mov (T 1)), none⟩,
  ⟨some 10, .call (.func 114) [(T 9)], none⟩,
  ⟨some 6, .p (.mov (T 10)), none⟩]
def xq99_2 : List XO := xq99_2l
theorem xq99_2e : E3 xq99_2 xq99_2l := E3.rfl
abbrev xq99_3l : List XO := [
  ⟨some 11, .p (.mov (T 5)), none⟩]
def xq99_3 : List XO := xq99_3l
theorem xq99_3e : E3 xq99_3 xq99_3l := E3.rfl
abbrev xq99_4l : List XO := [
  ⟨some 12, .p (.mov (T 6)), none⟩]
def xq99_4 : List XO := xq99_4l
theorem xq99_4e : E3 xq99_4 xq99_4l := E3.rfl
abbrev xq99_5l : List XO := [
  ⟨some 4, .p (.mov (C (.int .i64 0))), none⟩]
def xq99_5 : List XO := xq99_5l
theorem xq99_5e : E3 xq99_5 xq99_5l := E3.rfl
abbrev xq99_6l : List XO := [
  ⟨some 4, .p (.mov (C (.int .i64 (-1)))), none⟩]
def xq99_6 : List XO := xq99_6l
theorem xq99_6e : E3 xq99_6 xq99_6l := E3.rfl
abbrev xq99_7l : List XO := [
  ⟨some 13, .p (.mov (T 6)), none⟩]
def xq99_7 : List XO := xq99_7l
theorem xq99_7e : E3 xq99_7 xq99_7l := E3.rfl
abbrev xq99_8l : List XO := [
  ⟨some 4, .p (.mov (C (.int .i64 1))), none⟩]
def xq99_8 : List XO := xq99_8l
theorem xq99_8e : E3 xq99_8 xq99_8l := E3.rfl
abbrev xq99_9l : List XO := [
  ⟨some 14, .p (.mov (T 0)), none⟩,
  ⟨some 15, .p (.mov (T 1)), none⟩,
  ⟨some 16, .p (.bin .lss (T 14) (T 15)), none⟩]
def xq99_9 : List XO := xq99_9l
theorem xq99_9e : E3 xq99_9 xq99_9l := E3.rfl
abbrev xq99_10l : List XO := [
  ⟨some 4, .p (.mov (C (.int .i64 (-1)))), none⟩]
def xq99_10 : List XO := xq99_10l
theorem xq99_10e : E3 xq99_10 xq99_10l := E3.rfl
abbrev xq99_11l : List XO := [
  ⟨some 17, .p (.mov (T 0)), none⟩,
  ⟨some 18, .p (.mov (T 1)), none⟩,
  ⟨some 19, .p (.bin .gtr (T 17) (T 18)), none⟩]
def xq99_11 : List XO := xq99_11l
theorem xq99_11e : E3 xq99_11 xq99_11l := E3.rfl
abbrev xq99_12l : List XO := [
  ⟨some 4, .p (.mov (C (.int .i64 1))), none⟩]
def xq99_12 : List XO := xq99_12l
theorem xq99_12e : E3 xq99_12 xq99_12l := E3.rfl
abbrev xq99_13l : List XO := [
  ⟨some 4, .p (.mov (C (.int .i64 0))), none⟩]
def xq99_13 : List XO := xq99_13l
theorem xq99_13e : E3 xq99_13 xq99_13l := E3.rfl
def xq99 : XF := ⟨2, [.tmp 4],
  .seq (.ops xq99_0) (.seq (.ops xq99_1) (.seq (.ops xq99_2) (.seq (.seq (.ops xq99_3) (.cond (T 11) (.seq (.seq (.ops xq99_4) (.cond (T 12) (.seq (.ops xq99_5) (.ret)) (.skip))) (.seq (.ops xq99_6) (.ret))) (.skip))) (.seq (.seq (.ops xq99_7) (.cond (T 13) (.seq (.ops xq99_8) (.ret)) (.skip))) (.seq (.seq (.ops xq99_9) (.cond (T 16) (.seq (.ops xq99_10) (.ret)) (.skip))) (.seq (.seq (.ops xq99_11) (.cond (T 19) (.seq (.ops xq99_12) (.ret)) (.skip))) (.seq (.ops xq99_13) (.ret))))))))⟩
def yq99 := PLift.up (And.intro (And.intro (And.intro (@xq99_0e) (And.intro (@xq99_1e) (@xq99_2e))) (And.intro (And.intro (@xq99_3e) (@xq99_4e)) (And.intro (@xq99_5e) (@xq99_6e)))) (And.intro (And.intro (@xq99_7e) (And.intro (@xq99_8e) (@xq99_9e))) (And.intro (And.intro (@xq99_10e) (@xq99_11e)) (And.intro (@xq99_12e) (@xq99_13e)))))
theorem cq99 : zc Try.prog Try.f99 = some xq99 := by kernel_rfl
abbrev xq114_0l : List XO := [
  ⟨some 2, .p (.mov (C (.bool false))), none⟩]
def xq114_0 : List XO := xq114_0l
theorem xq114_0e : E3 xq114_0 xq114_0l := E3.rfl
abbrev xq114_1l : List XO := [
  ⟨some 3, .p (.mov (T 0)), none⟩,
  ⟨some 4, .p (.mov (T 0)), none⟩,
  ⟨some 5, .p (.eql true .int (T 3) (T 4)), none⟩,
  ⟨some 2, .p (.mov (T 5)), none⟩]
def xq114_1 : List XO := xq114_1l
theorem xq114_1e : E3 xq114_1 xq114_1l := E3.rfl
def xq114 : XF := ⟨1, [.tmp 2],
  .seq (.ops xq114_0) (.seq (.ops xq114_1) (.ret))⟩
def yq114 := PLift.up (And.intro (@xq114_0e) (@xq114_1e))
theorem cq114 : zc Try.prog Try.f114 = some xq114 := by kernel_rfl
abbrev xq97_0l : List XO := [
  ⟨some 6, .p (.mov (C (.int .i64 0))), none⟩,
  ⟨some 7, .p (.mov (C (.bool false))), none⟩]
def xq97_0 : List XO := xq97_0l
theorem xq97_0e : E3 xq97_0 xq97_0l := E3.rfl
abbrev xq97_1l : List XO := [
  ⟨some 12, .p (.mov (T 0)), none⟩,
  ⟨some 13, .p (.lenV (T 12)), none⟩,
  ⟨some 8, .p (.mov (T 13)), none⟩]
def xq97_1 : List XO := xq97_1l
theorem xq97_1e : E3 xq97_1 xq97_1l := E3.rfl
abbrev xq97_2l : List XO := [
  ⟨some 14, .p (.mov (T 8)), none⟩,
  ⟨some 9, .p (.mov (C (.int .i64 0))), none⟩,
  ⟨some 10, .p (.mov (T 14)), none⟩]
def xq97_2 : List XO := xq97_2l
theorem xq97_2e : E3 xq97_2 xq97_2l := E3.rfl
abbrev xq97_3l : List XO := [
  ⟨some 15, .p (.mov (T 9)), none⟩,
  ⟨some 16, .p (.mov (T 10)), none⟩,
  ⟨some 17, .p (.bin .lss (T 15) (T 16)), none⟩]
def xq97_3 : List XO := xq97_3l
theorem xq97_3e : E3 xq97_3 xq97_3l := E3.rfl
abbrev xq97_4l : List XO := [
  ⟨some 18, .p (.mov (T 9)), none⟩,
  ⟨some 19, .p (.mov (T 10)), none⟩,
  ⟨some 20, .p (.bin .add (T 18) (T 19)), none⟩,
  ⟨some 21, .p (.cint .u64 (T 20)), none⟩,
  ⟨some 22, .p (.bin .shr (T 21) (C (.int .u64 1))), none⟩,
  ⟨some 23, .p (.cint .i64 (T 22)), none⟩,
  ⟨some 11, .p (.mov (T 23)), none⟩]
def xq97_4 : List XO := xq97_4l
theorem xq97_4e : E3 xq97_4 xq97_4l := E3.rfl
abbrev xq97_5l : List XO := [
  ⟨some 24, .p (.mov (T 2)), none⟩,
  ⟨some 25, .p (.mov (T 0)), none⟩,
  ⟨some 26, .p (.mov (T 11)), none⟩,
  ⟨some 27, .p (.iaddrS 2 (T 25) (T 26)), none⟩,
  ⟨some 28, .r (.loadN 2 (T 27)), none⟩,
  ⟨some 29, .p (.mov (T 1)), none⟩,
  ⟨some 30, .call (T 24) [(T 28), (T 29)], none⟩,
  ⟨some 31, .p (.bin .lss (T 30) (C (.int .i64 0))), none⟩]
def xq97_5 : List XO := xq97_5l
theorem xq97_5e : E3 xq97_5 xq97_5l := E3.rfl
abbrev xq97_6l : List XO := [
  ⟨some 32, .p (.mov (T 11)), none⟩,
  ⟨some 33, .p (.bin .add (T 32) (C (.int .i64 1))), none⟩,
  ⟨some 9, .p (.mov (T 33)), none⟩]
def xq97_6 : List XO := xq97_6l
theorem xq97_6e : E3 xq97_6 xq97_6l := E3.rfl
abbrev xq97_7l : List XO := [
  ⟨some 34, .p (.mov (T 11)), none⟩,
  ⟨some 10, .p (.mov (T 34)), none⟩]
def xq97_7 : List XO := xq97_7l
theorem xq97_7e : E3 xq97_7 xq97_7l := E3.rfl
def xq97_8b : XC :=
  .seq (.seq (.ops xq97_3) (.cond (T 17) (.skip) (.exit 0))) (.block 1 (.seq (.ops xq97_4) (.seq (.ops xq97_5) (.cond (T 31) (.ops xq97_6) (.ops xq97_7)))))
def xq97_8 : XC := xq97_8b
theorem xq97_8k {pr : Prog} {k : List KI} {Q : XE → Fr → Heap → Prop} {t : Fr} {h : Heap} (hw : wpk pr xq97_8b k Q t h) : wpk pr xq97_8 k Q t h := hw
abbrev xq97_9l : List XO := [
  ⟨some 35, .p (.mov (T 9)), none⟩,
  ⟨some 36, .p (.mov (T 9)), none⟩,
  ⟨some 37, .p (.mov (T 8)), none⟩,
  ⟨some 38, .p (.bin .lss (T 36) (T 37)), none⟩,
  ⟨some 39, .p (.mov (T 38)), none⟩,
  ⟨some 40, .p (.mov (T 2)), some (39, true)⟩,
  ⟨some 41, .p (.mov (T 0)), some (39, true)⟩,
  ⟨some 42, .p (.mov (T 9)), some (39, true)⟩,
  ⟨some 43, .p (.iaddrS 2 (T 41) (T 42)), some (39, true)⟩,
  ⟨some 44, .r (.loadN 2 (T 43)), some (39, true)⟩,
  ⟨some 45, .p (.mov (T 1)), some (39, true)⟩,
  ⟨some 46, .call (T 40) [(T 44), (T 45)], some (39, true)⟩,
  ⟨some 47, .p (.eql false .int (T 46) (C (.int .i64 0))), some (39, true)⟩,
  ⟨some 48, .p (.pick (T 39) (T 47) (C (.bool false))), none⟩,
  ⟨some 6, .p (.mov (T 35)), none⟩,
  ⟨some 7, .p (.mov (T 48)), none⟩]
def xq97_9 : List XO := xq97_9l
theorem xq97_9e : E3 xq97_9 xq97_9l := E3.rfl
def xq97 : XF := ⟨3, [.tmp 6, .tmp 7],
  .seq (.ops xq97_0) (.seq (.ops xq97_1) (.seq (.ops xq97_2) (.seq (.block 0 (.loop xq97_8)) (.seq (.ops xq97_9) (.ret)))))⟩
def yq97 := PLift.up (And.intro (And.intro (And.intro (@xq97_0e) (@xq97_1e)) (And.intro (@xq97_2e) (@xq97_3e))) (And.intro (And.intro (@xq97_4e) (@xq97_5e)) (And.intro (@xq97_6e) (And.intro (@xq97_7e) (@xq97_9e)))))
theorem cq97 : zc Try.prog Try.f97 = some xq97 := by kernel_rfl
abbrev xq48_0l : List XO := [
  ⟨some 2, .a (.box (T 0)), none⟩,
  ⟨some 3, .a (.box (T 1)), none⟩,
  ⟨some 4, .a (.alloc [(.slice none 0 0)]), none⟩]
def xq48_0 : List XO := xq48_0l
theorem xq48_0e : E3 xq48_0 xq48_0l := E3.rfl
abbrev xq48_1l : List XO := [
  ⟨some 8, .r (.loadN 1 (T 2)), none⟩,
  ⟨some 9, .p (.faddr 0 (T 3)), none⟩,
  ⟨some 10, .r (.load1 (T 9)), none⟩,
  ⟨some 11, .call (.func 79) [(T 8), (T 10)], none⟩,
  ⟨some 7, .p (.mov (T 11)), none⟩,
  ⟨some 12, .p (.ext (T 7) 0), none⟩,
  ⟨some 13, .p (.ext (T 7) 1), none⟩,
  ⟨some 5, .p (.mov (T 12)), none⟩,
  ⟨some 6, .p (.mov (T 13)), none⟩]
def xq48_1 : List XO := xq48_1l
theorem xq48_1e : E3 xq48_1 xq48_1l := E3.rfl
abbrev xq48_2l : List XO := [
  ⟨some 14, .p (.mov (T 6)), none⟩]
def xq48_2 : List XO := xq48_2l
theorem xq48_2e : E3 xq48_2 xq48_2l := E3.rfl
abbrev xq48_3l : List XO := [
  ⟨some 15, .r (.loadN 1 (T 2)), none⟩,
  ⟨some 16, .call (.func 50) [(T 15)], none⟩,
  ⟨none, .e (.store 1 (T 4) (T 16)), none⟩]
def xq48_3 : List XO := xq48_3l
theorem xq48_3e : E3 xq48_3 xq48_3l := E3.rfl
abbrev xq48_4l : List XO := [
  ⟨some 17, .p (.faddr 0 (T 2)), none⟩,
  ⟨some 18, .r (.load1 (T 17)), none⟩,
  ⟨some 19, .call (.func 81) [(T 18)], none⟩,
  ⟨some 20, .p (.mov (T 5)), none⟩,
  ⟨some 21, .r (.loadN 2 (T 3)), none⟩,
  ⟨some 22, .a (.bslice [(.int .i64 0), (.string (zB []))] 1 [(0, 2, (T 21))]), none⟩,
  ⟨some 23, .call (.func 80) [(T 19), (T 20), (T 22)], none⟩,
  ⟨some 24, .p (.build [(.slice none 0 0)] [(0, 1, (T 23))]), none⟩,
  ⟨none, .e (.store 1 (T 4) (T 24)), none⟩]
def xq48_4 : List XO := xq48_4l
theorem xq48_4e : E3 xq48_4 xq48_4l := E3.rfl
def xq48 : XF := ⟨2, [.cellN 4 1],
  .seq (.ops xq48_0) (.seq (.ops xq48_1) (.seq (.seq (.ops xq48_2) (.cond (T 14) (.seq (.ops xq48_3) (.ret)) (.skip))) (.seq (.draw xq48_4 [(4, (2, [])), (4, (6, []))]) (.ret))))⟩
def yq48 := PLift.up (And.intro (And.intro (@xq48_0e) (@xq48_1e)) (And.intro (@xq48_2e) (And.intro (@xq48_3e) (@xq48_4e))))
theorem cq48 : zc Try.prog Try.f48 = some xq48 := by kernel_rfl
abbrev xq81_0l : List XO := [
  ⟨some 2, .p (.mov (C (.slice none 0 0))), none⟩]
def xq81_0 : List XO := xq81_0l
theorem xq81_0e : E3 xq81_0 xq81_0l := E3.rfl
abbrev xq81_1l : List XO := [
  ⟨some 3, .p (.mov (T 0)), none⟩,
  ⟨some 4, .p (.eql false .nslice (T 3) (C (.slice none 0 0))), none⟩]
def xq81_1 : List XO := xq81_1l
theorem xq81_1e : E3 xq81_1 xq81_1l := E3.rfl
abbrev xq81_2l : List XO := [
  ⟨some 2, .p (.mov (C (.slice none 0 0))), none⟩]
def xq81_2 : List XO := xq81_2l
theorem xq81_2e : E3 xq81_2 xq81_2l := E3.rfl
abbrev xq81_3l : List XO := [
  ⟨some 5, .a (.bslice [] 0 []), none⟩,
  ⟨some 6, .p (.mov (T 0)), none⟩,
  ⟨some 7, .e (.append 2 24 (T 5) (T 6)), none⟩,
  ⟨some 2, .p (.mov (T 7)), none⟩]
def xq81_3 : List XO := xq81_3l
theorem xq81_3e : E3 xq81_3 xq81_3l := E3.rfl
def xq81 : XF := ⟨1, [.tmp 2],
  .seq (.ops xq81_0) (.seq (.seq (.ops xq81_1) (.cond (T 4) (.seq (.ops xq81_2) (.ret)) (.skip))) (.seq (.ops xq81_3) (.ret)))⟩
def yq81 := PLift.up (And.intro (And.intro (@xq81_0e) (@xq81_1e)) (And.intro (@xq81_2e) (@xq81_3e)))
theorem cq81 : zc Try.prog Try.f81 = some xq81 := by kernel_rfl
abbrev xq50_0l : List XO := [
  ⟨some 1, .a (.box (T 0)), none⟩,
  ⟨some 2, .a (.alloc [(.slice none 0 0)]), none⟩]
def xq50_0 : List XO := xq50_0l
theorem xq50_0e : E3 xq50_0 xq50_0l := E3.rfl
abbrev xq50_1l : List XO := [
  ⟨some 3, .p (.faddr 0 (T 1)), none⟩,
  ⟨some 4, .r (.load1 (T 3)), none⟩,
  ⟨some 5, .call (.func 81) [(T 4)], none⟩,
  ⟨some 6, .p (.build [(.slice none 0 0)] [(0, 1, (T 5))]), none⟩,
  ⟨none, .e (.store 1 (T 2) (T 6)), none⟩]
def xq50_1 : List XO := xq50_1l
theorem xq50_1e : E3 xq50_1 xq50_1l := E3.rfl
def xq50 : XF := ⟨1, [.cellN 2 1],
  .seq (.ops xq50_0) (.seq (.ops xq50_1) (.ret))⟩
def yq50 := PLift.up (And.intro (@xq50_0e) (@xq50_1e))
theorem cq50 : zc Try.prog Try.f50 = some xq50 := by kernel_rfl
abbrev xq102_0l : List XO := [
  ⟨some 2, .p (.mov (C (.int .i64 0))), none⟩]
def xq102_0 : List XO := xq102_0l
theorem xq102_0e : E3 xq102_0 xq102_0l := E3.rfl
abbrev xq102_1l : List XO := [
  ⟨some 3, .p (.mov (T 0)), none⟩,
  ⟨some 4, .p (.bin .quo (T 3) (C (.int .i64 2))), none⟩,
  ⟨some 5, .p (.bin .add (T 4) (C (.int .i64 1))), none⟩,
  ⟨some 2, .p (.mov (T 5)), none⟩]
def xq102_1 : List XO := xq102_1l
theorem xq102_1e : E3 xq102_1 xq102_1l := E3.rfl
def xq102 : XF := ⟨1, [.tmp 2],
  .seq (.ops xq102_0) (.seq (.ops xq102_1) (.ret))⟩
def yq102 := PLift.up (And.intro (@xq102_0e) (@xq102_1e))
theorem cq102 : zc Try.prog Try.f102 = some xq102 := by kernel_rfl
abbrev xq83_0l : List XO := [
  ⟨some 4, .p (.mov (C (.bool false))), none⟩]
def xq83_0 : List XO := xq83_0l
theorem xq83_0e : E3 xq83_0 xq83_0l := E3.rfl
abbrev xq83_1l : List XO := [
  ⟨some 5, .p (.mov (C (.int .i64 0))), none⟩]
def xq83_1 : List XO := xq83_1l
theorem xq83_1e : E3 xq83_1 xq83_1l := E3.rfl
abbrev xq83_2l : List XO := [
  ⟨some 8, .p (.mov (T 0)), none⟩,
  ⟨some 9, .p (.lenV (T 8)), none⟩,
  ⟨some 10, .p (.mov (C (.int .i64 0))), none⟩]
def xq83_2 : List XO := xq83_2l
theorem xq83_2e : E3 xq83_2 xq83_2l := E3.rfl
abbrev xq83_3l : List XO := [
  ⟨some 11, .p (.bin .lss (T 10) (T 9)), none⟩]
def xq83_3 : List XO := xq83_3l
theorem xq83_3e : E3 xq83_3 xq83_3l := E3.rfl
abbrev xq83_4l : List XO := [
  ⟨some 12, .p (.iaddrS 1 (T 8) (T 10)), none⟩,
  ⟨some 13, .r (.load1 (T 12)), none⟩,
  ⟨some 7, .p (.mov (T 13)), none⟩]
def xq83_4 : List XO := xq83_4l
theorem xq83_4e : E3 xq83_4 xq83_4l := E3.rfl
abbrev xq83_5l : List XO := [
  ⟨some 14, .p (.mov (T 1)), none⟩,
  ⟨some 15, .p (.mov (T 7)), none⟩,
  ⟨some 16, .r (.lookup (.bool false) false .int (T 14) (T 15)), none⟩]
def xq83_5 : List XO := xq83_5l
theorem xq83_5e : E3 xq83_5 xq83_5l := E3.rfl
abbrev xq83_6l : List XO := [
  ⟨some 17, .p (.mov (T 5)), none⟩,
  ⟨some 18, .p (.bin .add (T 17) (C (.int .i64 1))), none⟩,
  ⟨some 5, .p (.mov (T 18)), none⟩]
def xq83_6 : List XO := xq83_6l
theorem xq83_6e : E3 xq83_6 xq83_6l := E3.rfl
abbrev xq83_7l : List XO := [
  ⟨some 19, .p (.bin .add (T 10) (C (.int .i64 1))), none⟩,
  ⟨some 10, .p (.mov (T 19)), none⟩]
def xq83_7 : List XO := xq83_7l
theorem xq83_7e : E3 xq83_7 xq83_7l := E3.rfl
def xq83_8b : XC :=
  .seq (.ops xq83_3) (.seq (.cond (T 11) (.skip) (.exit 0)) (.seq (.block 1 (.seq (.ops xq83_4) (.seq (.ops xq83_5) (.cond (T 16) (.ops xq83_6) (.skip))))) (.ops xq83_7)))
def xq83_8 : XC := xq83_8b
theorem xq83_8k {pr : Prog} {k : List KI} {Q : XE → Fr → Heap → Prop} {t : Fr} {h : Heap} (hw : wpk pr xq83_8b k Q t h) : wpk pr xq83_8 k Q t h := hw
abbrev xq83_9l : List XO := [
  ⟨some 20, .p (.mov (T 0)), none⟩,
  ⟨some 21, .p (.lenV (T 20)), none⟩,
  ⟨some 22, .p (.bin .gtr (T 21) (C (.int .i64 0))), none⟩,
  ⟨some 23, .p (.mov (T 22)), none⟩,
  ⟨some 24, .p (.mov (T 5)), some (23, true)⟩,
  ⟨some 25, .p (.mov (T 0)), some (23, true)⟩,
  ⟨some 26, .p (.lenV (T 25)), some (23, true)⟩,
  ⟨some 27, .call (.func 102) [(T 26)], some (23, true)⟩,
  ⟨some 28, .p (.bin .geq (T 24) (T 27)), some (23, true)⟩,
  ⟨some 29, .p (.pick (T 23) (T 28) (C (.bool false))), none⟩,
  ⟨some 4, .p (.mov (T 29)), none⟩]
def xq83_9 : List XO := xq83_9l
theorem xq83_9e : E3 xq83_9 xq83_9l := E3.rfl
def xq83 : XF := ⟨2, [.tmp 4],
  .seq (.ops xq83_0) (.seq (.ops xq83_1) (.seq (.seq (.ops xq83_2) (.block 0 (.loop xq83_8))) (.seq (.ops xq83_9) (.ret))))⟩
def yq83 := PLift.up (And.intro (And.intro (And.intro (@xq83_0e) (@xq83_1e)) (And.intro (@xq83_2e) (@xq83_3e))) (And.intro (And.intro (@xq83_4e) (@xq83_5e)) (And.intro (@xq83_6e) (And.intro (@xq83_7e) (@xq83_9e)))))
theorem cq83 : zc Try.prog Try.f83 = some xq83 := by kernel_rfl
abbrev xq49_0l : List XO := [
  ⟨some 5, .a (.box (T 1)), none⟩,
  ⟨some 6, .a (.box (T 2)), none⟩,
  ⟨some 8, .p (.mov (C (.int .i64 0))), none⟩]
def xq49_0 : List XO := xq49_0l
theorem xq49_0e : E3 xq49_0 xq49_0l := E3.rfl
abbrev xq49_1l : List XO := [
  ⟨some 13, .p (.mov (T 3)), none⟩,
  ⟨some 14, .call (.func 82) [(T 13)], none⟩,
  ⟨some 15, .p (.un .not (T 14)), none⟩]
def xq49_1 : List XO := xq49_1l
theorem xq49_1e : E3 xq49_1 xq49_1l := E3.rfl
abbrev xq49_2l : List XO := [
  ⟨some 8, .p (.mov (C (.int .i64 1))), none⟩]
def xq49_2 : List XO := xq49_2l
theorem xq49_2e : E3 xq49_2 xq49_2l := E3.rfl
abbrev xq49_3l : List XO := [
  ⟨some 16, .r (.loadN 5 (T 5)), none⟩,
  ⟨some 17, .call (.func 75) [(T 16)], none⟩,
  ⟨some 9, .p (.mov (T 17)), none⟩]
def xq49_3 : List XO := xq49_3l
theorem xq49_3e : E3 xq49_3 xq49_3l := E3.rfl
abbrev xq49_4l : List XO := [
  ⟨some 18, .p (.mov (T 9)), none⟩,
  ⟨some 19, .p (.eql true .int (T 18) (C (.int .i64 0))), none⟩]
def xq49_4 : List XO := xq49_4l
theorem xq49_4e : E3 xq49_4 xq49_4l := E3.rfl
abbrev xq49_5l : List XO := [
  ⟨some 20, .p (.mov (T 9)), none⟩,
  ⟨some 8, .p (.mov (T 20)), none⟩]
def xq49_5 : List XO := xq49_5l
theorem xq49_5e : E3 xq49_5 xq49_5l := E3.rfl
abbrev xq49_6l : List XO := [
  ⟨some 21, .a (.mkmap), none⟩,
  ⟨some 10, .p (.mov (T 21)), none⟩]
def xq49_6 : List XO := xq49_6l
theorem xq49_6e : E3 xq49_6 xq49_6l := E3.rfl
abbrev xq49_7l : List XO := [
  ⟨some 22, .p (.faddr 0 (T 6)), none⟩,
  ⟨some 23, .r (.load1 (T 22)), none⟩,
  ⟨some 24, .p (.lenV (T 23)), none⟩,
  ⟨some 25, .p (.mov (C (.int .i64 0))), none⟩]
def xq49_7 : List XO := xq49_7l
theorem xq49_7e : E3 xq49_7 xq49_7l := E3.rfl
abbrev xq49_8l : List XO := [
  ⟨some 26, .p (.bin .lss (T 25) (T 24)), none⟩]
def xq49_8 : List XO := xq49_8l
theorem xq49_8e : E3 xq49_8 xq49_8l := E3.rfl
abbrev xq49_9l : List XO := [
  ⟨some 27, .p (.mov (T 25)), none⟩,
  ⟨some 28, .p (.iaddrS 2 (T 23) (T 25)), none⟩,
  ⟨some 29, .r (.loadN 2 (T 28)), none⟩,
  ⟨some 12, .a (.alloc [(.int .i64 0), (.string (zB []))]), none⟩,
  ⟨some 11, .p (.mov (T 27)), none⟩,
  ⟨none, .e (.store 2 (T 12) (T 29)), none⟩]
def xq49_9 : List XO := xq49_9l
theorem xq49_9e : E3 xq49_9 xq49_9l := E3.rfl
abbrev xq49_10l : List XO := [
  ⟨some 30, .p (.mov (T 11)), none⟩,
  ⟨some 31, .p (.bin .gtr (T 30) (C (.int .i64 0))), none⟩,
  ⟨some 32, .p (.mov (T 31)), none⟩,
  ⟨some 33, .p (.faddr 0 (T 6)), some (32, true)⟩,
  ⟨some 34, .r (.load1 (T 33)), some (32, true)⟩,
  ⟨some 35, .p (.mov (T 11)), some (32, true)⟩,
  ⟨some 36, .p (.bin .sub (T 35) (C (.int .i64 1))), some (32, true)⟩,
  ⟨some 37, .p (.iaddrS 2 (T 34) (T 36)), some (32, true)⟩,
  ⟨some 38, .p (.faddr 0 (T 37)), some (32, true)⟩,
  ⟨some 39, .r (.load1 (T 38)), some (32, true)⟩,
  ⟨some 40, .p (.faddr 0 (T 12)), some (32, true)⟩,
  ⟨some 41, .r (.load1 (T 40)), some (32, true)⟩,
  ⟨some 42, .p (.bin .geq (T 39) (T 41)), some (32, true)⟩,
  ⟨some 43, .p (.pick (T 32) (T 42) (C (.bool false))), none⟩,
  ⟨some 44, .p (.mov (T 43)), none⟩,
  ⟨some 45, .p (.mov (T 0)), some (44, false)⟩,
  ⟨some 46, .r (.loadN 5 (T 5)), some (44, false)⟩,
  ⟨some 47, .r (.loadN 2 (T 12)), some (44, false)⟩,
  ⟨some 48, .call (.func 46) [(T 45), (T 46), (T 47)], some (44, false)⟩,
  ⟨some 49, .p (.un .not (T 48)), some (44, false)⟩,
  ⟨some 50, .p (.pick (T 44) (C (.bool true)) (T 49)), none⟩]
def xq49_10 : List XO := xq49_10l
theorem xq49_10e : E3 xq49_10 xq49_10l := E3.rfl
abbrev xq49_11l : List XO := [
  ⟨some 8, .p (.mov (C (.int .i64 170))), none⟩]
def xq49_11 : List XO := xq49_11l
theorem xq49_11e : E3 xq49_11 xq49_11l := E3.rfl
abbrev xq49_12l : List XO := [
  ⟨some 51, .p (.mov (T 10)), none⟩,
  ⟨some 52, .p (.faddr 0 (T 12)), none⟩,
  ⟨some 53, .r (.load1 (T 52)), none⟩,
  ⟨none, .e (.mupd .int (T 51) (T 53) (C (.bool true))), none⟩]
def xq49_12 : List XO := xq49_12l
theorem xq49_12e : E3 xq49_12 xq49_12l := E3.rfl
abbrev xq49_13l : List XO := [
  ⟨some 54, .p (.bin .add (T 25) (C (.int .i64 1))), none⟩,
  ⟨some 25, .p (.mov (T 54)), none⟩]
def xq49_13 : List XO := xq49_13l
theorem xq49_13e : E3 xq49_13 xq49_13l := E3.rfl
def xq49_14b : XC :=
  .seq (.ops xq49_8) (.seq (.cond (T 26) (.skip) (.exit 0)) (.seq (.block 1 (.seq (.ops xq49_9) (.seq (.seq (.draw xq49_10 []) (.cond (T 50) (.seq (.ops xq49_11) (.ret)) (.skip))) (.ops xq49_12)))) (.ops xq49_13)))
def xq49_14 : XC := xq49_14b
theorem xq49_14k {pr : Prog} {k : List KI} {Q : XE → Fr → Heap → Prop} {t : Fr} {h : Heap} (hw : wpk pr xq49_14b k Q t h) : wpk pr xq49_14 k Q t h := hw
abbrev xq49_15l : List XO := [
  ⟨some 55, .p (.mov (T 3)), none⟩,
  ⟨some 56, .p (.mov (T 10)), none⟩,
  ⟨some 57, .call (.func 83) [(T 55), (T 56)], none⟩,
  ⟨some 58, .p (.un .not (T 57)), none⟩]
def xq49_15 : List XO := xq49_15l
theorem xq49_15e : E3 xq49_15 xq49_15l := E3.rfl
abbrev xq49_16l : List XO := [
  ⟨some 8, .p (.mov (C (.int .i64 170))), none⟩]
def xq49_16 : List XO := xq49_16l
theorem xq49_16e : E3 xq49_16 xq49_16l := E3.rfl
abbrev xq49_17l : List XO := [
  ⟨some 8, .p (.mov (C (.int .i64 0))), none⟩]
def xq49_17 : List XO := xq49_17l
theorem xq49_17e : E3 xq49_17 xq49_17l := E3.rfl
def xq49 : XF := ⟨4, [.tmp 8],
  .seq (.ops xq49_0) (.seq (.seq (.ops xq49_1) (.cond (T 15) (.seq (.ops xq49_2) (.ret)) (.skip))) (.seq (.seq (.ops xq49_3) (.seq (.ops xq49_4) (.cond (T 19) (.seq (.ops xq49_5) (.ret)) (.skip)))) (.seq (.ops xq49_6) (.seq (.seq (.ops xq49_7) (.block 0 (.loop xq49_14))) (.seq (.seq (.ops xq49_15) (.cond (T 58) (.seq (.ops xq49_16) (.ret)) (.skip))) (.seq (.ops xq49_17) (.ret)))))))⟩
def yq49 := PLift.up (And.intro (And.intro (And.intro (And.intro (@xq49_0e) (@xq49_1e)) (And.intro (@xq49_2e) (@xq49_3e))) (And.intro (And.intro (@xq49_4e) (@xq49_5e)) (And.intro (@xq49_6e) (@xq49_7e)))) (And.intro (And.intro (And.intro (@xq49_8e) (@xq49_9e)) (And.intro (@xq49_10e) (@xq49_11e))) (And.intro (And.intro (@xq49_12e) (@xq49_13e)) (And.intro (@xq49_15e) (And.intro (@xq49_16e) (@xq49_17e))))))
theorem cq49 : zc Try.prog Try.f49 = some xq49 := by kernel_rfl
end Go.X
end
section
namespace Go.X
open Go.Proofs
abbrev xq42_0l : List XO := [
  ⟨some 0, .p (.mov (C (.pointer none))), none⟩]
def xq42_0 : List XO := xq42_0l
theorem xq42_0e : E3 xq42_0 xq42_0l := E3.rfl
abbrev xq42_1l : List XO := [
  ⟨some 4, .call (.func 27) [(C (.string (zB [115, 101, 101, 100]))), (C (.int .i64 16))], none⟩,
  ⟨some 3, .p (.mov (T 4)), none⟩,
  ⟨some 5, .p (.ext (T 3) 0), none⟩,
  ⟨some 6, .p (.ext (T 3) 1), none⟩,
  ⟨some 1, .p (.mov (T 5)), none⟩,
  ⟨some 2, .p (.mov (T 6)), none⟩]
def xq42_1 : List XO := xq42_1l
theorem xq42_1e : E3 xq42_1 xq42_1l := E3.rfl
abbrev xq42_2l : List XO := [
  ⟨some 7, .p (.mov (T 1)), none⟩,
  ⟨some 0, .p (.mov (T 7)), none⟩]
def xq42_2 : List XO := xq42_2l
theorem xq42_2e : E3 xq42_2 xq42_2l := E3.rfl
def xq42 : XF := ⟨0, [.tmp 0],
  .seq (.ops xq42_0) (.seq (.ops xq42_1) (.seq (.ops xq42_2) (.ret)))⟩
def yq42 := PLift.up (And.intro (@xq42_0e) (And.intro (@xq42_1e) (@xq42_2e)))
theorem cq42 : zc Try.prog Try.f42 = some xq42 := by kernel_rfl
abbrev xq43_0l : List XO := [
  ⟨some 2, .a (.alloc [(.int .u64 0), (.string (zB [])), (.string (zB [])), (.string (zB [])), (.slice none 0 0)]), none⟩]
def xq43_0 : List XO := xq43_0l
theorem xq43_0e : E3 xq43_0 xq43_0l := E3.rfl
abbrev xq43_1l : List XO := [
  ⟨some 4, .p (.mov (T 0)), none⟩,
  ⟨some 5, .call (.func 40) [(T 4), (C (.int .i64 8))], none⟩,
  ⟨some 6, .call (.func 18) [(T 5)], none⟩,
  ⟨some 3, .p (.mov (T 6)), none⟩]
def xq43_1 : List XO := xq43_1l
theorem xq43_1e : E3 xq43_1 xq43_1l := E3.rfl
abbrev xq43_2l : List XO := [
  ⟨some 7, .p (.mov (T 0)), none⟩,
  ⟨some 8, .p (.bin .rem (T 7) (C (.int .u64 1000))), none⟩,
  ⟨some 9, .p (.bin .add (T 8) (C (.int .u64 1))), none⟩,
  ⟨some 10, .p (.mov (T 3)), none⟩,
  ⟨some 11, .p (.mov (T 3)), none⟩,
  ⟨some 12, .p (.mov (T 3)), none⟩,
  ⟨some 13, .a (.bslice [(.int .i64 0), (.int .i64 0), (.int .i64 0)] 3 [(0, 1, (C (.int .i64 0))), (1, 1, (C (.int .i64 1))), (2, 1, (C (.int .i64 2)))]), none⟩,
  ⟨some 14, .p (.build [(.int .u64 0), (.string (zB [])), (.string (zB [])), (.string (zB [])), (.slice none 0 0)] [(0, 1, (T 9)), (1, 1, (T 10)), (2, 1, (T 11)), (3, 1, (T 12)), (4, 1, (T 13))]), none⟩,
  ⟨none, .e (.store 5 (T 2) (T 14)), none⟩]
def xq43_2 : List XO := xq43_2l
theorem xq43_2e : E3 xq43_2 xq43_2l := E3.rfl
def xq43 : XF := ⟨1, [.cellN 2 5],
  .seq (.ops xq43_0) (.seq (.ops xq43_1) (.seq (.ops xq43_2) (.ret)))⟩
def yq43 := PLift.up (And.intro (@xq43_0e) (And.intro (@xq43_1e) (@xq43_2e)))
theorem cq43 : zc Try.prog Try.f43 = some xq43 := by kernel_rfl
abbrev xq45_0l : List XO := [
  ⟨some 3, .a (.box (T 1)), none⟩,
  ⟨some 4, .p (.mov (C (.string (zB [])))), none⟩]
def xq45_0 : List XO := xq45_0l
theorem xq45_0e : E3 xq45_0 xq45_0l := E3.rfl
abbrev xq45_1l : List XO := [
  ⟨some 5, .p (.mov (T 0)), none⟩,
  ⟨some 6, .p (.cint .u8 (T 5)), none⟩,
  ⟨some 7, .a (.bslice [(.int .u8 0)] 1 [(0, 1, (T 6))]), none⟩,
  ⟨some 8, .r (.cb2s (T 7)), none⟩,
  ⟨some 9, .a (.bslice [(.string (zB [])), (.string (zB []))] 2 [(0, 1, (C (.string (zB [115, 101, 101, 100])))), (1, 1, (T 8))]), none⟩,
  ⟨some 10, .call (.func 28) [(C (.int .u8 75)), (T 9)], none⟩,
  ⟨some 11, .r (.loadN 5 (T 3)), none⟩,
  ⟨some 12, .call (.func 78) [(T 11)], none⟩,
  ⟨some 13, .call (.func 77) [(T 12)], none⟩,
  ⟨some 14, .a (.bslice [(.string (zB []))] 1 [(0, 1, (T 13))]), none⟩,
  ⟨some 15, .call (.func 28) [(C (.int .u8 67)), (T 14)], none⟩,
  ⟨some 16, .call (.func 19) [(T 10), (T 15)], none⟩,
  ⟨some 4, .p (.mov (T 16)), none⟩]
def xq45_1 : List XO := xq45_1l
theorem xq45_1e : E3 xq45_1 xq45_1l := E3.rfl
def xq45 : XF := ⟨2, [.tmp 4],
  .seq (.ops xq45_0) (.seq (.draw xq45_1 [(3, (5, [])), (6, (5, []))]) (.ret))⟩
def yq45 := PLift.up (And.intro (@xq45_0e) (@xq45_1e))
theorem cq45 : zc Try.prog Try.f45 = some xq45 := by kernel_rfl
abbrev xq47_0l : List XO := [
  ⟨some 2, .p (.mov (C (.slice none 0 0))), none⟩]
def xq47_0 : List XO := xq47_0l
theorem xq47_0e : E3 xq47_0 xq47_0l := E3.rfl
abbrev xq47_1l : List XO := [
  ⟨some 5, .a (.bslice [] 0 []), none⟩,
  ⟨some 3, .p (.mov (T 5)), none⟩]
def xq47_1 : List XO := xq47_1l
theorem xq47_1e : E3 xq47_1 xq47_1l := E3.rfl
abbrev xq47_2l : List XO := [
  ⟨some 4, .p (.mov (C (.int .i64 0))), none⟩]
def xq47_2 : List XO := xq47_2l
theorem xq47_2e : E3 xq47_2 xq47_2l := E3.rfl
abbrev xq47_3l : List XO := [
  ⟨some 6, .p (.mov (T 4)), none⟩,
  ⟨some 7, .p (.bin .lss (T 6) (C (.int .i64 16))), none⟩]
def xq47_3 : List XO := xq47_3l
theorem xq47_3e : E3 xq47_3 xq47_3l := E3.rfl
abbrev xq47_4l : List XO := [
  ⟨some 10, .p (.mov (T 0)), none⟩,
  ⟨some 11, .p (.mov (T 4)), none⟩,
  ⟨some 12, .p (.cint .u64 (T 11)), none⟩,
  ⟨some 13, .p (.bin .shr (T 10) (T 12)), none⟩,
  ⟨some 14, .p (.bin .and (T 13) (C (.int .i64 1))), none⟩,
  ⟨some 15, .p (.eql false .int (T 14) (C (.int .i64 1))), none⟩]
def xq47_4 : List XO := xq47_4l
theorem xq47_4e : E3 xq47_4 xq47_4l := E3.rfl
abbrev xq47_5l : List XO := [
  ⟨some 16, .p (.mov (T 3)), none⟩,
  ⟨some 17, .p (.mov (T 4)), none⟩,
  ⟨some 18, .a (.bslice [(.int .i64 0)] 1 [(0, 1, (T 17))]), none⟩,
  ⟨some 19, .e (.append 1 8 (T 16) (T 18)), none⟩,
  ⟨some 3, .p (.mov (T 19)), none⟩]
def xq47_5 : List XO := xq47_5l
theorem xq47_5e : E3 xq47_5 xq47_5l := E3.rfl
abbrev xq47_6l : List XO := [
  ⟨some 8, .p (.mov (T 4)), none⟩,
  ⟨some 9, .p (.bin .add (T 8) (C (.int .i64 1))), none⟩,
  ⟨some 4, .p (.mov (T 9)), none⟩]
def xq47_6 : List XO := xq47_6l
theorem xq47_6e : E3 xq47_6 xq47_6l := E3.rfl
def xq47_7b : XC :=
  .seq (.seq (.ops xq47_3) (.cond (T 7) (.skip) (.exit 0))) (.seq (.block 1 (.seq (.ops xq47_4) (.cond (T 15) (.ops xq47_5) (.skip)))) (.ops xq47_6))
def xq47_7 : XC := xq47_7b
theorem xq47_7k {pr : Prog} {k : List KI} {Q : XE → Fr → Heap → Prop} {t : Fr} {h : Heap} (hw : wpk pr xq47_7b k Q t h) : wpk pr xq47_7 k Q t h := hw
abbrev xq47_8l : List XO := [
  ⟨some 20, .p (.mov (T 3)), none⟩,
  ⟨some 2, .p (.mov (T 20)), none⟩]
def xq47_8 : List XO := xq47_8l
theorem xq47_8e : E3 xq47_8 xq47_8l := E3.rfl
def xq47 : XF := ⟨1, [.tmp 2],
  .seq (.ops xq47_0) (.seq (.ops xq47_1) (.seq (.seq (.ops xq47_2) (.block 0 (.loop xq47_7))) (.seq (.ops xq47_8) (.ret))))⟩
def yq47 := PLift.up (And.intro (And.intro (And.intro (@xq47_0e) (@xq47_1e)) (And.intro (@xq47_2e) (@xq47_3e))) (And.intro (And.intro (@xq47_4e) (@xq47_5e)) (And.intro (@xq47_6e) (@xq47_8e))))
theorem cq47 : zc Try.prog Try.f47 = some xq47 := by kernel_rfl
abbrev xq44_0l : List XO := [
  ⟨some 0, .p (.mov (C (.bool false))), none⟩]
def xq44_0 : List XO := xq44_0l
theorem xq44_0e : E3 xq44_0 xq44_0l := E3.rfl
abbrev xq44_1l : List XO := [
  ⟨some 8, .call (.func 42) [], none⟩,
  ⟨some 9, .call (.func 43) [(C (.int .u64 1))], none⟩,
  ⟨some 10, .call (.func 41) [(T 8), (C (.int .i64 0)), (T 9)], none⟩,
  ⟨some 7, .p (.mov (T 10)), none⟩,
  ⟨some 11, .p (.ext (T 7) 0), none⟩,
  ⟨some 12, .p (.ext (T 7) 1), none⟩,
  ⟨some 1, .a (.alloc [(.int .i64 0), (.string (zB []))]), none⟩,
  ⟨none, .e (.store 2 (T 1) (T 11)), none⟩,
  ⟨some 2, .p (.mov (T 12)), none⟩]
def xq44_1 : List XO := xq44_1l
theorem xq44_1e : E3 xq44_1 xq44_1l := E3.rfl
abbrev xq44_2l : List XO := [
  ⟨some 14, .call (.func 42) [], none⟩,
  ⟨some 15, .call (.func 43) [(C (.int .u64 1))], none⟩,
  ⟨some 16, .call (.func 41) [(T 14), (C (.int .i64 2)), (T 15)], none⟩,
  ⟨some 13, .p (.mov (T 16)), none⟩,
  ⟨some 17, .p (.ext (T 13) 0), none⟩,
  ⟨some 18, .p (.ext (T 13) 1), none⟩,
  ⟨some 3, .a (.alloc [(.int .i64 0), (.string (zB []))]), none⟩,
  ⟨none, .e (.store 2 (T 3) (T 17)), none⟩,
  ⟨some 4, .p (.mov (T 18)), none⟩]
def xq44_2 : List XO := xq44_2l
theorem xq44_2e : E3 xq44_2 xq44_2l := E3.rfl
abbrev xq44_3l : List XO := [
  ⟨some 19, .p (.build [(.slice none 0 0)] []), none⟩,
  ⟨some 20, .r (.loadN 2 (T 3)), none⟩,
  ⟨some 21, .call (.func 48) [(T 19), (T 20)], none⟩,
  ⟨some 5, .a (.alloc [(.slice none 0 0)]), none⟩,
  ⟨none, .e (.store 1 (T 5) (T 21)), none⟩]
def xq44_3 : List XO := xq44_3l
theorem xq44_3e : E3 xq44_3 xq44_3l := E3.rfl
abbrev xq44_4l : List XO := [
  ⟨some 22, .r (.loadN 1 (T 5)), none⟩,
  ⟨some 23, .r (.loadN 2 (T 1)), none⟩,
  ⟨some 24, .call (.func 48) [(T 22), (T 23)], none⟩,
  ⟨some 6, .a (.alloc [(.slice none 0 0)]), none⟩,
  ⟨none, .e (.store 1 (T 6) (T 24)), none⟩]
def xq44_4 : List XO := xq44_4l
theorem xq44_4e : E3 xq44_4 xq44_4l := E3.rfl
abbrev xq44_5l : List XO := [
  ⟨some 25, .p (.mov (T 2)), none⟩,
  ⟨some 26, .p (.eql false .int (T 25) (C (.int .i64 0))), none⟩,
  ⟨some 27, .p (.mov (T 26)), none⟩,
  ⟨some 28, .p (.mov (T 4)), some (27, true)⟩,
  ⟨some 29, .p (.eql false .int (T 28) (C (.int .i64 0))), some (27, true)⟩,
  ⟨some 30, .p (.pick (T 27) (T 29) (C (.bool false))), none⟩,
  ⟨some 31, .p (.mov (T 30)), none⟩,
  ⟨some 32, .call (.func 42) [], some (31, true)⟩,
  ⟨some 33, .call (.func 43) [(C (.int .u64 1))], some (31, true)⟩,
  ⟨some 34, .r (.loadN 1 (T 5)), some (31, true)⟩,
  ⟨some 35, .a (.bslice [(.int .i64 0), (.int .i64 0), (.int .i64 0)] 3 [(0, 1, (C (.int .i64 0))), (1, 1, (C (.int .i64 1))), (2, 1, (C (.int .i64 2)))]), some (31, true)⟩,
  ⟨some 36, .call (.func 49) [(T 32), (T 33), (T 34), (T 35)], some (31, true)⟩,
  ⟨some 37, .p (.eql false .int (T 36) (C (.int .i64 170))), some (31, true)⟩,
  ⟨some 38, .p (.pick (T 31) (T 37) (C (.bool false))), none⟩,
  ⟨some 39, .p (.mov (T 38)), none⟩,
  ⟨some 40, .call (.func 42) [], some (39, true)⟩,
  ⟨some 41, .call (.func 43) [(C (.int .u64 1))], some (39, true)⟩,
  ⟨some 42, .r (.loadN 1 (T 6)), some (39, true)⟩,
  ⟨some 43, .a (.bslice [(.int .i64 0), (.int .i64 0), (.int .i64 0)] 3 [(0, 1, (C (.int .i64 0))), (1, 1, (C (.int .i64 1))), (2, 1, (C (.int .i64 2)))]), some (39, true)⟩,
  ⟨some 44, .call (.func 49) [(T 40), (T 41), (T 42), (T 43)], some (39, true)⟩,
  ⟨some 45, .p (.eql false .int (T 44) (C (.int .i64 0))), some (39, true)⟩,
  ⟨some 46, .p (.pick (T 39) (T 45) (C (.bool false))), none⟩,
  ⟨some 0, .p (.mov (T 46)), none⟩]
def xq44_5 : List XO := xq44_5l
theorem xq44_5e : E3 xq44_5 xq44_5l := E3.rfl
def xq44 : XF := ⟨0, [.tmp 0],
  .seq (.ops xq44_0) (.seq (.ops xq44_1) (.seq (.ops xq44_2) (.seq (.ops xq44_3) (.seq (.ops xq44_4) (.seq (.draw xq44_5 [(9, (7, [])), (9, (8, [])), (9, (11, [])), (17, (15, [])), (17, (16, [])), (17, (19, []))]) (.ret))))))⟩
def yq44 := PLift.up (And.intro (And.intro (@xq44_0e) (And.intro (@xq44_1e) (@xq44_2e))) (And.intro (@xq44_3e) (And.intro (@xq44_4e) (@xq44_5e))))
theorem cq44 : zc Try.prog Try.f44 = some xq44 := by kernel_rfl
abbrev xq112_0l : List XO := [
  ⟨some 2, .p (.mov (C (.string (zB [])))), none⟩]
def xq112_0 : List XO := xq112_0l
theorem xq112_0e : E3 xq112_0 xq112_0l := E3.rfl
abbrev xq112_1l : List XO := [
  ⟨some 3, .p (.mov (T 0)), none⟩,
  ⟨some 4, .p (.lenS (T 3)), none⟩,
  ⟨some 5, .p (.bin .lss (T 4) (C (.int .i64 32))), none⟩]
def xq112_1 : List XO := xq112_1l
theorem xq112_1e : E3 xq112_1 xq112_1l := E3.rfl
abbrev xq112_2l : List XO := [
  ⟨some 6, .p (.mov (T 0)), none⟩,
  ⟨some 7, .p (.bin .add (T 6) (C (.string (zB [0])))), none⟩,
  ⟨some 0, .p (.mov (T 7)), none⟩]
def xq112_2 : List XO := xq112_2l
theorem xq112_2e : E3 xq112_2 xq112_2l := E3.rfl
def xq112_3b : XC :=
  .seq (.seq (.ops xq112_1) (.cond (T 5) (.skip) (.exit 0))) (.block 1 (.ops xq112_2))
def xq112_3 : XC := xq112_3b
theorem xq112_3k {pr : Prog} {k : List KI} {Q : XE → Fr → Heap → Prop} {t : Fr} {h : Heap} (hw : wpk pr xq112_3b k Q t h) : wpk pr xq112_3 k Q t h := hw
abbrev xq112_4l : List XO := [
  ⟨some 8, .p (.mov (T 0)), none⟩,
  ⟨some 9, .p (.slcS (T 8) none (some (C (.int .i64 32)))), none⟩,
  ⟨some 2, .p (.mov (T 9)), none⟩]
def xq112_4 : List XO := xq112_4l
theorem xq112_4e : E3 xq112_4 xq112_4l := E3.rfl
def xq112 : XF := ⟨1, [.tmp 2],
  .seq (.ops xq112_0) (.seq (.block 0 (.loop xq112_3)) (.seq (.ops xq112_4) (.ret)))⟩
def yq112 := PLift.up (And.intro (And.intro (@xq112_0e) (@xq112_1e)) (And.intro (@xq112_2e) (@xq112_4e)))
theorem cq112 : zc Try.prog Try.f112 = some xq112 := by kernel_rfl
abbrev xq113_0l : List XO := [
  ⟨some 2, .p (.mov (C (.string (zB [])))), none⟩]
def xq113_0 : List XO := xq113_0l
theorem xq113_0e : E3 xq113_0 xq113_0l := E3.rfl
abbrev xq113_1l : List XO := [
  ⟨some 5, .p (.mov (T 0)), none⟩,
  ⟨some 6, .p (.lenV (T 5)), none⟩,
  ⟨some 7, .p (.cint .u64 (T 6)), none⟩,
  ⟨some 8, .call (.func 40) [(T 7), (C (.int .i64 1))], none⟩,
  ⟨some 3, .p (.mov (T 8)), none⟩]
def xq113_1 : List XO := xq113_1l
theorem xq113_1e : E3 xq113_1 xq113_1l := E3.rfl
abbrev xq113_2l : List XO := [
  ⟨some 4, .p (.mov (C (.int .i64 0))), none⟩]
def xq113_2 : List XO := xq113_2l
theorem xq113_2e : E3 xq113_2 xq113_2l := E3.rfl
abbrev xq113_3l : List XO := [
  ⟨some 9, .p (.mov (T 4)), none⟩,
  ⟨some 10, .p (.mov (T 0)), none⟩,
  ⟨some 11, .p (.lenV (T 10)), none⟩,
  ⟨some 12, .p (.bin .lss (T 9) (T 11)), none⟩]
def xq113_3 : List XO := xq113_3l
theorem xq113_3e : E3 xq113_3 xq113_3l := E3.rfl
abbrev xq113_4l : List XO := [
  ⟨some 15, .p (.mov (T 3)), none⟩,
  ⟨some 16, .p (.mov (T 0)), none⟩,
  ⟨some 17, .p (.mov (T 4)), none⟩,
  ⟨some 18, .p (.iaddrS 1 (T 16) (T 17)), none⟩,
  ⟨some 19, .r (.load1 (T 18)), none⟩,
  ⟨some 20, .p (.cint .u64 (T 19)), none⟩,
  ⟨some 21, .call (.func 40) [(T 20), (C (.int .i64 1))], none⟩,
  ⟨some 22, .p (.bin .add (T 15) (T 21)), none⟩,
  ⟨some 3, .p (.mov (T 22)), none⟩]
def xq113_4 : List XO := xq113_4l
theorem xq113_4e : E3 xq113_4 xq113_4l := E3.rfl
abbrev xq113_5l : List XO := [
  ⟨some 13, .p (.mov (T 4)), none⟩,
  ⟨some 14, .p (.bin .add (T 13) (C (.int .i64 1))), none⟩,
  ⟨some 4, .p (.mov (T 14)), none⟩]
def xq113_5 : List XO := xq113_5l
theorem xq113_5e : E3 xq113_5 xq113_5l := E3.rfl
def xq113_6b : XC :=
  .seq (.seq (.ops xq113_3) (.cond (T 12) (.skip) (.exit 0))) (.seq (.block 1 (.ops xq113_4)) (.ops xq113_5))
def xq113_6 : XC := xq113_6b
theorem xq113_6k {pr : Prog} {k : List KI} {Q : XE → Fr → Heap → Prop} {t : Fr} {h : Heap} (hw : wpk pr xq113_6b k Q t h) : wpk pr xq113_6 k Q t h := hw
abbrev xq113_7l : List XO := [
  ⟨some 23, .p (.mov (T 3)), none⟩,
  ⟨some 2, .p (.mov (T 23)), none⟩]
def xq113_7 : List XO := xq113_7l
theorem xq113_7e : E3 xq113_7 xq113_7l := E3.rfl
def xq113 : XF := ⟨1, [.tmp 2],
  .seq (.ops xq113_0) (.seq (.ops xq113_1) (.seq (.seq (.ops xq113_2) (.block 0 (.loop xq113_6))) (.seq (.ops xq113_7) (.ret))))⟩
def yq113 := PLift.up (And.intro (And.intro (@xq113_0e) (And.intro (@xq113_1e) (@xq113_2e))) (And.intro (And.intro (@xq113_3e) (@xq113_4e)) (And.intro (@xq113_5e) (@xq113_7e))))
theorem cq113 : zc Try.prog Try.f113 = some xq113 := by kernel_rfl
abbrev xq96_0l : List XO := [
  ⟨some 1, .a (.box (T 0)), none⟩,
  ⟨some 2, .p (.mov (C (.string (zB [])))), none⟩]
def xq96_0 : List XO := xq96_0l
theorem xq96_0e : E3 xq96_0 xq96_0l := E3.rfl
abbrev xq96_1l : List XO := [
  ⟨some 3, .p (.faddr 0 (T 1)), none⟩,
  ⟨some 4, .r (.load1 (T 3)), none⟩,
  ⟨some 5, .call (.func 40) [(T 4), (C (.int .i64 8))], none⟩,
  ⟨some 6, .p (.faddr 1 (T 1)), none⟩,
  ⟨some 7, .r (.load1 (T 6)), none⟩,
  ⟨some 8, .call (.func 112) [(T 7)], none⟩,
  ⟨some 9, .p (.bin .add (T 5) (T 8)), none⟩,
  ⟨some 10, .p (.faddr 2 (T 1)), none⟩,
  ⟨some 11, .r (.load1 (T 10)), none⟩,
  ⟨some 12, .call (.func 112) [(T 11)], none⟩,
  ⟨some 13, .p (.bin .add (T 9) (T 12)), none⟩,
  ⟨some 14, .p (.faddr 3 (T 1)), none⟩,
  ⟨some 15, .r (.load1 (T 14)), none⟩,
  ⟨some 16, .call (.func 112) [(T 15)], none⟩,
  ⟨some 17, .p (.bin .add (T 13) (T 16)), none⟩,
  ⟨some 18, .p (.faddr 4 (T 1)), none⟩,
  ⟨some 19, .r (.load1 (T 18)), none⟩,
  ⟨some 20, .call (.func 113) [(T 19)], none⟩,
  ⟨some 21, .p (.bin .add (T 17) (T 20)), none⟩,
  ⟨some 2, .p (.mov (T 21)), none⟩]
def xq96_1 : List XO := xq96_1l
theorem xq96_1e : E3 xq96_1 xq96_1l := E3.rfl
def xq96 : XF := ⟨1, [.tmp 2],
  .seq (.ops xq96_0) (.seq (.draw xq96_1 [(4, (2, [])), (8, (2, [])), (8, (5, [])), (12, (2, [])), (12, (5, [])), (12, (9, [])), (16, (2, [])), (16, (5, [])), (16, (9, [])), (16, (13, []))]) (.ret))⟩
def yq96 := PLift.up (And.intro (@xq96_0e) (@xq96_1e))
theorem cq96 : zc Try.prog Try.f96 = some xq96 := by kernel_rfl
abbrev xq77_0l : List XO := [
  ⟨some 1, .a (.box (T 0)), none⟩,
  ⟨some 2, .p (.mov (C (.string (zB [])))), none⟩]
def xq77_0 : List XO := xq77_0l
theorem xq77_0e : E3 xq77_0 xq77_0l := E3.rfl
abbrev xq77_1l : List XO := [
  ⟨some 3, .r (.loadN 5 (T 1)), none⟩,
  ⟨some 4, .call (.func 96) [(T 3)], none⟩,
  ⟨some 5, .a (.bslice [(.string (zB []))] 1 [(0, 1, (T 4))]), none⟩,
  ⟨some 6, .call (.func 28) [(C (.int .u8 72)), (T 5)], none⟩,
  ⟨some 2, .p (.mov (T 6)), none⟩]
def xq77_1 : List XO := xq77_1l
theorem xq77_1e : E3 xq77_1 xq77_1l := E3.rfl
def xq77 : XF := ⟨1, [.tmp 2],
  .seq (.ops xq77_0) (.seq (.ops xq77_1) (.ret))⟩
def yq77 := PLift.up (And.intro (@xq77_0e) (@xq77_1e))
theorem cq77 : zc Try.prog Try.f77 = some xq77 := by kernel_rfl
abbrev xq78_0l : List XO := [
  ⟨some 1, .a (.box (T 0)), none⟩,
  ⟨some 2, .a (.alloc [(.int .u64 0), (.string (zB [])), (.string (zB [])), (.string (zB [])), (.slice none 0 0)]), none⟩]
def xq78_0 : List XO := xq78_0l
theorem xq78_0e : E3 xq78_0 xq78_0l := E3.rfl
abbrev xq78_1l : List XO := [
  ⟨some 3, .p (.faddr 0 (T 1)), none⟩,
  ⟨some 4, .r (.load1 (T 3)), none⟩,
  ⟨some 5, .p (.faddr 1 (T 1)), none⟩,
  ⟨some 6, .r (.load1 (T 5)), none⟩,
  ⟨some 7, .p (.faddr 2 (T 1)), none⟩,
  ⟨some 8, .r (.load1 (T 7)), none⟩,
  ⟨some 9, .p (.faddr 3 (T 1)), none⟩,
  ⟨some 10, .r (.load1 (T 9)), none⟩,
  ⟨some 11, .p (.faddr 4 (T 1)), none⟩,
  ⟨some 12, .r (.load1 (T 11)), none⟩,
  ⟨some 13, .p (.build [(.int .u64 0), (.string (zB [])), (.string (zB [])), (.string (zB [])), (.slice none 0 0)] [(0, 1, (T 4)), (1, 1, (T 6)), (2, 1, (T 8)), (3, 1, (T 10)), (4, 1, (T 12))]), none⟩,
  ⟨none, .e (.store 5 (T 2) (T 13)), none⟩]
def xq78_1 : List XO := xq78_1l
theorem xq78_1e : E3 xq78_1 xq78_1l := E3.rfl
def xq78 : XF := ⟨1, [.cellN 2 5],
  .seq (.ops xq78_0) (.seq (.ops xq78_1) (.ret))⟩
def yq78 := PLift.up (And.intro (@xq78_0e) (@xq78_1e))
theorem cq78 : zc Try.prog Try.f78 = some xq78 := by kernel_rfl
abbrev xq12_0l : List XO := [
  ⟨some 6, .p (.mov (C (.bool false))), none⟩]
def xq12_0 : List XO := xq12_0l
theorem xq12_0e : E3 xq12_0 xq12_0l := E3.rfl
abbrev xq12_1l : List XO := [
  ⟨some 21, .call (.func 44) [], none⟩,
  ⟨some 22, .p (.un .not (T 21)), none⟩]
def xq12_1 : List XO := xq12_1l
theorem xq12_1e : E3 xq12_1 xq12_1l := E3.rfl
abbrev xq12_2l : List XO := [
  ⟨some 6, .p (.mov (C (.bool false))), none⟩]
def xq12_2 : List XO := xq12_2l
theorem xq12_2e : E3 xq12_2 xq12_2l := E3.rfl
abbrev xq12_3l : List XO := [
  ⟨some 23, .p (.mov (T 2)), none⟩,
  ⟨some 24, .p (.bin .rem (T 23) (C (.int .u64 16))), none⟩,
  ⟨some 25, .p (.cint .i64 (T 24)), none⟩,
  ⟨some 7, .p (.mov (T 25)), none⟩]
def xq12_3 : List XO := xq12_3l
theorem xq12_3e : E3 xq12_3 xq12_3l := E3.rfl
abbrev xq12_4l : List XO := [
  ⟨some 26, .p (.mov (T 0)), none⟩,
  ⟨some 27, .p (.bin .and (T 26) (C (.int .i64 65535))), none⟩,
  ⟨some 28, .call (.func 47) [(T 27)], none⟩,
  ⟨some 29, .p (.mov (T 1)), none⟩,
  ⟨some 30, .p (.bin .and (T 29) (C (.int .i64 65535))), none⟩,
  ⟨some 31, .call (.func 47) [(T 30)], none⟩,
  ⟨some 8, .p (.mov (T 28)), none⟩,
  ⟨some 9, .p (.mov (T 31)), none⟩]
def xq12_4 : List XO := xq12_4l
theorem xq12_4e : E3 xq12_4 xq12_4l := E3.rfl
abbrev xq12_5l : List XO := [
  ⟨some 32, .p (.mov (T 2)), none⟩,
  ⟨some 33, .call (.func 43) [(T 32)], none⟩,
  ⟨some 10, .a (.alloc [(.int .u64 0), (.string (zB [])), (.string (zB [])), (.string (zB [])), (.slice none 0 0)]), none⟩,
  ⟨none, .e (.store 5 (T 10) (T 33)), none⟩]
def xq12_5 : List XO := xq12_5l
theorem xq12_5e : E3 xq12_5 xq12_5l := E3.rfl
abbrev xq12_6l : List XO := [
  ⟨some 34, .p (.build [(.slice none 0 0)] []), none⟩,
  ⟨some 11, .a (.alloc [(.slice none 0 0)]), none⟩,
  ⟨none, .e (.store 1 (T 11) (T 34)), none⟩,
  ⟨some 12, .p (.mov (C (.int .i64 0))), none⟩]
def xq12_6 : List XO := xq12_6l
theorem xq12_6e : E3 xq12_6 xq12_6l := E3.rfl
abbrev xq12_7l : List XO := [
  ⟨some 35, .p (.mov (T 9)), none⟩,
  ⟨some 36, .p (.lenV (T 35)), none⟩,
  ⟨some 37, .p (.bin .sub (T 36) (C (.int .i64 1))), none⟩,
  ⟨some 13, .p (.mov (T 37)), none⟩]
def xq12_7 : List XO := xq12_7l
theorem xq12_7e : E3 xq12_7 xq12_7l := E3.rfl
abbrev xq12_8l : List XO := [
  ⟨some 38, .p (.mov (T 13)), none⟩,
  ⟨some 39, .p (.bin .geq (T 38) (C (.int .i64 0))), none⟩]
def xq12_8 : List XO := xq12_8l
theorem xq12_8e : E3 xq12_8 xq12_8l := E3.rfl
abbrev xq12_9l : List XO := [
  ⟨some 43, .call (.func 42) [], none⟩,
  ⟨some 44, .p (.mov (T 9)), none⟩,
  ⟨some 45, .p (.mov (T 13)), none⟩,
  ⟨some 46, .p (.iaddrS 1 (T 44) (T 45)), none⟩,
  ⟨some 47, .r (.load1 (T 46)), none⟩,
  ⟨some 48, .r (.loadN 5 (T 10)), none⟩,
  ⟨some 49, .call (.func 41) [(T 43), (T 47), (T 48)], none⟩,
  ⟨some 42, .p (.mov (T 49)), none⟩,
  ⟨some 50, .p (.ext (T 42) 0), none⟩,
  ⟨some 51, .p (.ext (T 42) 1), none⟩,
  ⟨some 14, .a (.alloc [(.int .i64 0), (.string (zB []))]), none⟩,
  ⟨none, .e (.store 2 (T 14) (T 50)), none⟩,
  ⟨some 15, .p (.mov (T 51)), none⟩]
def xq12_9 : List XO := xq12_9l
theorem xq12_9e : E3 xq12_9 xq12_9l := E3.rfl
abbrev xq12_10l : List XO := [
  ⟨some 52, .p (.mov (T 15)), none⟩,
  ⟨some 53, .p (.eql true .int (T 52) (C (.int .i64 0))), none⟩]
def xq12_10 : List XO := xq12_10l
theorem xq12_10e : E3 xq12_10 xq12_10l := E3.rfl
abbrev xq12_11l : List XO := [
  ⟨some 6, .p (.mov (C (.bool false))), none⟩]
def xq12_11 : List XO := xq12_11l
theorem xq12_11e : E3 xq12_11 xq12_11l := E3.rfl
abbrev xq12_12l : List XO := [
  ⟨some 54, .r (.loadN 1 (T 11)), none⟩,
  ⟨some 55, .r (.loadN 2 (T 14)), none⟩,
  ⟨some 56, .call (.func 48) [(T 54), (T 55)], none⟩,
  ⟨some 57, .r (.loadN 2 (T 14)), none⟩,
  ⟨some 58, .call (.func 48) [(T 56), (T 57)], none⟩,
  ⟨none, .e (.store 1 (T 11) (T 58)), none⟩]
def xq12_12 : List XO := xq12_12l
theorem xq12_12e : E3 xq12_12 xq12_12l := E3.rfl
abbrev xq12_13l : List XO := [
  ⟨some 59, .p (.mov (T 0)), none⟩,
  ⟨some 60, .p (.mov (T 9)), none⟩,
  ⟨some 61, .p (.mov (T 13)), none⟩,
  ⟨some 62, .p (.iaddrS 1 (T 60) (T 61)), none⟩,
  ⟨some 63, .r (.load1 (T 62)), none⟩,
  ⟨some 64, .p (.cint .u64 (T 63)), none⟩,
  ⟨some 65, .p (.bin .shr (T 59) (T 64)), none⟩,
  ⟨some 66, .p (.bin .and (T 65) (C (.int .i64 1))), none⟩,
  ⟨some 67, .p (.eql false .int (T 66) (C (.int .i64 1))), none⟩]
def xq12_13 : List XO := xq12_13l
theorem xq12_13e : E3 xq12_13 xq12_13l := E3.rfl
abbrev xq12_14l : List XO := [
  ⟨some 68, .p (.mov (T 12)), none⟩,
  ⟨some 69, .p (.bin .add (T 68) (C (.int .i64 1))), none⟩,
  ⟨some 12, .p (.mov (T 69)), none⟩]
def xq12_14 : List XO := xq12_14l
theorem xq12_14e : E3 xq12_14 xq12_14l := E3.rfl
abbrev xq12_15l : List XO := [
  ⟨some 40, .p (.mov (T 13)), none⟩,
  ⟨some 41, .p (.bin .sub (T 40) (C (.int .i64 1))), none⟩,
  ⟨some 13, .p (.mov (T 41)), none⟩]
def xq12_15 : List XO := xq12_15l
theorem xq12_15e : E3 xq12_15 xq12_15l := E3.rfl
def xq12_16b : XC :=
  .seq (.seq (.ops xq12_8) (.cond (T 39) (.skip) (.exit 0))) (.seq (.block 1 (.seq (.draw xq12_9 [(4, (0, [])), (5, (0, []))]) (.seq (.seq (.ops xq12_10) (.cond (T 53) (.seq (.ops xq12_11) (.ret)) (.skip))) (.seq (.draw xq12_12 [(3, (2, []))]) (.seq (.ops xq12_13) (.cond (T 67) (.ops xq12_14) (.skip))))))) (.ops xq12_15))
def xq12_16 : XC := xq12_16b
theorem xq12_16k {pr : Prog} {k : List KI} {Q : XE → Fr → Heap → Prop} {t : Fr} {h : Heap} (hw : wpk pr xq12_16b k Q t h) : wpk pr xq12_16 k Q t h := hw
abbrev xq12_17l : List XO := [
  ⟨some 16, .p (.mov (C (.int .i64 0))), none⟩]
def xq12_17 : List XO := xq12_17l
theorem xq12_17e : E3 xq12_17 xq12_17l := E3.rfl
abbrev xq12_18l : List XO := [
  ⟨some 70, .p (.mov (T 12)), none⟩,
  ⟨some 71, .p (.bin .mul (C (.int .i64 2)) (T 70)), none⟩,
  ⟨some 72, .p (.mov (T 8)), none⟩,
  ⟨some 73, .p (.lenV (T 72)), none⟩,
  ⟨some 74, .p (.bin .leq (T 71) (T 73)), none⟩]
def xq12_18 : List XO := xq12_18l
theorem xq12_18e : E3 xq12_18 xq12_18l := E3.rfl
abbrev xq12_19l : List XO := [
  ⟨some 16, .p (.mov (C (.int .i64 170))), none⟩]
def xq12_19 : List XO := xq12_19l
theorem xq12_19e : E3 xq12_19 xq12_19l := E3.rfl
abbrev xq12_20l : List XO := [
  ⟨some 75, .p (.mov (T 8)), none⟩,
  ⟨some 76, .p (.lenV (T 75)), none⟩,
  ⟨some 77, .p (.eql false .int (T 76) (C (.int .i64 0))), none⟩]
def xq12_20 : List XO := xq12_20l
theorem xq12_20e : E3 xq12_20 xq12_20l := E3.rfl
abbrev xq12_21l : List XO := [
  ⟨some 16, .p (.mov (C (.int .i64 1))), none⟩]
def xq12_21 : List XO := xq12_21l
theorem xq12_21e : E3 xq12_21 xq12_21l := E3.rfl
abbrev xq12_22l : List XO := [
  ⟨some 78, .call (.func 44) [], none⟩,
  ⟨some 79, .p (.un .not (T 78)), none⟩,
  ⟨some 80, .p (.mov (T 79)), none⟩,
  ⟨some 81, .p (.faddr 0 (T 11)), some (80, false)⟩,
  ⟨some 82, .r (.load1 (T 81)), some (80, false)⟩,
  ⟨some 83, .p (.lenV (T 82)), some (80, false)⟩,
  ⟨some 84, .p (.mov (T 9)), some (80, false)⟩,
  ⟨some 85, .p (.lenV (T 84)), some (80, false)⟩,
  ⟨some 86, .p (.eql true .int (T 83) (T 85)), some (80, false)⟩,
  ⟨some 87, .p (.pick (T 80) (C (.bool true)) (T 86)), none⟩,
  ⟨some 88, .p (.mov (T 87)), none⟩,
  ⟨some 89, .call (.func 42) [], some (88, false)⟩,
  ⟨some 90, .r (.loadN 5 (T 10)), some (88, false)⟩,
  ⟨some 91, .r (.loadN 1 (T 11)), some (88, false)⟩,
  ⟨some 92, .p (.mov (T 8)), some (88, false)⟩,
  ⟨some 93, .call (.func 49) [(T 89), (T 90), (T 91), (T 92)], some (88, false)⟩,
  ⟨some 94, .p (.mov (T 16)), some (88, false)⟩,
  ⟨some 95, .p (.eql true .int (T 93) (T 94)), some (88, false)⟩,
  ⟨some 96, .p (.pick (T 88) (C (.bool true)) (T 95)), none⟩]
def xq12_22 : List XO := xq12_22l
theorem xq12_22e : E3 xq12_22 xq12_22l := E3.rfl
abbrev xq12_23l : List XO := [
  ⟨some 6, .p (.mov (C (.bool false))), none⟩]
def xq12_23 : List XO := xq12_23l
theorem xq12_23e : E3 xq12_23 xq12_23l := E3.rfl
abbrev xq12_24l : List XO := [
  ⟨some 97, .p (.mov (T 9)), none⟩,
  ⟨some 98, .p (.lenV (T 97)), none⟩,
  ⟨some 99, .p (.eql false .int (T 98) (C (.int .i64 0))), none⟩,
  ⟨some 100, .p (.mov (T 99)), none⟩,
  ⟨some 101, .p (.mov (T 16)), some (100, false)⟩,
  ⟨some 102, .p (.eql true .int (T 101) (C (.int .i64 0))), some (100, false)⟩,
  ⟨some 103, .p (.pick (T 100) (C (.bool true)) (T 102)), none⟩]
def xq12_24 : List XO := xq12_24l
theorem xq12_24e : E3 xq12_24 xq12_24l := E3.rfl
abbrev xq12_25l : List XO := [
  ⟨some 6, .p (.mov (C (.bool true))), none⟩]
def xq12_25 : List XO := xq12_25l
theorem xq12_25e : E3 xq12_25 xq12_25l := E3.rfl
abbrev xq12_26l : List XO := [
  ⟨some 104, .p (.mov (T 7)), none⟩,
  ⟨some 105, .p (.mov (T 9)), none⟩,
  ⟨some 106, .p (.lenV (T 105)), none⟩,
  ⟨some 107, .p (.bin .rem (T 104) (T 106)), none⟩,
  ⟨some 108, .p (.mov (T 9)), none⟩,
  ⟨some 109, .p (.lenV (T 108)), none⟩,
  ⟨some 110, .p (.bin .add (T 107) (T 109)), none⟩,
  ⟨some 111, .p (.mov (T 9)), none⟩,
  ⟨some 112, .p (.lenV (T 111)), none⟩,
  ⟨some 113, .p (.bin .rem (T 110) (T 112)), none⟩,
  ⟨some 17, .p (.mov (T 113)), none⟩]
def xq12_26 : List XO := xq12_26l
theorem xq12_26e : E3 xq12_26 xq12_26l := E3.rfl
abbrev xq12_27l : List XO := [
  ⟨some 114, .r (.loadN 1 (T 11)), none⟩,
  ⟨some 115, .call (.func 50) [(T 114)], none⟩,
  ⟨some 18, .a (.alloc [(.slice none 0 0)]), none⟩,
  ⟨none, .e (.store 1 (T 18) (T 115)), none⟩]
def xq12_27 : List XO := xq12_27l
theorem xq12_27e : E3 xq12_27 xq12_27l := E3.rfl
abbrev xq12_28l : List XO := [
  ⟨some 116, .p (.faddr 0 (T 18)), none⟩,
  ⟨some 117, .r (.load1 (T 116)), none⟩,
  ⟨some 118, .p (.mov (T 17)), none⟩,
  ⟨some 119, .p (.faddr 0 (T 18)), none⟩,
  ⟨some 120, .r (.load1 (T 119)), none⟩,
  ⟨some 121, .p (.mov (T 17)), none⟩,
  ⟨some 122, .p (.iaddrS 2 (T 120) (T 121)), none⟩,
  ⟨some 123, .p (.faddr 1 (T 122)), none⟩,
  ⟨some 124, .r (.load1 (T 123)), none⟩,
  ⟨some 125, .p (.idxS (T 124) (C (.int .i64 0))), none⟩,
  ⟨some 126, .p (.bin .xor (T 125) (C (.int .u8 1))), none⟩,
  ⟨some 127, .a (.bslice [(.int .u8 0)] 1 [(0, 1, (T 126))]), none⟩,
  ⟨some 128, .r (.cb2s (T 127)), none⟩,
  ⟨some 129, .p (.faddr 0 (T 18)), none⟩,
  ⟨some 130, .r (.load1 (T 129)), none⟩,
  ⟨some 131, .p (.mov (T 17)), none⟩,
  ⟨some 132, .p (.iaddrS 2 (T 130) (T 131)), none⟩,
  ⟨some 133, .p (.faddr 1 (T 132)), none⟩,
  ⟨some 134, .r (.load1 (T 133)), none⟩,
  ⟨some 135, .p (.slcS (T 134) (some (C (.int .i64 1))) none), none⟩,
  ⟨some 136, .p (.bin .add (T 128) (T 135)), none⟩,
  ⟨some 137, .p (.iaddrS 2 (T 117) (T 118)), none⟩,
  ⟨some 138, .p (.faddr 1 (T 137)), none⟩,
  ⟨none, .e (.store 1 (T 138) (T 136)), none⟩]
def xq12_28 : List XO := xq12_28l
theorem xq12_28e : E3 xq12_28 xq12_28l := E3.rfl
abbrev xq12_29l : List XO := [
  ⟨some 139, .r (.loadN 1 (T 11)), none⟩,
  ⟨some 140, .call (.func 50) [(T 139)], none⟩,
  ⟨some 19, .a (.alloc [(.slice none 0 0)]), none⟩,
  ⟨none, .e (.store 1 (T 19) (T 140)), none⟩]
def xq12_29 : List XO := xq12_29l
theorem xq12_29e : E3 xq12_29 xq12_29l := E3.rfl
abbrev xq12_30l : List XO := [
  ⟨some 141, .p (.faddr 0 (T 19)), none⟩,
  ⟨some 142, .r (.load1 (T 141)), none⟩,
  ⟨some 143, .p (.faddr 0 (T 19)), none⟩,
  ⟨some 144, .r (.load1 (T 143)), none⟩,
  ⟨some 145, .p (.mov (T 17)), none⟩,
  ⟨some 146, .p (.iaddrS 2 (T 144) (T 145)), none⟩,
  ⟨some 147, .r (.loadN 2 (T 146)), none⟩,
  ⟨some 148, .a (.bslice [(.int .i64 0), (.string (zB []))] 1 [(0, 2, (T 147))]), none⟩,
  ⟨some 149, .e (.append 2 24 (T 142) (T 148)), none⟩,
  ⟨some 150, .p (.faddr 0 (T 19)), none⟩,
  ⟨none, .e (.store 1 (T 150) (T 149)), none⟩]
def xq12_30 : List XO := xq12_30l
theorem xq12_30e : E3 xq12_30 xq12_30l := E3.rfl
abbrev xq12_31l : List XO := [
  ⟨some 151, .p (.build [(.int .u64 0), (.string (zB [])), (.string (zB [])), (.string (zB [])), (.slice none 0 0)] []), none⟩,
  ⟨some 20, .a (.alloc [(.int .u64 0), (.string (zB [])), (.string (zB [])), (.string (zB [])), (.slice none 0 0)]), none⟩,
  ⟨none, .e (.store 5 (T 20) (T 151)), none⟩]
def xq12_31 : List XO := xq12_31l
theorem xq12_31e : E3 xq12_31 xq12_31l := E3.rfl
abbrev xq12_32l : List XO := [
  ⟨some 152, .call (.func 42) [], none⟩,
  ⟨some 153, .r (.loadN 5 (T 10)), none⟩,
  ⟨some 154, .r (.loadN 1 (T 18)), none⟩,
  ⟨some 155, .p (.mov (T 8)), none⟩,
  ⟨some 156, .call (.func 49) [(T 152), (T 153), (T 154), (T 155)], none⟩,
  ⟨some 157, .p (.eql false .int (T 156) (C (.int .i64 170))), none⟩,
  ⟨some 158, .p (.mov (T 157)), none⟩,
  ⟨some 159, .call (.func 42) [], some (158, true)⟩,
  ⟨some 160, .r (.loadN 5 (T 10)), some (158, true)⟩,
  ⟨some 161, .r (.loadN 1 (T 19)), some (158, true)⟩,
  ⟨some 162, .p (.mov (T 8)), some (158, true)⟩,
  ⟨some 163, .call (.func 49) [(T 159), (T 160), (T 161), (T 162)], some (158, true)⟩,
  ⟨some 164, .p (.eql false .int (T 163) (C (.int .i64 170))), some (158, true)⟩,
  ⟨some 165, .p (.pick (T 158) (T 164) (C (.bool false))), none⟩,
  ⟨some 166, .p (.mov (T 165)), none⟩,
  ⟨some 167, .call (.func 42) [], some (166, true)⟩,
  ⟨some 168, .r (.loadN 5 (T 20)), some (166, true)⟩,
  ⟨some 169, .r (.loadN 1 (T 11)), some (166, true)⟩,
  ⟨some 170, .p (.mov (T 8)), some (166, true)⟩,
  ⟨some 171, .call (.func 49) [(T 167), (T 168), (T 169), (T 170)], some (166, true)⟩,
  ⟨some 172, .p (.eql false .int (T 171) (C (.int .i64 80))), some (166, true)⟩,
  ⟨some 173, .p (.pick (T 166) (T 172) (C (.bool false))), none⟩,
  ⟨some 174, .p (.mov (T 173)), none⟩,
  ⟨some 175, .call (.func 42) [], some (174, true)⟩,
  ⟨some 176, .r (.loadN 5 (T 10)), some (174, true)⟩,
  ⟨some 177, .r (.loadN 1 (T 11)), some (174, true)⟩,
  ⟨some 178, .p (.mov (T 8)), some (174, true)⟩,
  ⟨some 179, .call (.func 49) [(T 175), (T 176), (T 177), (T 178)], some (174, true)⟩,
  ⟨some 180, .p (.eql false .int (T 179) (C (.int .i64 0))), some (174, true)⟩,
  ⟨some 181, .p (.pick (T 174) (T 180) (C (.bool false))), none⟩,
  ⟨some 6, .p (.mov (T 181)), none⟩]
def xq12_32 : List XO := xq12_32l
theorem xq12_32e : E3 xq12_32 xq12_32l := E3.rfl
def xq12 : XF := ⟨3, [.tmp 6],
  .seq (.ops xq12_0) (.seq (.seq (.ops xq12_1) (.cond (T 22) (.seq (.ops xq12_2) (.ret)) (.skip))) (.seq (.ops xq12_3) (.seq (.ops xq12_4) (.seq (.ops xq12_5) (.seq (.ops xq12_6) (.seq (.seq (.ops xq12_7) (.block 0 (.loop xq12_16))) (.seq (.ops xq12_17) (.seq (.seq (.ops xq12_18) (.cond (T 74) (.ops xq12_19) (.skip))) (.seq (.seq (.ops xq12_20) (.cond (T 77) (.ops xq12_21) (.skip))) (.seq (.seq (.draw xq12_22 [(12, (11, [])), (13, (11, []))]) (.cond (T 96) (.seq (.ops xq12_23) (.ret)) (.skip))) (.seq (.seq (.ops xq12_24) (.cond (T 103) (.seq (.ops xq12_25) (.ret)) (.skip))) (.seq (.ops xq12_26) (.seq (.ops xq12_27) (.seq (.draw xq12_28 [(1, (23, [])), (4, (23, [])), (8, (23, []))]) (.seq (.ops xq12_29) (.seq (.draw xq12_30 [(1, (8, [])), (3, (8, [])), (6, (8, []))]) (.seq (.ops xq12_31) (.seq (.draw xq12_32 [(1, (0, [])), (2, (0, [])), (8, (7, [])), (9, (7, [])), (16, (15, [])), (17, (15, [])), (24, (23, [])), (25, (23, []))]) (.ret)))))))))))))))))))⟩
def yq12 := PLift.up (And.intro (And.intro (And.intro (And.intro (And.intro (@xq12_0e) (@xq12_1e)) (And.intro (@xq12_2e) (@xq12_3e))) (And.intro (And.intro (@xq12_4e) (@xq12_5e)) (And.intro (@xq12_6e) (@xq12_7e)))) (And.intro (And.intro (And.intro (@xq12_8e) (@xq12_9e)) (And.intro (@xq12_10e) (@xq12_11e))) (And.intro (And.intro (@xq12_12e) (@xq12_13e)) (And.intro (@xq12_14e) (@xq12_15e))))) (And.intro (And.intro (And.intro (And.intro (@xq12_17e) (@xq12_18e)) (And.intro (@xq12_19e) (@xq12_20e))) (And.intro (And.intro (@xq12_21e) (@xq12_22e)) (And.intro (@xq12_23e) (@xq12_24e)))) (And.intro (And.intro (And.intro (@xq12_25e) (@xq12_26e)) (And.intro (@xq12_27e) (@xq12_28e))) (And.intro (And.intro (@xq12_29e) (@xq12_30e)) (And.intro (@xq12_31e) (@xq12_32e))))))
theorem cq12 : zc Try.prog Try.f12 = some xq12 := by kernel_rfl
end Go.X
end
section
open Go Go.X
namespace Go.X
set_option linter.unusedVariables false
def intCells : List Value → Option (List Int)
  | [] => some []
  | .int .i64 x :: r => if -9223372036854775808 ≤ x ∧ x < 9223372036854775808 then (match intCells r with | some l => some (x :: l) | none => none) else none
  | _ :: _ => none
def zAu (l : List Int) : List Value := l.map fun x => .int .i64 x
theorem cellsOfInts_len (l : List Int) : (zAu l).length = l.length := by simp [zAu]
theorem intCells_eq : ∀ {cs : List Value} {l : List Int}, intCells cs = some l → cs = zAu l ∧ ∀ x ∈ l, -9223372036854775808 ≤ x ∧ x < 9223372036854775808
  | [], l, h => by cases h; exact ⟨rfl, by simp⟩
  | c :: cs, l, h => by
    unfold intCells at h
    split at h
    · rename_i heq; cases heq
    · rename_i s r heq
      cases heq
      split at h
      · rename_i hr
        split at h
        · rename_i q hq
          cases h
          obtain ⟨h1, h2⟩ := intCells_eq hq
          refine ⟨by rw [h1]; rfl, fun x hx => ?_⟩
          rcases List.mem_cons.1 hx with rfl | hx
          · exact hr
          · exact h2 x hx
        · cases h
      · cases h
    · cases h
theorem intCells_cells : ∀ {l : List Int}, (∀ x ∈ l, -9223372036854775808 ≤ x ∧ x < 9223372036854775808) → intCells (zAu l) = some l
  | [], _ => rfl
  | x :: l, h => by
    have := intCells_cells (l := l) (fun y hy => h y (by simp [hy]))
    unfold zAu at this ⊢
    simp only [List.map_cons, intCells, this]
    rw [if_pos (h x (by simp))]
def zAC (h : Heap) : Value → Option (List Int)
  | .slice none n _ => if n = 0 then some [] else none
  | .slice (some a) n _ => if n = 0 then some [] else (match h.loadN a n with | some cs => intCells cs | none => none)
  | _ => none
theorem zCe {h h' : Heap} (wf : HWF h) (g : Grows h h') {v : Value} {l : List Int} (hs : zAC h v = some l) : zAC h' v = some l := by
  unfold zAC at hs ⊢
  split at hs
  · exact hs
  · split at hs
    · rename_i h0; rw [if_pos h0]; exact hs
    · rename_i h0
      rw [if_neg h0]
      split at hs
      · rename_i cs hcs; rw [g.loadN wf hcs]; exact hs
      · cases hs
  · cases hs
theorem zBd {h : Heap} {v : Value} {l : List Int} (hs : zAC h v = some l) : (∀ x ∈ l, -9223372036854775808 ≤ x ∧ x < 9223372036854775808) ∧ ∃ a cap, v = .slice a l.length cap ∧ ∀ i, i < l.length → ∃ B o, (∀ k : IntKind, zAf 1 v (.int k (i : Int)) = some (.pointer (some ⟨B, o, none⟩))) ∧ h.load ⟨B, o, none⟩ = some (.int .i64 (l.getD i 0)) := by
  unfold zAC at hs
  split at hs
  · rename_i n c
    split at hs
    · rename_i h0
      cases hs
      subst h0
      exact ⟨by simp, none, c, rfl, fun i hi => by simp at hi⟩
    · cases hs
  · rename_i a n c
    split at hs
    · rename_i h0
      cases hs
      subst h0
      exact ⟨by simp, some a, c, rfl, fun i hi => by simp at hi⟩
    · split at hs
      · rename_i cs hcs
        obtain ⟨rfl, hb⟩ := intCells_eq hs
        have hn : l.length = n := by
          have := loadN_len2 hcs
          rw [cellsOfInts_len] at this
          exact this
        subst hn
        refine ⟨hb, some a, c, rfl, fun i hi => ⟨a.block, a.off + i, fun k => zBl hi, zCQ hcs ?_⟩⟩
        simp [zAu, List.getElem?_eq_getElem hi, List.getD_eq_getElem?_getD]
      · cases hs
  · cases hs
def memAt (l : List Int) (i : Nat) : Bool := !(decide (l.getD i 0 < 0) || decide (l.getD i 0 ≥ 16) || (decide (0 < i) && decide (l.getD (i - 1) 0 ≥ l.getD i 0)))
def zAX (l : List Int) : Bool := (List.range l.length).all (memAt l) && decide (1 ≤ l.length)
def zBx : Prim := fun args h => match args with
  | [v] => match zAC h v with | some l => if l.length ≤ zU then some (.bool (zAX l), h) else none | none => none
  | _ => none
theorem membersG_at {h : Heap} {v : Value} {l : List Int} (hs : zAC h v = some l) (hl : l.length ≤ zU) : zBx [v] h = some (.bool (zAX l), h) := by simp only [zBx, hs, if_pos hl]
theorem membersP_bad {l : List Int} {i : Nat} (hi : i < l.length) (h : memAt l i = false) : zAX l = false := by
  unfold zAX
  rw [Bool.and_eq_false_iff]
  left
  rw [List.all_eq_false]
  exact ⟨i, by simpa using hi, by simp [h]⟩
theorem membersP_good {l : List Int} (h : ∀ j, j < l.length → memAt l j = true) : zAX l = decide (1 ≤ l.length) := by
  unfold zAX
  have : (List.range l.length).all (memAt l) = true := by
    rw [List.all_eq_true]
    intro j hj
    exact h j (by simpa using hj)
  rw [this, Bool.true_and]
theorem members_ok (pr : Prog) (h : Heap) (v : Value) (l : List Int) (hs : zAC h v = some l) (hl : l.length ≤ zU) : Comes pr xq82 [v] h (.bool (zAX l)) := by
  apply Comes.of
  unfold xq82
  dsimp only [zd]
  have hr64 : zU = 140737488355328 := rfl
  obtain ⟨hb, a, cap, rfl, hel⟩ := zBd hs
  (repeat (first | refine zS ?_ | refine zL ?_ | refine zR ?_ | refine zE ?_ | refine zC ?_ | refine zJ ?_ | refine zK ?_ | refine zP ?_ | refine zF ?_ | refine zH ?_ | refine zG ?_ | refine zI (by decide) ?_ | refine zQ ?_ | ((first | refine zD ?_ | refine zN ?_ | refine zT rfl rfl ?_ | refine zO rfl ?_ | refine zM ?_); simp only [yq82.down, zA, lemS.down, lemC.down, Int.reduceBEq, Nat.reduceAdd, Nat.reduceLeDiff, reduceIte, Nat.reduceEqDiff, Int.reduceLT, Int.reduceLE, Int.reduceGT, Int.reduceGE, Int.reduceEq, Int.reduceAdd, Int.reduceSub, Int.reduceMul, reduceCtorEq, lemH.down])))
  refine zAA (fun m t g => ∃ i, m = l.length - i ∧ i ≤ l.length ∧ g = h ∧ (∀ j, j < i → memAt l j = true) ∧ t.get 0 = .slice a l.length cap ∧ t.get 5 = .slice a l.length cap ∧ t.get 6 = .int .i64 (l.length : Int) ∧ t.get 7 = .int .i64 (i : Int)) ?_ l.length _ _ ⟨0, rfl, by omega, rfl, by simp, by simp only [yq82.down, zA, lemS.down, lemC.down, Int.reduceBEq, Nat.reduceAdd, Nat.reduceLeDiff, reduceIte, Nat.reduceEqDiff, Int.reduceLT, Int.reduceLE, Int.reduceGT, Int.reduceGE, Int.reduceEq, Int.reduceAdd, Int.reduceSub, Int.reduceMul, reduceCtorEq], by simp only [yq82.down, zA, lemS.down, lemC.down, Int.reduceBEq, Nat.reduceAdd, Nat.reduceLeDiff, reduceIte, Nat.reduceEqDiff, Int.reduceLT, Int.reduceLE, Int.reduceGT, Int.reduceGE, Int.reduceEq, Int.reduceAdd, Int.reduceSub, Int.reduceMul, reduceCtorEq], by simp only [yq82.down, zA, lemS.down, lemC.down, Int.reduceBEq, Nat.reduceAdd, Nat.reduceLeDiff, reduceIte, Nat.reduceEqDiff, Int.reduceLT, Int.reduceLE, Int.reduceGT, Int.reduceGE, Int.reduceEq, Int.reduceAdd, Int.reduceSub, Int.reduceMul, reduceCtorEq], by (simp only [yq82.down, zA, lemS.down, lemC.down, Int.reduceBEq, Nat.reduceAdd, Nat.reduceLeDiff, reduceIte, Nat.reduceEqDiff, Int.reduceLT, Int.reduceLE, Int.reduceGT, Int.reduceGE, Int.reduceEq, Int.reduceAdd, Int.reduceSub, Int.reduceMul, reduceCtorEq]) <;> rfl⟩
  rintro m t g ⟨i, rfl, hi, rfl, hall, t0, t5, t6, t7⟩ hnext
  refine xq82_7k ?_
  dsimp only [xq82_7b]
  (repeat (first | refine zS ?_ | refine zL ?_ | refine zR ?_ | refine zE ?_ | refine zC ?_ | refine zJ ?_ | refine zK ?_ | refine zP ?_ | refine zF ?_ | refine zH ?_ | refine zG ?_ | refine zI (by decide) ?_ | refine zQ ?_ | ((first | refine zD ?_ | refine zN ?_ | refine zT rfl rfl ?_ | refine zO rfl ?_ | refine zM ?_); simp only [yq82.down, zA, lemS.down, lemC.down, Int.reduceBEq, Nat.reduceAdd, Nat.reduceLeDiff, reduceIte, Nat.reduceEqDiff, Int.reduceLT, Int.reduceLE, Int.reduceGT, Int.reduceGE, Int.reduceEq, Int.reduceAdd, Int.reduceSub, Int.reduceMul, reduceCtorEq, lemH.down, t0, t5, t6, t7])))
  refine ⟨fun hlt => ?_, fun hge => ?_⟩
  · have hi' : i < l.length := by omega
    obtain ⟨B, o, ia, ld⟩ := hel i hi'
    have ld : ∀ sp, g.load ⟨B, o, sp⟩ = some (.int .i64 (l.getD i 0)) := fun sp => ld
    have w1 : IntKind.i64.wrap ((i : Int) + 1) = ((i + 1 : Nat) : Int) := by rw [wrap_i64 (by omega) (by omega)]; omega
    have w2 : IntKind.i64.wrap ((i : Int) - 1) = (i : Int) - 1 := by rw [wrap_i64 (by omega) (by omega)]
    have fin := fun (hm : memAt l i = true) (t' : Fr) (s0 : t'.get 0 = .slice a l.length cap) (s5 : t'.get 5 = .slice a l.length cap) (s6 : t'.get 6 = .int .i64 (l.length : Int)) (s7 : t'.get 7 = .int .i64 ((i + 1 : Nat) : Int)) => hnext (l.length - (i + 1)) t' g (by omega) ⟨i + 1, rfl, by omega, rfl, fun j hj => by
      rcases Nat.lt_or_ge j i with h | h
      · exact hall j h
      · obtain rfl : j = i := by omega
        exact hm, s0, s5, s6, s7⟩
    by_cases c1 : l.getD i 0 < 0
    · have d1 : decide (l.getD i 0 < 0) = true := by simpa using c1
      (repeat (first | refine zS ?_ | refine zL ?_ | refine zR ?_ | refine zE ?_ | refine zC ?_ | refine zJ ?_ | refine zK ?_ | refine zP ?_ | refine zF ?_ | refine zH ?_ | refine zG ?_ | refine zI (by decide) ?_ | refine zQ ?_ | ((first | refine zD ?_ | refine zN ?_ | refine zT rfl rfl ?_ | refine zO rfl ?_ | refine zM ?_); simp only [yq82.down, zA, lemS.down, lemC.down, Int.reduceBEq, Nat.reduceAdd, Nat.reduceLeDiff, reduceIte, Nat.reduceEqDiff, Int.reduceLT, Int.reduceLE, Int.reduceGT, Int.reduceGE, Int.reduceEq, Int.reduceAdd, Int.reduceSub, Int.reduceMul, reduceCtorEq, lemH.down, t0, t5, t6, t7, zAJ, ia, ld, d1, zAU])))
      refine ⟨.inr rfl, ?_, Grows.refl _⟩
      rw [membersP_bad hi' (by simp only [memAt, d1]; rfl)]
      simp only [yq82.down, zA, lemS.down, lemC.down, Int.reduceBEq, Nat.reduceAdd, Nat.reduceLeDiff, reduceIte, Nat.reduceEqDiff, Int.reduceLT, Int.reduceLE, Int.reduceGT, Int.reduceGE, Int.reduceEq, Int.reduceAdd, Int.reduceSub, Int.reduceMul, reduceCtorEq]
    have d1 : decide (l.getD i 0 < 0) = false := by simpa using c1
    by_cases c2 : l.getD i 0 ≥ 16
    · have d2 : decide (l.getD i 0 ≥ 16) = true := by simpa using c2
      (repeat (first | refine zS ?_ | refine zL ?_ | refine zR ?_ | refine zE ?_ | refine zC ?_ | refine zJ ?_ | refine zK ?_ | refine zP ?_ | refine zF ?_ | refine zH ?_ | refine zG ?_ | refine zI (by decide) ?_ | refine zQ ?_ | ((first | refine zD ?_ | refine zN ?_ | refine zT rfl rfl ?_ | refine zO rfl ?_ | refine zM ?_); simp only [yq82.down, zA, lemS.down, lemC.down, Int.reduceBEq, Nat.reduceAdd, Nat.reduceLeDiff, reduceIte, Nat.reduceEqDiff, Int.reduceLT, Int.reduceLE, Int.reduceGT, Int.reduceGE, Int.reduceEq, Int.reduceAdd, Int.reduceSub, Int.reduceMul, reduceCtorEq, lemH.down, t0, t5, t6, t7, zAJ, ia, ld, d1, d2, zAU])))
      refine ⟨.inr rfl, ?_, Grows.refl _⟩
      rw [membersP_bad hi' (by simp only [memAt, d1, d2]; rfl)]
      simp only [yq82.down, zA, lemS.down, lemC.down, Int.reduceBEq, Nat.reduceAdd, Nat.reduceLeDiff, reduceIte, Nat.reduceEqDiff, Int.reduceLT, Int.reduceLE, Int.reduceGT, Int.reduceGE, Int.reduceEq, Int.reduceAdd, Int.reduceSub, Int.reduceMul, reduceCtorEq]
    have d2 : decide (l.getD i 0 ≥ 16) = false := by simp only [ge_iff_le, decide_eq_false_iff_not]; exact c2
    by_cases c3 : 0 < i
    · have d3 : decide ((i : Int) > 0) = true := by simp; omega
      have d3' : decide (0 < i) = true := by simpa using c3
      obtain ⟨B2, o2, ia2, ld2⟩ := hel (i - 1) (by omega)
      have e : ((i - 1 : Nat) : Int) = (i : Int) - 1 := by omega
      rw [e] at ia2
      have ld2 : ∀ sp, g.load ⟨B2, o2, sp⟩ = some (.int .i64 (l.getD (i - 1) 0)) := fun sp => ld2
      cases d4 : decide (l.getD (i - 1) 0 ≥ l.getD i 0)
      · (repeat (first | refine zS ?_ | refine zL ?_ | refine zR ?_ | refine zE ?_ | refine zC ?_ | refine zJ ?_ | refine zK ?_ | refine zP ?_ | refine zF ?_ | refine zH ?_ | refine zG ?_ | refine zI (by decide) ?_ | refine zQ ?_ | ((first | refine zD ?_ | refine zN ?_ | refine zT rfl rfl ?_ | refine zO rfl ?_ | refine zM ?_); simp only [yq82.down, zA, lemS.down, lemC.down, Int.reduceBEq, Nat.reduceAdd, Nat.reduceLeDiff, reduceIte, Nat.reduceEqDiff, Int.reduceLT, Int.reduceLE, Int.reduceGT, Int.reduceGE, Int.reduceEq, Int.reduceAdd, Int.reduceSub, Int.reduceMul, reduceCtorEq, lemH.down, t0, t5, t6, t7, zAJ, ia, ld, d1, d2, d3, w2, ia2, ld2, d4, zAU, w1])))
        exact fin (by simp only [memAt, d1, d2, d3', d4]; rfl) _ (by simp only [yq82.down, zA, lemS.down, lemC.down, Int.reduceBEq, Nat.reduceAdd, Nat.reduceLeDiff, reduceIte, Nat.reduceEqDiff, Int.reduceLT, Int.reduceLE, Int.reduceGT, Int.reduceGE, Int.reduceEq, Int.reduceAdd, Int.reduceSub, Int.reduceMul, reduceCtorEq, t0]) (by simp only [yq82.down, zA, lemS.down, lemC.down, Int.reduceBEq, Nat.reduceAdd, Nat.reduceLeDiff, reduceIte, Nat.reduceEqDiff, Int.reduceLT, Int.reduceLE, Int.reduceGT, Int.reduceGE, Int.reduceEq, Int.reduceAdd, Int.reduceSub, Int.reduceMul, reduceCtorEq, t5]) (by simp only [yq82.down, zA, lemS.down, lemC.down, Int.reduceBEq, Nat.reduceAdd, Nat.reduceLeDiff, reduceIte, Nat.reduceEqDiff, Int.reduceLT, Int.reduceLE, Int.reduceGT, Int.reduceGE, Int.reduceEq, Int.reduceAdd, Int.reduceSub, Int.reduceMul, reduceCtorEq, t6]) (by simp only [yq82.down, zA, lemS.down, lemC.down, Int.reduceBEq, Nat.reduceAdd, Nat.reduceLeDiff, reduceIte, Nat.reduceEqDiff, Int.reduceLT, Int.reduceLE, Int.reduceGT, Int.reduceGE, Int.reduceEq, Int.reduceAdd, Int.reduceSub, Int.reduceMul, reduceCtorEq])
      · (repeat (first | refine zS ?_ | refine zL ?_ | refine zR ?_ | refine zE ?_ | refine zC ?_ | refine zJ ?_ | refine zK ?_ | refine zP ?_ | refine zF ?_ | refine zH ?_ | refine zG ?_ | refine zI (by decide) ?_ | refine zQ ?_ | ((first | refine zD ?_ | refine zN ?_ | refine zT rfl rfl ?_ | refine zO rfl ?_ | refine zM ?_); simp only [yq82.down, zA, lemS.down, lemC.down, Int.reduceBEq, Nat.reduceAdd, Nat.reduceLeDiff, reduceIte, Nat.reduceEqDiff, Int.reduceLT, Int.reduceLE, Int.reduceGT, Int.reduceGE, Int.reduceEq, Int.reduceAdd, Int.reduceSub, Int.reduceMul, reduceCtorEq, lemH.down, t0, t5, t6, t7, zAJ, ia, ld, d1, d2, d3, w2, ia2, ld2, d4, zAU])))
        refine ⟨.inr rfl, ?_, Grows.refl _⟩
        rw [membersP_bad hi' (by simp only [memAt, d1, d2, d3', d4]; rfl)]
        simp only [yq82.down, zA, lemS.down, lemC.down, Int.reduceBEq, Nat.reduceAdd, Nat.reduceLeDiff, reduceIte, Nat.reduceEqDiff, Int.reduceLT, Int.reduceLE, Int.reduceGT, Int.reduceGE, Int.reduceEq, Int.reduceAdd, Int.reduceSub, Int.reduceMul, reduceCtorEq]
    · have d3 : decide ((i : Int) > 0) = false := by simp; omega
      have d3' : decide (0 < i) = false := by simpa using c3
      (repeat (first | refine zS ?_ | refine zL ?_ | refine zR ?_ | refine zE ?_ | refine zC ?_ | refine zJ ?_ | refine zK ?_ | refine zP ?_ | refine zF ?_ | refine zH ?_ | refine zG ?_ | refine zI (by decide) ?_ | refine zQ ?_ | ((first | refine zD ?_ | refine zN ?_ | refine zT rfl rfl ?_ | refine zO rfl ?_ | refine zM ?_); simp only [yq82.down, zA, lemS.down, lemC.down, Int.reduceBEq, Nat.reduceAdd, Nat.reduceLeDiff, reduceIte, Nat.reduceEqDiff, Int.reduceLT, Int.reduceLE, Int.reduceGT, Int.reduceGE, Int.reduceEq, Int.reduceAdd, Int.reduceSub, Int.reduceMul, reduceCtorEq, lemH.down, t0, t5, t6, t7, zAJ, ia, ld, d1, d2, d3, zAU, w1])))
      exact fin (by simp only [memAt, d1, d2, d3']; rfl) _ (by simp only [yq82.down, zA, lemS.down, lemC.down, Int.reduceBEq, Nat.reduceAdd, Nat.reduceLeDiff, reduceIte, Nat.reduceEqDiff, Int.reduceLT, Int.reduceLE, Int.reduceGT, Int.reduceGE, Int.reduceEq, Int.reduceAdd, Int.reduceSub, Int.reduceMul, reduceCtorEq, t0]) (by simp only [yq82.down, zA, lemS.down, lemC.down, Int.reduceBEq, Nat.reduceAdd, Nat.reduceLeDiff, reduceIte, Nat.reduceEqDiff, Int.reduceLT, Int.reduceLE, Int.reduceGT, Int.reduceGE, Int.reduceEq, Int.reduceAdd, Int.reduceSub, Int.reduceMul, reduceCtorEq, t5]) (by simp only [yq82.down, zA, lemS.down, lemC.down, Int.reduceBEq, Nat.reduceAdd, Nat.reduceLeDiff, reduceIte, Nat.reduceEqDiff, Int.reduceLT, Int.reduceLE, Int.reduceGT, Int.reduceGE, Int.reduceEq, Int.reduceAdd, Int.reduceSub, Int.reduceMul, reduceCtorEq, t6]) (by simp only [yq82.down, zA, lemS.down, lemC.down, Int.reduceBEq, Nat.reduceAdd, Nat.reduceLeDiff, reduceIte, Nat.reduceEqDiff, Int.reduceLT, Int.reduceLE, Int.reduceGT, Int.reduceGE, Int.reduceEq, Int.reduceAdd, Int.reduceSub, Int.reduceMul, reduceCtorEq])
  · obtain rfl : i = l.length := by omega
    have d5 : decide ((l.length : Int) ≥ 1) = decide (1 ≤ l.length) := by rw [Bool.eq_iff_iff]; simp; omega
    (repeat (first | refine zS ?_ | refine zL ?_ | refine zR ?_ | refine zE ?_ | refine zC ?_ | refine zJ ?_ | refine zK ?_ | refine zP ?_ | refine zF ?_ | refine zH ?_ | refine zG ?_ | refine zI (by decide) ?_ | refine zQ ?_ | ((first | refine zD ?_ | refine zN ?_ | refine zT rfl rfl ?_ | refine zO rfl ?_ | refine zM ?_); simp only [yq82.down, zA, lemS.down, lemC.down, Int.reduceBEq, Nat.reduceAdd, Nat.reduceLeDiff, reduceIte, Nat.reduceEqDiff, Int.reduceLT, Int.reduceLE, Int.reduceGT, Int.reduceGE, Int.reduceEq, Int.reduceAdd, Int.reduceSub, Int.reduceMul, reduceCtorEq, lemH.down, t0, t5, t6, t7, d5])))
    refine ⟨.inr rfl, ?_, Grows.refl _⟩
    rw [membersP_good hall]
    simp only [yq82.down, zA, lemS.down, lemC.down, Int.reduceBEq, Nat.reduceAdd, Nat.reduceLeDiff, reduceIte, Nat.reduceEqDiff, Int.reduceLT, Int.reduceLE, Int.reduceGT, Int.reduceGE, Int.reduceEq, Int.reduceAdd, Int.reduceSub, Int.reduceMul, reduceCtorEq]
end Go.X
end
section
open Go Go.X
namespace Go.X
set_option linter.unusedVariables false
structure Hdr where
  n : Nat
  p : List UInt8
  t : List UInt8
  s : List UInt8
  m : List Int
def ze (x : Hdr) (mv : Value) : List Value := [.int .u64 (x.n : Int), .string (zB x.p), .string (zB x.t), .string (zB x.s), mv]
def HdAt (h : Heap) (x : Hdr) (mv : Value) : Prop := x.n < 18446744073709551616 ∧ zAC h mv = some x.m ∧ x.m.length ≤ 1000000 ∧ x.p.length + 10000000 ≤ zU ∧ x.t.length + 10000000 ≤ zU ∧ x.s.length + 10000000 ≤ zU
theorem HdAt.grow {h h' : Heap} {x : Hdr} {mv : Value} (hx : HdAt h x mv) (wf : HWF h) (g : Grows h h') : HdAt h' x mv := ⟨hx.1, zCe wf g hx.2.1, hx.2.2⟩
def hdrL (h : Heap) : List Value → Option (Hdr × Value)
  | [.int .u64 n, .string p, .string t, .string s, mv] => match zAC h mv with
    | some m => if 0 ≤ n ∧ n < 18446744073709551616 ∧ m.length ≤ 1000000 ∧ p.data.toList.length + 10000000 ≤ zU ∧ t.data.toList.length + 10000000 ≤ zU ∧ s.data.toList.length + 10000000 ≤ zU then some (⟨n.toNat, p.data.toList, t.data.toList, s.data.toList, m⟩, mv) else none
    | none => none
  | _ => none
theorem hdrL_eq {h : Heap} {l : List Value} {x : Hdr} {mv : Value} (hl : hdrL h l = some (x, mv)) : l = ze x mv ∧ HdAt h x mv := by
  unfold hdrL at hl
  split at hl
  · rename_i n p t s v
    split at hl
    · rename_i m hm
      split at hl
      · rename_i hc
        cases hl
        refine ⟨?_, by show n.toNat < _; omega, hm, hc.2.2.1, hc.2.2.2.1, hc.2.2.2.2.1, hc.2.2.2.2.2⟩
        simp only [ze, zBo]
        rw [show ((n.toNat : Nat) : Int) = n by omega]
      · cases hl
    · cases hl
  · cases hl
theorem hdrL_at {h : Heap} {x : Hdr} {mv : Value} (hx : HdAt h x mv) : hdrL h (ze x mv) = some (x, mv) := by
  obtain ⟨h1, h2, h3, h4, h5, h6⟩ := hx
  simp only [hdrL, ze, h2, zAe]
  rw [if_pos ⟨by omega, by omega, h3, h4, h5, h6⟩]
  simp
theorem agg_hd {h : Heap} {c : Array Value} {x : Hdr} {mv : Value} (hl : hdrL h c.toList = some (x, mv)) : Value.agg c = .agg (ze x mv).toArray ∧ HdAt h x mv := by
  obtain ⟨h1, h2⟩ := hdrL_eq hl
  exact ⟨by rw [← h1], h2⟩
theorem intsAt_one {h : Heap} {v : Value} {l : List Int} (hs : zAC h v = some l) : zl v = [v] ∧ oneC v = true := by
  obtain ⟨_, a, cap, rfl, _⟩ := zBd hs
  exact ⟨rfl, rfl⟩
def zAL (x : Hdr) : Nat := if x.n < 1 ∨ x.p.length ≠ 32 ∨ x.t.length ≠ 32 ∨ x.s.length ≠ 32 ∨ zAX x.m = false then 80 else 0
def zBj : Prim := fun args h => match args with
  | [.agg c] => match hdrL h c.toList with | some (x, _) => some (.int .i64 (zAL x : Int), h) | none => none
  | _ => none
theorem zCu {h : Heap} {x : Hdr} {mv : Value} (hx : HdAt h x mv) : zBj [.agg (ze x mv).toArray] h = some (.int .i64 (zAL x : Int), h) := by
  simp only [zBj, hdrL_at hx]
theorem zAZ {x : Hdr} {mv : Value} : zl (.agg (ze x mv).toArray) = ze x mv := by simp [zl]
theorem hd_box {h : Heap} {x : Hdr} {mv : Value} (hx : HdAt h x mv) (wf : HWF h) : ∃ g, h.new (ze x mv) = g ∧ Grows h g ∧ HdAt g x mv ∧ (∀ sp, g.loadN ⟨h.next, 0, sp⟩ 5 = some (ze x mv)) ∧ (∀ sp, g.load ⟨h.next, 0, sp⟩ = some (.int .u64 (x.n : Int))) ∧ (∀ sp, g.load ⟨h.next, 1, sp⟩ = some (.string (zB x.p))) ∧
    (∀ sp, g.load ⟨h.next, 2, sp⟩ = some (.string (zB x.t))) ∧ (∀ sp, g.load ⟨h.next, 3, sp⟩ = some (.string (zB x.s))) ∧ (∀ sp, g.load ⟨h.next, 4, sp⟩ = some mv) := by
  have hv : Var (h.new (ze x mv)) h.next (ze x mv) := Var.new_self
  exact ⟨_, rfl, Grows.new, hx.grow wf Grows.new, fun sp => hv.loadAll rfl, fun sp => hv.load, fun sp => hv.load, fun sp => hv.load, fun sp => hv.load, fun sp => hv.load⟩
theorem headCheck_ok (pr : Prog) (hm : pr.prim 82 = some zBx) (h : Heap) (wf : HWF h) (x : Hdr) (mv : Value) (hx : HdAt h x mv) : Comes pr xq75 [.agg (ze x mv).toArray] h (.int .i64 (zAL x : Int)) := by
  apply Comes.of
  unfold xq75
  dsimp only [zd]
  have hr64 : zU = 140737488355328 := rfl
  obtain ⟨g, hg, gg, gx, lN, l0, l1, l2, l3, l4⟩ := hd_box hx wf
  have cm := zu hm (membersG_at gx.2.1 (by have := gx.2.2.1; omega))
  have hne : ∀ {l : List UInt8}, l.length = 32 → ((l.length : Int) == 32) = true := fun {l} h => by rw [h]; rfl
  have hnf : ∀ {l : List UInt8}, ¬ l.length = 32 → ((l.length : Int) == 32) = false := fun {l} h => by rw [beq_eq_false_iff_ne]; omega
  unfold zAL
  by_cases c0 : x.n < 1
  · have d0 : decide ((x.n : Int) < 1) = true := by simp; omega
    rw [if_pos (.inl c0)]
    (repeat (first | refine zS ?_ | refine zL ?_ | refine zR ?_ | refine zE ?_ | refine zC ?_ | refine zJ ?_ | refine zK ?_ | refine zP ?_ | refine zF ?_ | refine zH ?_ | refine zG ?_ | refine zI (by decide) ?_ | refine zQ ?_ | ((first | refine zD ?_ | refine zN ?_ | refine zT rfl rfl ?_ | refine zO rfl ?_ | refine zM ?_); simp only [yq75.down, zA, lemS.down, lemC.down, Int.reduceBEq, Nat.reduceAdd, Nat.reduceLeDiff, reduceIte, Nat.reduceEqDiff, Int.reduceLT, Int.reduceLE, Int.reduceGT, Int.reduceGE, Int.reduceEq, Int.reduceAdd, Int.reduceSub, Int.reduceMul, reduceCtorEq, lemH.down, zAZ, hg, l0, l1, l2, l3, l4, d0, zAU])))
    exact ⟨.inr rfl, by (simp only [yq75.down, zA, lemS.down, lemC.down, Int.reduceBEq, Nat.reduceAdd, Nat.reduceLeDiff, reduceIte, Nat.reduceEqDiff, Int.reduceLT, Int.reduceLE, Int.reduceGT, Int.reduceGE, Int.reduceEq, Int.reduceAdd, Int.reduceSub, Int.reduceMul, reduceCtorEq]) <;> rfl, gg⟩
  have d0 : decide ((x.n : Int) < 1) = false := by simp; omega
  by_cases c1 : x.p.length = 32
  · have d1 := hne c1
    by_cases c2 : x.t.length = 32
    · have d2 := hne c2
      by_cases c3 : x.s.length = 32
      · have d3 := hne c3
        cases c4 : zAX x.m
        · rw [if_pos (.inr (.inr (.inr (.inr rfl))))]
          rw [c4] at cm
          (repeat (first | refine zS ?_ | refine zL ?_ | refine zR ?_ | refine zE ?_ | refine zC ?_ | refine zJ ?_ | refine zK ?_ | refine zP ?_ | refine zF ?_ | refine zH ?_ | refine zG ?_ | refine zI (by decide) ?_ | refine zQ ?_ | ((first | refine zD ?_ | refine zN ?_ | refine zT rfl rfl ?_ | refine zO rfl ?_ | refine zM ?_); simp only [yq75.down, zA, lemS.down, lemC.down, Int.reduceBEq, Nat.reduceAdd, Nat.reduceLeDiff, reduceIte, Nat.reduceEqDiff, Int.reduceLT, Int.reduceLE, Int.reduceGT, Int.reduceGE, Int.reduceEq, Int.reduceAdd, Int.reduceSub, Int.reduceMul, reduceCtorEq, lemH.down, zAZ, hg, l0, l1, l2, l3, l4, d0, d1, d2, d3, cm, zAU])))
          exact ⟨.inr rfl, by (simp only [yq75.down, zA, lemS.down, lemC.down, Int.reduceBEq, Nat.reduceAdd, Nat.reduceLeDiff, reduceIte, Nat.reduceEqDiff, Int.reduceLT, Int.reduceLE, Int.reduceGT, Int.reduceGE, Int.reduceEq, Int.reduceAdd, Int.reduceSub, Int.reduceMul, reduceCtorEq]) <;> rfl, gg⟩
        · rw [if_neg (by simp [c0, c1, c2, c3])]
          rw [c4] at cm
          (repeat (first | refine zS ?_ | refine zL ?_ | refine zR ?_ | refine zE ?_ | refine zC ?_ | refine zJ ?_ | refine zK ?_ | refine zP ?_ | refine zF ?_ | refine zH ?_ | refine zG ?_ | refine zI (by decide) ?_ | refine zQ ?_ | ((first | refine zD ?_ | refine zN ?_ | refine zT rfl rfl ?_ | refine zO rfl ?_ | refine zM ?_); simp only [yq75.down, zA, lemS.down, lemC.down, Int.reduceBEq, Nat.reduceAdd, Nat.reduceLeDiff, reduceIte, Nat.reduceEqDiff, Int.reduceLT, Int.reduceLE, Int.reduceGT, Int.reduceGE, Int.reduceEq, Int.reduceAdd, Int.reduceSub, Int.reduceMul, reduceCtorEq, lemH.down, zAZ, hg, l0, l1, l2, l3, l4, d0, d1, d2, d3, cm, zAU])))
          exact ⟨.inr rfl, by (simp only [yq75.down, zA, lemS.down, lemC.down, Int.reduceBEq, Nat.reduceAdd, Nat.reduceLeDiff, reduceIte, Nat.reduceEqDiff, Int.reduceLT, Int.reduceLE, Int.reduceGT, Int.reduceGE, Int.reduceEq, Int.reduceAdd, Int.reduceSub, Int.reduceMul, reduceCtorEq]) <;> rfl, gg⟩
      · have d3 := hnf c3
        rw [if_pos (.inr (.inr (.inr (.inl c3))))]
        (repeat (first | refine zS ?_ | refine zL ?_ | refine zR ?_ | refine zE ?_ | refine zC ?_ | refine zJ ?_ | refine zK ?_ | refine zP ?_ | refine zF ?_ | refine zH ?_ | refine zG ?_ | refine zI (by decide) ?_ | refine zQ ?_ | ((first | refine zD ?_ | refine zN ?_ | refine zT rfl rfl ?_ | refine zO rfl ?_ | refine zM ?_); simp only [yq75.down, zA, lemS.down, lemC.down, Int.reduceBEq, Nat.reduceAdd, Nat.reduceLeDiff, reduceIte, Nat.reduceEqDiff, Int.reduceLT, Int.reduceLE, Int.reduceGT, Int.reduceGE, Int.reduceEq, Int.reduceAdd, Int.reduceSub, Int.reduceMul, reduceCtorEq, lemH.down, zAZ, hg, l0, l1, l2, l3, l4, d0, d1, d2, d3, zAU])))
        exact ⟨.inr rfl, by (simp only [yq75.down, zA, lemS.down, lemC.down, Int.reduceBEq, Nat.reduceAdd, Nat.reduceLeDiff, reduceIte, Nat.reduceEqDiff, Int.reduceLT, Int.reduceLE, Int.reduceGT, Int.reduceGE, Int.reduceEq, Int.reduceAdd, Int.reduceSub, Int.reduceMul, reduceCtorEq]) <;> rfl, gg⟩
    · have d2 := hnf c2
      rw [if_pos (.inr (.inr (.inl c2)))]
      (repeat (first | refine zS ?_ | refine zL ?_ | refine zR ?_ | refine zE ?_ | refine zC ?_ | refine zJ ?_ | refine zK ?_ | refine zP ?_ | refine zF ?_ | refine zH ?_ | refine zG ?_ | refine zI (by decide) ?_ | refine zQ ?_ | ((first | refine zD ?_ | refine zN ?_ | refine zT rfl rfl ?_ | refine zO rfl ?_ | refine zM ?_); simp only [yq75.down, zA, lemS.down, lemC.down, Int.reduceBEq, Nat.reduceAdd, Nat.reduceLeDiff, reduceIte, Nat.reduceEqDiff, Int.reduceLT, Int.reduceLE, Int.reduceGT, Int.reduceGE, Int.reduceEq, Int.reduceAdd, Int.reduceSub, Int.reduceMul, reduceCtorEq, lemH.down, zAZ, hg, l0, l1, l2, l3, l4, d0, d1, d2, zAU])))
      exact ⟨.inr rfl, by (simp only [yq75.down, zA, lemS.down, lemC.down, Int.reduceBEq, Nat.reduceAdd, Nat.reduceLeDiff, reduceIte, Nat.reduceEqDiff, Int.reduceLT, Int.reduceLE, Int.reduceGT, Int.reduceGE, Int.reduceEq, Int.reduceAdd, Int.reduceSub, Int.reduceMul, reduceCtorEq]) <;> rfl, gg⟩
  · have d1 := hnf c1
    rw [if_pos (.inr (.inl c1))]
    (repeat (first | refine zS ?_ | refine zL ?_ | refine zR ?_ | refine zE ?_ | refine zC ?_ | refine zJ ?_ | refine zK ?_ | refine zP ?_ | refine zF ?_ | refine zH ?_ | refine zG ?_ | refine zI (by decide) ?_ | refine zQ ?_ | ((first | refine zD ?_ | refine zN ?_ | refine zT rfl rfl ?_ | refine zO rfl ?_ | refine zM ?_); simp only [yq75.down, zA, lemS.down, lemC.down, Int.reduceBEq, Nat.reduceAdd, Nat.reduceLeDiff, reduceIte, Nat.reduceEqDiff, Int.reduceLT, Int.reduceLE, Int.reduceGT, Int.reduceGE, Int.reduceEq, Int.reduceAdd, Int.reduceSub, Int.reduceMul, reduceCtorEq, lemH.down, zAZ, hg, l0, l1, l2, l3, l4, d0, d1, zAU])))
    exact ⟨.inr rfl, by (simp only [yq75.down, zA, lemS.down, lemC.down, Int.reduceBEq, Nat.reduceAdd, Nat.reduceLeDiff, reduceIte, Nat.reduceEqDiff, Int.reduceLT, Int.reduceLE, Int.reduceGT, Int.reduceGE, Int.reduceEq, Int.reduceAdd, Int.reduceSub, Int.reduceMul, reduceCtorEq]) <;> rfl, gg⟩
end Go.X
end
section
open Go Go.X
namespace Go.X
set_option linter.unusedVariables false
def w64 (m : Int) : Nat := (m % 18446744073709551616).toNat
theorem w64_lt (m : Int) : w64 m < 18446744073709551616 := by unfold w64; omega
theorem cint_u64 (m : Int) : zAm .u64 (.int .i64 m) = some (uw .u64 (w64 m)) := by
  rw [zA, ← zBD (w64_lt m)]
  congr 2
  unfold w64
  have : IntKind.u64.wrap m = m % 18446744073709551616 := by
    simp [IntKind.wrap, IntKind.signed, IntKind.bits]
  rw [this]
  omega
def memsB (l : List Int) : List UInt8 := l.flatMap fun m => numB (w64 m) 1
def zBU (l : List Int) : List UInt8 := numB l.length 1 ++ memsB l
theorem memsB_len (l : List Int) : (memsB l).length = l.length := by
  induction l with
  | nil => rfl
  | cons x l ih => unfold memsB at ih ⊢; simp only [List.flatMap_cons, List.length_append, zAh, ih, List.length_cons]; omega
theorem memsB_take {l : List Int} {i : Nat} (hi : i < l.length) : memsB (l.take (i + 1)) = memsB (l.take i) ++ numB (w64 (l.getD i 0)) 1 := by
  unfold memsB
  rw [List.take_succ_eq_append_getElem hi, List.flatMap_append, List.flatMap_cons, List.flatMap_nil, List.append_nil]
  simp [List.getD_eq_getElem?_getD, List.getElem?_eq_getElem hi]
structure HeadTab (pr : Prog) : Prop where
  wire : WireTab pr
  mem : pr.prim 82 = some zBx
  chk : pr.prim 75 = some zBj
  pm : pr.prim 124 = none
  pmC : pr.code 124 = some xq124
  put : pr.prim 111 = none
  putC : pr.code 111 = some xq111
theorem PutMembersS {pr : Prog} (T : WireTab pr) (hp : pr.prim 124 = none) (hc : pr.code 124 = some xq124) {h0 h : Heap} (wf : HWF h0) (hg : Grows h0 h) {W : Nat} {S : Nat → Prop} {b : List UInt8} (hS0 : ∀ A, A < h0.next → ¬ S A) (hw : WrS h W S b) (hS : ∀ A, h.next ≤ A → S A) {mv : Value} {l : List Int} (hs : zAC h0 mv = some l) (hl : l.length ≤ 1000000) (hroom : b.length + 2000000 ≤ zU) :
    ∃ h', cfi pr 124 [.pointer (some ⟨W, 0, none⟩), mv] h = some (.tuple #[], h') ∧ WrS h' W S (b ++ zBU l) ∧ Keeps S h h' := by
  have hr64 : zU = 140737488355328 := rfl
  have : ∃ v h', cfi pr 124 [.pointer (some ⟨W, 0, none⟩), mv] h = some (v, h') ∧ v = .tuple #[] ∧ WrS h' W S (b ++ zBU l) ∧ Keeps S h h' := by
    refine zAt hp hc rfl ?_
    unfold xq124
    dsimp only [zd]
    refine wpk.out (k := []) ?_
    obtain ⟨hb, a, cap, rfl, _⟩ := zBd hs
    have c0 := zBI (k := .u64) (k' := .i64) zCG (n := l.length)
    obtain ⟨h1, e1, w1, k1⟩ := WNumberS T hw hS l.length 1 (by omega) (by decide) (by omega)
    have e1 : cfi pr 66 [.pointer (some ⟨W, 0, none⟩), uw .u64 l.length, .int .i64 1] h = some (.tuple #[], h1) := e1
    (repeat (first | refine zS ?_ | refine zL ?_ | refine zR ?_ | refine zE ?_ | refine zC ?_ | refine zJ ?_ | refine zK ?_ | refine zP ?_ | refine zF ?_ | refine zH ?_ | refine zG ?_ | refine zI (by decide) ?_ | refine zQ ?_ | ((first | refine zD ?_ | refine zN ?_ | refine zT rfl rfl ?_ | refine zO rfl ?_ | refine zM ?_); simp only [yq124.down, zA, lemS.down, lemC.down, Int.reduceBEq, Nat.reduceAdd, Nat.reduceLeDiff, reduceIte, Nat.reduceEqDiff, Int.reduceLT, Int.reduceLE, Int.reduceGT, Int.reduceGE, Int.reduceEq, Int.reduceAdd, Int.reduceSub, Int.reduceMul, reduceCtorEq, lemH.down, c0, e1])))
    refine zAA (fun m t g => ∃ i, m = l.length - i ∧ i ≤ l.length ∧ WrS g W S (b ++ numB l.length 1 ++ memsB (l.take i)) ∧ Keeps S h g ∧ t.get 0 = .pointer (some ⟨W, 0, none⟩) ∧ t.get 11 = .slice a l.length cap ∧ t.get 12 = .int .i64 (l.length : Int) ∧ t.get 13 = .int .i64 (i : Int)) ?_ l.length _ _ ⟨0, rfl, by omega, by simpa [memsB] using w1, k1, by simp only [yq124.down, zA, lemS.down, lemC.down, Int.reduceBEq, Nat.reduceAdd, Nat.reduceLeDiff, reduceIte, Nat.reduceEqDiff, Int.reduceLT, Int.reduceLE, Int.reduceGT, Int.reduceGE, Int.reduceEq, Int.reduceAdd, Int.reduceSub, Int.reduceMul, reduceCtorEq], by simp only [yq124.down, zA, lemS.down, lemC.down, Int.reduceBEq, Nat.reduceAdd, Nat.reduceLeDiff, reduceIte, Nat.reduceEqDiff, Int.reduceLT, Int.reduceLE, Int.reduceGT, Int.reduceGE, Int.reduceEq, Int.reduceAdd, Int.reduceSub, Int.reduceMul, reduceCtorEq], by simp only [yq124.down, zA, lemS.down, lemC.down, Int.reduceBEq, Nat.reduceAdd, Nat.reduceLeDiff, reduceIte, Nat.reduceEqDiff, Int.reduceLT, Int.reduceLE, Int.reduceGT, Int.reduceGE, Int.reduceEq, Int.reduceAdd, Int.reduceSub, Int.reduceMul, reduceCtorEq], by (simp only [yq124.down, zA, lemS.down, lemC.down, Int.reduceBEq, Nat.reduceAdd, Nat.reduceLeDiff, reduceIte, Nat.reduceEqDiff, Int.reduceLT, Int.reduceLE, Int.reduceGT, Int.reduceGE, Int.reduceEq, Int.reduceAdd, Int.reduceSub, Int.reduceMul, reduceCtorEq]) <;> rfl⟩
    rintro m t g ⟨i, rfl, hi, gw, gk, t0, t11, t12, t13⟩ hnext
    refine xq124_6k ?_
    dsimp only [xq124_6b]
    (repeat (first | refine zS ?_ | refine zL ?_ | refine zR ?_ | refine zE ?_ | refine zC ?_ | refine zJ ?_ | refine zK ?_ | refine zP ?_ | refine zF ?_ | refine zH ?_ | refine zG ?_ | refine zI (by decide) ?_ | refine zQ ?_ | ((first | refine zD ?_ | refine zN ?_ | refine zT rfl rfl ?_ | refine zO rfl ?_ | refine zM ?_); simp only [yq124.down, zA, lemS.down, lemC.down, Int.reduceBEq, Nat.reduceAdd, Nat.reduceLeDiff, reduceIte, Nat.reduceEqDiff, Int.reduceLT, Int.reduceLE, Int.reduceGT, Int.reduceGE, Int.reduceEq, Int.reduceAdd, Int.reduceSub, Int.reduceMul, reduceCtorEq, lemH.down, t0, t11, t12, t13])))
    refine ⟨fun hlt => ?_, fun hge => ?_⟩
    · have hi' : i < l.length := by omega
      have hgg : Grows h0 g := hg.then gk hS0
      obtain ⟨_, a', cap', ea, hel⟩ := zBd (zCe wf hgg hs)
      obtain ⟨B, o, ia, ld⟩ := hel i hi'
      have ld : ∀ sp, g.load ⟨B, o, sp⟩ = some (.int .i64 (l.getD i 0)) := fun sp => ld
      have ww : IntKind.i64.wrap ((i : Int) + 1) = ((i + 1 : Nat) : Int) := by rw [wrap_i64 (by omega) (by omega)]; omega
      have cm := cint_u64 (l.getD i 0)
      have hlen : (b ++ numB l.length 1 ++ memsB (l.take i)).length + 8 ≤ zU := by
        simp only [List.length_append, zAh, memsB_len, List.length_take]; omega
      obtain ⟨g2, e2, w2, k2⟩ := WNumberS T gw (fun A hA => hS A (Nat.le_trans gk.next hA)) (w64 (l.getD i 0)) 1 (w64_lt _) (by decide) hlen
      have e2 : cfi pr 66 [.pointer (some ⟨W, 0, none⟩), uw .u64 (w64 (l.getD i 0)), .int .i64 1] g = some (.tuple #[], g2) := e2
      (repeat (first | refine zS ?_ | refine zL ?_ | refine zR ?_ | refine zE ?_ | refine zC ?_ | refine zJ ?_ | refine zK ?_ | refine zP ?_ | refine zF ?_ | refine zH ?_ | refine zG ?_ | refine zI (by decide) ?_ | refine zQ ?_ | ((first | refine zD ?_ | refine zN ?_ | refine zT rfl rfl ?_ | refine zO rfl ?_ | refine zM ?_); simp only [yq124.down, zA, lemS.down, lemC.down, Int.reduceBEq, Nat.reduceAdd, Nat.reduceLeDiff, reduceIte, Nat.reduceEqDiff, Int.reduceLT, Int.reduceLE, Int.reduceGT, Int.reduceGE, Int.reduceEq, Int.reduceAdd, Int.reduceSub, Int.reduceMul, reduceCtorEq, lemH.down, t0, t11, t12, t13, zAJ, ia, ld, cm, e2, ww])))
      exact hnext (l.length - (i + 1)) _ g2 (by omega) ⟨i + 1, rfl, by omega, by rw [memsB_take hi', ← List.append_assoc]; exact w2, gk.trans k2 (fun _ _ q => q), by simp only [yq124.down, zA, lemS.down, lemC.down, Int.reduceBEq, Nat.reduceAdd, Nat.reduceLeDiff, reduceIte, Nat.reduceEqDiff, Int.reduceLT, Int.reduceLE, Int.reduceGT, Int.reduceGE, Int.reduceEq, Int.reduceAdd, Int.reduceSub, Int.reduceMul, reduceCtorEq, t0], by simp only [yq124.down, zA, lemS.down, lemC.down, Int.reduceBEq, Nat.reduceAdd, Nat.reduceLeDiff, reduceIte, Nat.reduceEqDiff, Int.reduceLT, Int.reduceLE, Int.reduceGT, Int.reduceGE, Int.reduceEq, Int.reduceAdd, Int.reduceSub, Int.reduceMul, reduceCtorEq, t11], by simp only [yq124.down, zA, lemS.down, lemC.down, Int.reduceBEq, Nat.reduceAdd, Nat.reduceLeDiff, reduceIte, Nat.reduceEqDiff, Int.reduceLT, Int.reduceLE, Int.reduceGT, Int.reduceGE, Int.reduceEq, Int.reduceAdd, Int.reduceSub, Int.reduceMul, reduceCtorEq, t12], by simp only [yq124.down, zA, lemS.down, lemC.down, Int.reduceBEq, Nat.reduceAdd, Nat.reduceLeDiff, reduceIte, Nat.reduceEqDiff, Int.reduceLT, Int.reduceLE, Int.reduceGT, Int.reduceGE, Int.reduceEq, Int.reduceAdd, Int.reduceSub, Int.reduceMul, reduceCtorEq]⟩
    · obtain rfl : i = l.length := by omega
      (repeat (first | refine zS ?_ | refine zL ?_ | refine zR ?_ | refine zE ?_ | refine zC ?_ | refine zJ ?_ | refine zK ?_ | refine zP ?_ | refine zF ?_ | refine zH ?_ | refine zG ?_ | refine zI (by decide) ?_ | refine zQ ?_ | ((first | refine zD ?_ | refine zN ?_ | refine zT rfl rfl ?_ | refine zO rfl ?_ | refine zM ?_); simp only [yq124.down, zA, lemS.down, lemC.down, Int.reduceBEq, Nat.reduceAdd, Nat.reduceLeDiff, reduceIte, Nat.reduceEqDiff, Int.reduceLT, Int.reduceLE, Int.reduceGT, Int.reduceGE, Int.reduceEq, Int.reduceAdd, Int.reduceSub, Int.reduceMul, reduceCtorEq, lemH.down, t0, t11, t12, t13])))
      refine ⟨.inl rfl, _, rfl, rfl, ?_, gk⟩
      rw [List.take_length, List.append_assoc] at gw
      exact gw
  obtain ⟨v, h', e, rfl, r⟩ := this
  exact ⟨h', e, r⟩
def headB (x : Hdr) : List UInt8 := numB x.n 8 ++ zAN x.p ++ zAN x.t ++ zAN x.s ++ zBU x.m
theorem headB_len (x : Hdr) : (headB x).length = 105 + x.m.length := by simp [headB, zBU, zAh, zBQ, memsB_len]; omega
theorem PutS {pr : Prog} (T : HeadTab pr) {h0 h : Heap} (wf : HWF h0) (hg : Grows h0 h) {W : Nat} {S : Nat → Prop} {b : List UInt8} (hS0 : ∀ A, A < h0.next → ¬ S A) (hw : WrS h W S b) (hS : ∀ A, h.next ≤ A → S A) {x : Hdr} {mv : Value} (hx : HdAt h0 x mv) (hroom : b.length + 3000000 ≤ zU) :
    ∃ h', cfi pr 111 [.pointer (some ⟨W, 0, none⟩), .agg (ze x mv).toArray] h = some (.tuple #[], h') ∧ WrS h' W S (b ++ headB x) ∧ Keeps S h h' := by
  have hr64 : zU = 140737488355328 := rfl
  have : ∃ v h', cfi pr 111 [.pointer (some ⟨W, 0, none⟩), .agg (ze x mv).toArray] h = some (v, h') ∧ v = .tuple #[] ∧ WrS h' W S (b ++ headB x) ∧ Keeps S h h' := by
    refine zAt T.put T.putC rfl ?_
    unfold xq111
    dsimp only [zd]
    refine wpk.out (k := []) ?_
    obtain ⟨hx1, hx2, hx3, hx4, hx5, hx6⟩ := hx
    have hWlt : W < h.next := by obtain ⟨_, v, h2, _⟩ := hw; exact h2.1
    obtain ⟨g, hgn, v0, gg⟩ : ∃ g, h.new (ze x mv) = g ∧ Var g h.next (ze x mv) ∧ Grows h g := ⟨_, rfl, Var.new_self, Grows.new⟩
    have gnx : g.next = h.next + 1 := by rw [← hgn]; rfl
    have w0 : WrS g W (fun A => S A ∧ A ≠ h.next) b := (hw.mono fun A h1 h2 => ⟨h2, by omega⟩).grow gg
    have hS' : ∀ A, g.next ≤ A → S A ∧ A ≠ h.next := fun A hA => ⟨hS A (by omega), by omega⟩
    have hS0' : ∀ A, A < h0.next → ¬ (S A ∧ A ≠ h.next) := fun A hA q => hS0 A hA q.1
    have hnk : ¬ (S h.next ∧ h.next ≠ h.next) := fun q => q.2 rfl
    have la : ∀ sp, g.load ⟨h.next, 0, sp⟩ = some (.int .u64 (x.n : Int)) := fun sp => v0.load
    obtain ⟨g1, e1, w1, k1⟩ := WNumberS T.wire w0 hS' x.n 8 hx1 (by decide) (by omega)
    rw [← zBD hx1] at e1
    have e1 : cfi pr 66 [.pointer (some ⟨W, 0, none⟩), .int .u64 (x.n : Int), .int .i64 8] g = some (.tuple #[], g1) := e1
    have v1 := v0.keep k1 hnk
    have lb : ∀ sp, g1.load ⟨h.next, 1, sp⟩ = some (.string (zB x.p)) := fun sp => v1.load
    obtain ⟨g2, e2, w2, k2⟩ := WHashS T.wire w1 (fun A hA => hS' A (Nat.le_trans k1.next hA)) x.p (by simp only [List.length_append, zAh]; omega)
    have k2' := k1.trans k2 (fun _ _ q => q)
    have v2 := v0.keep k2' hnk
    have lc : ∀ sp, g2.load ⟨h.next, 2, sp⟩ = some (.string (zB x.t)) := fun sp => v2.load
    obtain ⟨g3, e3, w3, k3⟩ := WHashS T.wire w2 (fun A hA => hS' A (Nat.le_trans k2'.next hA)) x.t (by simp only [List.length_append, zAh, zBQ]; omega)
    have k3' := k2'.trans k3 (fun _ _ q => q)
    have v3 := v0.keep k3' hnk
    have ld : ∀ sp, g3.load ⟨h.next, 3, sp⟩ = some (.string (zB x.s)) := fun sp => v3.load
    obtain ⟨g4, e4, w4, k4⟩ := WHashS T.wire w3 (fun A hA => hS' A (Nat.le_trans k3'.next hA)) x.s (by simp only [List.length_append, zAh, zBQ]; omega)
    have k4' := k3'.trans k4 (fun _ _ q => q)
    have v4 := v0.keep k4' hnk
    have le : ∀ sp, g4.load ⟨h.next, 4, sp⟩ = some mv := fun sp => v4.load
    obtain ⟨g5, e5, w5, k5⟩ := PutMembersS T.wire T.pm T.pmC wf ((hg.trans gg).then k4' hS0') hS0' w4 (fun A hA => hS' A (Nat.le_trans k4'.next hA)) hx2 hx3 (by simp only [List.length_append, zAh, zBQ]; omega)
    have k5' := k4'.trans k5 (fun _ _ q => q)
    (repeat (first | refine zS ?_ | refine zL ?_ | refine zR ?_ | refine zE ?_ | refine zC ?_ | refine zJ ?_ | refine zK ?_ | refine zP ?_ | refine zF ?_ | refine zH ?_ | refine zG ?_ | refine zI (by decide) ?_ | refine zQ ?_ | ((first | refine zD ?_ | refine zN ?_ | refine zT rfl rfl ?_ | refine zO rfl ?_ | refine zM ?_); simp only [yq111.down, zA, lemS.down, lemC.down, Int.reduceBEq, Nat.reduceAdd, Nat.reduceLeDiff, reduceIte, Nat.reduceEqDiff, Int.reduceLT, Int.reduceLE, Int.reduceGT, Int.reduceGE, Int.reduceEq, Int.reduceAdd, Int.reduceSub, Int.reduceMul, reduceCtorEq, lemH.down, zAZ, hgn, la, e1, lb, e2, lc, e3, ld, e4, le, e5])))
    refine ⟨.inl rfl, _, rfl, rfl, ?_, ?_⟩
    · have := w5.mono (S' := S) (fun A _ q => q.1)
      simp only [List.append_assoc] at this
      unfold headB
      simp only [List.append_assoc]
      exact this
    · exact Keeps.trans (gg.keeps) (k5'.mono fun A _ q => q.1) (fun _ _ q => q)
  obtain ⟨v, h', e, rfl, r⟩ := this
  exact ⟨h', e, r⟩
def zA5 (x : Hdr) : List UInt8 := tagged 72 [headB x]
theorem one_str {h : Heap} {a : List UInt8} : zA7 (h.new [.string (zB a)]) (.slice (some ⟨h.next, 0, none⟩) 1 1) = some [a] := by
  have hO := Own.newSlice (h := h) (l := zAY [a]) (n := 1) (esz := 1) (sp := none) rfl (.inl rfl)
  exact hO.strs
theorem fill1s {a : List UInt8} : zz [.string (zB [])] [(0, 1, .string (zB a))] = some [.string (zB a)] := rfl
def zBk : Prim := fun args h => match args with
  | [.agg c] => match hdrL h c.toList with | some (x, _) => some (.string (zB (zA5 x)), h) | none => none
  | _ => none
theorem headHashG_at {h : Heap} {x : Hdr} {mv : Value} (hx : HdAt h x mv) : zBk [.agg (ze x mv).toArray] h = some (.string (zB (zA5 x)), h) := by
  simp only [zBk, hdrL_at hx]
theorem headHash_ok (pr : Prog) (T : HeadTab pr) (ht : pr.prim 64 = some zBG) (h : Heap) (wf : HWF h) (x : Hdr) (mv : Value) (hx : HdAt h x mv) : Comes pr xq95 [.agg (ze x mv).toArray] h (.string (zB (zA5 x))) := by
  apply Comes.of
  unfold xq95
  dsimp only [zd]
  have hr64 : zU = 140737488355328 := rfl
  obtain ⟨g, hg, gg, gx, lN, _⟩ := hd_box hx wf
  have gnx : g.next = h.next + 1 := by rw [← hg]; rfl
  obtain ⟨g1, e1, w1, k1⟩ := NewWriter_run T.wire g
  have lN1 : ∀ sp, g1.loadN ⟨h.next, 0, sp⟩ 5 = some (ze x mv) := fun sp => by
    have hv : Var g h.next (ze x mv) := by rw [← hg]; exact Var.new_self
    exact (hv.grow k1).loadAll rfl
  obtain ⟨g2, e2, w2, k2⟩ := PutS T wf (gg.trans k1) (S := fun A => g.next ≤ A) (fun A hA q => by omega) w1 (fun A hA => by have := k1.next; show g.next ≤ A; omega) hx (by simp; omega)
  rw [List.nil_append] at w2
  have e3 := WAll_run T.wire (N := g.next) w2
  have hl := headB_len x
  have hx3 := hx.2.2.1
  have tg := zu ht (zCF (p := 72) (one_str (h := g2) (a := headB x)) (by decide) (by simp [zw, partB, zAV]; omega))
  have tg : cfi pr 64 [.int .u8 72, .slice (some ⟨g2.next, 0, none⟩) 1 1] (g2.new [.string (zB (headB x))]) = some (.string (zB (zA5 x)), _) := tg
  (repeat (first | refine zS ?_ | refine zL ?_ | refine zR ?_ | refine zE ?_ | refine zC ?_ | refine zJ ?_ | refine zK ?_ | refine zP ?_ | refine zF ?_ | refine zH ?_ | refine zG ?_ | refine zI (by decide) ?_ | refine zQ ?_ | ((first | refine zD ?_ | refine zN ?_ | refine zT rfl rfl ?_ | refine zO rfl ?_ | refine zM ?_); simp only [yq95.down, zA, lemS.down, lemC.down, Int.reduceBEq, Nat.reduceAdd, Nat.reduceLeDiff, reduceIte, Nat.reduceEqDiff, Int.reduceLT, Int.reduceLE, Int.reduceGT, Int.reduceGE, Int.reduceEq, Int.reduceAdd, Int.reduceSub, Int.reduceMul, reduceCtorEq, lemH.down, zAZ, hg, e1, lN1, e2, e3, fill1s, tg])))
  exact ⟨.inr rfl, by simp only [yq95.down, zA, lemS.down, lemC.down, Int.reduceBEq, Nat.reduceAdd, Nat.reduceLeDiff, reduceIte, Nat.reduceEqDiff, Int.reduceLT, Int.reduceLE, Int.reduceGT, Int.reduceGE, Int.reduceEq, Int.reduceAdd, Int.reduceSub, Int.reduceMul, reduceCtorEq], ((gg.trans k1).then k2 (fun A hA => by omega)).trans Grows.new⟩
end Go.X
end
section
open Go Go.X
namespace Go.X
set_option linter.unusedVariables false
def hash3S : List Value → Option Value
  | [.string s] => if s.data.toList.length + 100 ≤ zU then some (.string (zB (zAN s.data.toList))) else none
  | _ => none
theorem hash3S_at {s : List UInt8} (hs : s.length + 100 ≤ zU) : hash3S [.string (zB s)] = some (.string (zB (zAN s))) := by
  simp only [hash3S, zAe]
  rw [if_pos hs]
theorem hash3_ok (pr : Prog) (s : List UInt8) (hs : s.length + 100 ≤ zU) (h : Heap) : Comes pr xq112 [.string (zB s)] h (.string (zB (zAN s))) := by
  apply Comes.of
  unfold xq112
  dsimp only [zd]
  have hr64 : zU = 140737488355328 := rfl
  (repeat (first | refine zS ?_ | refine zL ?_ | refine zR ?_ | refine zE ?_ | refine zC ?_ | refine zJ ?_ | refine zK ?_ | refine zP ?_ | refine zF ?_ | refine zH ?_ | refine zG ?_ | refine zI (by decide) ?_ | refine zQ ?_ | ((first | refine zD ?_ | refine zN ?_ | refine zT rfl rfl ?_ | refine zO rfl ?_ | refine zM ?_); simp only [yq112.down, zA, lemS.down, lemC.down, Int.reduceBEq, Nat.reduceAdd, Nat.reduceLeDiff, reduceIte, Nat.reduceEqDiff, Int.reduceLT, Int.reduceLE, Int.reduceGT, Int.reduceGE, Int.reduceEq, Int.reduceAdd, Int.reduceSub, Int.reduceMul, reduceCtorEq])))
  refine zAA (fun m t g => ∃ i, m = 32 - i ∧ g = h ∧ (i = 0 ∨ s.length + i ≤ 32) ∧ t.get 0 = .string (zB (s ++ List.replicate i 0))) ?_ 32 _ _ ⟨0, rfl, rfl, .inl rfl, by (simp only [yq112.down, zA, lemS.down, lemC.down, Int.reduceBEq, Nat.reduceAdd, Nat.reduceLeDiff, reduceIte, Nat.reduceEqDiff, Int.reduceLT, Int.reduceLE, Int.reduceGT, Int.reduceGE, Int.reduceEq, Int.reduceAdd, Int.reduceSub, Int.reduceMul, reduceCtorEq]) <;> simp⟩
  rintro m t g ⟨i, rfl, rfl, hi, t0⟩ hnext
  refine xq112_3k ?_
  dsimp only [xq112_3b]
  (repeat (first | refine zS ?_ | refine zL ?_ | refine zR ?_ | refine zE ?_ | refine zC ?_ | refine zJ ?_ | refine zK ?_ | refine zP ?_ | refine zF ?_ | refine zH ?_ | refine zG ?_ | refine zI (by decide) ?_ | refine zQ ?_ | ((first | refine zD ?_ | refine zN ?_ | refine zT rfl rfl ?_ | refine zO rfl ?_ | refine zM ?_); simp only [yq112.down, zA, lemS.down, lemC.down, Int.reduceBEq, Nat.reduceAdd, Nat.reduceLeDiff, reduceIte, Nat.reduceEqDiff, Int.reduceLT, Int.reduceLE, Int.reduceGT, Int.reduceGE, Int.reduceEq, Int.reduceAdd, Int.reduceSub, Int.reduceMul, reduceCtorEq, t0])))
  refine ⟨fun hlt => ?_, fun hge => ?_⟩
  · have ad := zA1 (a := s ++ List.replicate i 0) (b := [0]) (by simp at hlt ⊢; omega)
    (repeat (first | refine zS ?_ | refine zL ?_ | refine zR ?_ | refine zE ?_ | refine zC ?_ | refine zJ ?_ | refine zK ?_ | refine zP ?_ | refine zF ?_ | refine zH ?_ | refine zG ?_ | refine zI (by decide) ?_ | refine zQ ?_ | ((first | refine zD ?_ | refine zN ?_ | refine zT rfl rfl ?_ | refine zO rfl ?_ | refine zM ?_); simp only [yq112.down, zA, lemS.down, lemC.down, Int.reduceBEq, Nat.reduceAdd, Nat.reduceLeDiff, reduceIte, Nat.reduceEqDiff, Int.reduceLT, Int.reduceLE, Int.reduceGT, Int.reduceGE, Int.reduceEq, Int.reduceAdd, Int.reduceSub, Int.reduceMul, reduceCtorEq, t0, ad])))
    refine hnext (32 - (i + 1)) _ g (by simp at hlt; omega) ⟨i + 1, rfl, rfl, .inr (by simp at hlt; omega), ?_⟩
    simp only [yq112.down, zA, lemS.down, lemC.down, Int.reduceBEq, Nat.reduceAdd, Nat.reduceLeDiff, reduceIte, Nat.reduceEqDiff, Int.reduceLT, Int.reduceLE, Int.reduceGT, Int.reduceGE, Int.reduceEq, Int.reduceAdd, Int.reduceSub, Int.reduceMul, reduceCtorEq]
    rw [List.append_assoc, show List.replicate i (0 : UInt8) ++ [0] = List.replicate (i + 1) 0 by rw [List.replicate_succ']]
  · have ct := cut_toL (s := s ++ List.replicate i 0) (n := 32) (k := .i64) (by simp at hge ⊢; omega)
    (repeat (first | refine zS ?_ | refine zL ?_ | refine zR ?_ | refine zE ?_ | refine zC ?_ | refine zJ ?_ | refine zK ?_ | refine zP ?_ | refine zF ?_ | refine zH ?_ | refine zG ?_ | refine zI (by decide) ?_ | refine zQ ?_ | ((first | refine zD ?_ | refine zN ?_ | refine zT rfl rfl ?_ | refine zO rfl ?_ | refine zM ?_); simp only [yq112.down, zA, lemS.down, lemC.down, Int.reduceBEq, Nat.reduceAdd, Nat.reduceLeDiff, reduceIte, Nat.reduceEqDiff, Int.reduceLT, Int.reduceLE, Int.reduceGT, Int.reduceGE, Int.reduceEq, Int.reduceAdd, Int.reduceSub, Int.reduceMul, reduceCtorEq, t0, ct])))
    refine ⟨.inr rfl, ?_, Grows.refl _⟩
    simp only [yq112.down, zA, lemS.down, lemC.down, Int.reduceBEq, Nat.reduceAdd, Nat.reduceLeDiff, reduceIte, Nat.reduceEqDiff, Int.reduceLT, Int.reduceLE, Int.reduceGT, Int.reduceGE, Int.reduceEq, Int.reduceAdd, Int.reduceSub, Int.reduceMul, reduceCtorEq]
    congr 2
    unfold zAN
    simp at hge
    rcases hi with rfl | hi
    · rw [List.replicate_zero, List.append_nil, List.take_append_of_le_length (by omega)]
    · rw [List.take_of_length_le (by simp; omega)]
      rw [List.take_append, List.take_of_length_le (by omega), List.take_replicate]
      congr 2
      omega
theorem hash3S_ok {args : List Value} {v : Value} (h : hash3S args = some v) : args.length = 1 ∧ z8 v = true ∧ ∀ pr h, Comes pr xq112 args h v := by
  unfold hash3S at h
  split at h
  · rename_i s
    split at h
    · rename_i hc
      cases h
      refine ⟨rfl, rfl, fun pr h => ?_⟩
      have := hash3_ok pr s.data.toList hc h
      rw [zBo] at this
      exact this
    · cases h
  · cases h
def zCR : Prim := fun args h => match args with
  | [v] => match zAC h v with | some l => if l.length ≤ 1000000 then some (.string (zB (zBU l)), h) else none | none => none
  | _ => none
theorem memsBytesG_at {h : Heap} {v : Value} {l : List Int} (hs : zAC h v = some l) (hl : l.length ≤ 1000000) : zCR [v] h = some (.string (zB (zBU l)), h) := by simp only [zCR, hs, if_pos hl]
theorem membersB_len (l : List Int) : (zBU l).length = l.length + 1 := by simp [zBU, zAh, memsB_len]; omega
theorem memsBytes_ok (pr : Prog) (hn : pr.prim 40 = some (zb wnumS)) (h : Heap) (v : Value) (l : List Int) (hs : zAC h v = some l) (hl : l.length ≤ 1000000) : Comes pr xq113 [v] h (.string (zB (zBU l))) := by
  apply Comes.of
  unfold xq113
  dsimp only [zd]
  have hr64 : zU = 140737488355328 := rfl
  obtain ⟨hb, a, cap, rfl, hel⟩ := zBd hs
  have c0 := zBI (k := .u64) (k' := .i64) zCG (n := l.length)
  have n0 := zf (h := h) hn (wnumS_at (n := l.length) (k := 1) (by omega) (by decide))
  have n0 : cfi pr 40 [uw .u64 l.length, .int .i64 1] h = _ := n0
  (repeat (first | refine zS ?_ | refine zL ?_ | refine zR ?_ | refine zE ?_ | refine zC ?_ | refine zJ ?_ | refine zK ?_ | refine zP ?_ | refine zF ?_ | refine zH ?_ | refine zG ?_ | refine zI (by decide) ?_ | refine zQ ?_ | ((first | refine zD ?_ | refine zN ?_ | refine zT rfl rfl ?_ | refine zO rfl ?_ | refine zM ?_); simp only [yq113.down, zA, lemS.down, lemC.down, Int.reduceBEq, Nat.reduceAdd, Nat.reduceLeDiff, reduceIte, Nat.reduceEqDiff, Int.reduceLT, Int.reduceLE, Int.reduceGT, Int.reduceGE, Int.reduceEq, Int.reduceAdd, Int.reduceSub, Int.reduceMul, reduceCtorEq, lemH.down, c0, n0])))
  refine zAA (fun m t g => ∃ i, m = l.length - i ∧ i ≤ l.length ∧ g = h ∧ t.get 0 = .slice a l.length cap ∧ t.get 3 = .string (zB (numB l.length 1 ++ memsB (l.take i))) ∧ t.get 4 = .int .i64 (i : Int)) ?_ l.length _ _ ⟨0, rfl, by omega, rfl, by simp only [yq113.down, zA, lemS.down, lemC.down, Int.reduceBEq, Nat.reduceAdd, Nat.reduceLeDiff, reduceIte, Nat.reduceEqDiff, Int.reduceLT, Int.reduceLE, Int.reduceGT, Int.reduceGE, Int.reduceEq, Int.reduceAdd, Int.reduceSub, Int.reduceMul, reduceCtorEq], by (simp only [yq113.down, zA, lemS.down, lemC.down, Int.reduceBEq, Nat.reduceAdd, Nat.reduceLeDiff, reduceIte, Nat.reduceEqDiff, Int.reduceLT, Int.reduceLE, Int.reduceGT, Int.reduceGE, Int.reduceEq, Int.reduceAdd, Int.reduceSub, Int.reduceMul, reduceCtorEq]) <;> simp [memsB], by (simp only [yq113.down, zA, lemS.down, lemC.down, Int.reduceBEq, Nat.reduceAdd, Nat.reduceLeDiff, reduceIte, Nat.reduceEqDiff, Int.reduceLT, Int.reduceLE, Int.reduceGT, Int.reduceGE, Int.reduceEq, Int.reduceAdd, Int.reduceSub, Int.reduceMul, reduceCtorEq]) <;> rfl⟩
  rintro m t g ⟨i, rfl, hi, rfl, t0, t3, t4⟩ hnext
  refine xq113_6k ?_
  dsimp only [xq113_6b]
  (repeat (first | refine zS ?_ | refine zL ?_ | refine zR ?_ | refine zE ?_ | refine zC ?_ | refine zJ ?_ | refine zK ?_ | refine zP ?_ | refine zF ?_ | refine zH ?_ | refine zG ?_ | refine zI (by decide) ?_ | refine zQ ?_ | ((first | refine zD ?_ | refine zN ?_ | refine zT rfl rfl ?_ | refine zO rfl ?_ | refine zM ?_); simp only [yq113.down, zA, lemS.down, lemC.down, Int.reduceBEq, Nat.reduceAdd, Nat.reduceLeDiff, reduceIte, Nat.reduceEqDiff, Int.reduceLT, Int.reduceLE, Int.reduceGT, Int.reduceGE, Int.reduceEq, Int.reduceAdd, Int.reduceSub, Int.reduceMul, reduceCtorEq, lemH.down, t0, t3, t4])))
  refine ⟨fun hlt => ?_, fun hge => ?_⟩
  · have hi' : i < l.length := by omega
    obtain ⟨B, o, ia, ld⟩ := hel i hi'
    have ld : ∀ sp, g.load ⟨B, o, sp⟩ = some (.int .i64 (l.getD i 0)) := fun sp => ld
    have ww : IntKind.i64.wrap ((i : Int) + 1) = ((i + 1 : Nat) : Int) := by rw [wrap_i64 (by omega) (by omega)]; omega
    have cm := cint_u64 (l.getD i 0)
    have n1 := zf (h := g) hn (wnumS_at (n := w64 (l.getD i 0)) (k := 1) (w64_lt _) (by decide))
    have n1 : cfi pr 40 [uw .u64 (w64 (l.getD i 0)), .int .i64 1] g = _ := n1
    have ad := zA1 (a := numB l.length 1 ++ memsB (l.take i)) (b := numB (w64 (l.getD i 0)) 1) (by simp only [List.length_append, zAh, memsB_len, List.length_take]; omega)
    (repeat (first | refine zS ?_ | refine zL ?_ | refine zR ?_ | refine zE ?_ | refine zC ?_ | refine zJ ?_ | refine zK ?_ | refine zP ?_ | refine zF ?_ | refine zH ?_ | refine zG ?_ | refine zI (by decide) ?_ | refine zQ ?_ | ((first | refine zD ?_ | refine zN ?_ | refine zT rfl rfl ?_ | refine zO rfl ?_ | refine zM ?_); simp only [yq113.down, zA, lemS.down, lemC.down, Int.reduceBEq, Nat.reduceAdd, Nat.reduceLeDiff, reduceIte, Nat.reduceEqDiff, Int.reduceLT, Int.reduceLE, Int.reduceGT, Int.reduceGE, Int.reduceEq, Int.reduceAdd, Int.reduceSub, Int.reduceMul, reduceCtorEq, lemH.down, t0, t3, t4, zAJ, ia, ld, cm, n1, ad, ww])))
    exact hnext (l.length - (i + 1)) _ g (by omega) ⟨i + 1, rfl, by omega, rfl, by simp only [yq113.down, zA, lemS.down, lemC.down, Int.reduceBEq, Nat.reduceAdd, Nat.reduceLeDiff, reduceIte, Nat.reduceEqDiff, Int.reduceLT, Int.reduceLE, Int.reduceGT, Int.reduceGE, Int.reduceEq, Int.reduceAdd, Int.reduceSub, Int.reduceMul, reduceCtorEq, t0], by rw [memsB_take hi', ← List.append_assoc]; simp only [yq113.down, zA, lemS.down, lemC.down, Int.reduceBEq, Nat.reduceAdd, Nat.reduceLeDiff, reduceIte, Nat.reduceEqDiff, Int.reduceLT, Int.reduceLE, Int.reduceGT, Int.reduceGE, Int.reduceEq, Int.reduceAdd, Int.reduceSub, Int.reduceMul, reduceCtorEq], by simp only [yq113.down, zA, lemS.down, lemC.down, Int.reduceBEq, Nat.reduceAdd, Nat.reduceLeDiff, reduceIte, Nat.reduceEqDiff, Int.reduceLT, Int.reduceLE, Int.reduceGT, Int.reduceGE, Int.reduceEq, Int.reduceAdd, Int.reduceSub, Int.reduceMul, reduceCtorEq]⟩
  · obtain rfl : i = l.length := by omega
    (repeat (first | refine zS ?_ | refine zL ?_ | refine zR ?_ | refine zE ?_ | refine zC ?_ | refine zJ ?_ | refine zK ?_ | refine zP ?_ | refine zF ?_ | refine zH ?_ | refine zG ?_ | refine zI (by decide) ?_ | refine zQ ?_ | ((first | refine zD ?_ | refine zN ?_ | refine zT rfl rfl ?_ | refine zO rfl ?_ | refine zM ?_); simp only [yq113.down, zA, lemS.down, lemC.down, Int.reduceBEq, Nat.reduceAdd, Nat.reduceLeDiff, reduceIte, Nat.reduceEqDiff, Int.reduceLT, Int.reduceLE, Int.reduceGT, Int.reduceGE, Int.reduceEq, Int.reduceAdd, Int.reduceSub, Int.reduceMul, reduceCtorEq, lemH.down, t0, t3, t4])))
    refine ⟨.inr rfl, ?_, Grows.refl _⟩
    rw [List.take_length]
    simp only [yq113.down, zA, lemS.down, lemC.down, Int.reduceBEq, Nat.reduceAdd, Nat.reduceLeDiff, reduceIte, Nat.reduceEqDiff, Int.reduceLT, Int.reduceLE, Int.reduceGT, Int.reduceGE, Int.reduceEq, Int.reduceAdd, Int.reduceSub, Int.reduceMul, reduceCtorEq]
    rfl
def zCP : Prim := fun args h => match args with
  | [.agg c] => match hdrL h c.toList with | some (x, _) => some (.string (zB (headB x)), h) | none => none
  | _ => none
theorem headBytesG_at {h : Heap} {x : Hdr} {mv : Value} (hx : HdAt h x mv) : zCP [.agg (ze x mv).toArray] h = some (.string (zB (headB x)), h) := by
  simp only [zCP, hdrL_at hx]
theorem headBytes_ok (pr : Prog) (hn : pr.prim 40 = some (zb wnumS)) (hh : pr.prim 112 = some (zb hash3S)) (hm : pr.prim 113 = some zCR) (h : Heap) (wf : HWF h) (x : Hdr) (mv : Value) (hx : HdAt h x mv) : Comes pr xq96 [.agg (ze x mv).toArray] h (.string (zB (headB x))) := by
  apply Comes.of
  unfold xq96
  dsimp only [zd]
  have hr64 : zU = 140737488355328 := rfl
  obtain ⟨g, hg, gg, gx, lN, l0, l1, l2, l3, l4⟩ := hd_box hx wf
  obtain ⟨hx1, hx2, hx3, hx4, hx5, hx6⟩ := gx
  have n0 := zf (h := g) hn (wnumS_at (n := x.n) (k := 8) hx1 (by decide))
  rw [← zBD hx1] at n0
  have n0 : cfi pr 40 [.int .u64 (x.n : Int), .int .i64 8] g = _ := n0
  have p1 := zf (h := g) hh (hash3S_at (s := x.p) (by omega))
  have p2 := zf (h := g) hh (hash3S_at (s := x.t) (by omega))
  have p3 := zf (h := g) hh (hash3S_at (s := x.s) (by omega))
  have p4 := zu hm (memsBytesG_at hx2 hx3)
  have a1 := zA1 (a := numB x.n 8) (b := zAN x.p) (by simp only [zAh, zBQ]; omega)
  have a2 := zA1 (a := numB x.n 8 ++ zAN x.p) (b := zAN x.t) (by simp only [List.length_append, zAh, zBQ]; omega)
  have a3 := zA1 (a := numB x.n 8 ++ zAN x.p ++ zAN x.t) (b := zAN x.s) (by simp only [List.length_append, zAh, zBQ]; omega)
  have a4 := zA1 (a := numB x.n 8 ++ zAN x.p ++ zAN x.t ++ zAN x.s) (b := zBU x.m) (by simp only [List.length_append, zAh, zBQ, membersB_len]; omega)
  (repeat (first | refine zS ?_ | refine zL ?_ | refine zR ?_ | refine zE ?_ | refine zC ?_ | refine zJ ?_ | refine zK ?_ | refine zP ?_ | refine zF ?_ | refine zH ?_ | refine zG ?_ | refine zI (by decide) ?_ | refine zQ ?_ | ((first | refine zD ?_ | refine zN ?_ | refine zT rfl rfl ?_ | refine zO rfl ?_ | refine zM ?_); simp only [yq96.down, zA, lemS.down, lemC.down, Int.reduceBEq, Nat.reduceAdd, Nat.reduceLeDiff, reduceIte, Nat.reduceEqDiff, Int.reduceLT, Int.reduceLE, Int.reduceGT, Int.reduceGE, Int.reduceEq, Int.reduceAdd, Int.reduceSub, Int.reduceMul, reduceCtorEq, lemH.down, zAZ, hg, l0, l1, l2, l3, l4, n0, p1, a1, p2, a2, p3, a3, p4, a4])))
  exact ⟨.inr rfl, by simp only [yq96.down, zA, lemS.down, lemC.down, Int.reduceBEq, Nat.reduceAdd, Nat.reduceLeDiff, reduceIte, Nat.reduceEqDiff, Int.reduceLT, Int.reduceLE, Int.reduceGT, Int.reduceGE, Int.reduceEq, Int.reduceAdd, Int.reduceSub, Int.reduceMul, reduceCtorEq] <;> rfl, gg⟩
end Go.X
end
