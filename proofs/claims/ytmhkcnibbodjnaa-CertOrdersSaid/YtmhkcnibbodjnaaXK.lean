/- Numbers, texts and digests written and read. -/
import Derived.Test.YtmhkcnibbodjnaaProg
import Derived.KernelRfl
import Derived.Test.YtmhkcnibbodjnaaXC
import Derived.Test.YtmhkcnibbodjnaaXJ
set_option linter.unusedSimpArgs false
set_option linter.unusedVariables false
set_option maxHeartbeats 2000000
section
namespace Go.X
open Go.Proofs
abbrev zTh : List XO := [
  ⟨some 4, .p (.mov (C (.string (zB [])))), none⟩]
def xq90_0 : List XO := zTh
theorem xq90_0e : E3 xq90_0 zTh := E3.rfl
abbrev zTi : List XO := [
  ⟨some 5, .p (.mov (C (.slice none 0 0))), none⟩]
def xq90_1 : List XO := zTi
theorem xq90_1e : E3 xq90_1 zTi := E3.rfl
abbrev zTj : List XO := [
  ⟨some 7, .p (.mov (T 1)), none⟩,
  ⟨some 8, .p (.minmax true (T 7) [(C (.int .i64 0))]), none⟩,
  ⟨some 9, .p (.minmax false (T 8) [(C (.int .i64 8))]), none⟩,
  ⟨some 10, .p (.mov (C (.int .i64 0))), none⟩]
def xq90_2 : List XO := zTj
theorem xq90_2e : E3 xq90_2 zTj := E3.rfl
abbrev zTk : List XO := [
  ⟨some 11, .p (.bin .lss (T 10) (T 9)), none⟩]
def xq90_3 : List XO := zTk
theorem xq90_3e : E3 xq90_3 zTk := E3.rfl
abbrev zTl : List XO := [
  ⟨some 12, .p (.mov (T 10)), none⟩,
  ⟨some 6, .p (.mov (T 12)), none⟩]
def xq90_4 : List XO := zTl
theorem xq90_4e : E3 xq90_4 zTl := E3.rfl
abbrev zTm : List XO := [
  ⟨some 13, .p (.mov (T 5)), none⟩,
  ⟨some 14, .p (.mov (T 0)), none⟩,
  ⟨some 15, .p (.mov (T 1)), none⟩,
  ⟨some 16, .p (.minmax false (T 15) [(C (.int .i64 8))]), none⟩,
  ⟨some 17, .p (.bin .sub (T 16) (C (.int .i64 1))), none⟩,
  ⟨some 18, .p (.mov (T 6)), none⟩,
  ⟨some 19, .p (.bin .sub (T 17) (T 18)), none⟩,
  ⟨some 20, .p (.bin .mul (C (.int .i64 8)) (T 19)), none⟩,
  ⟨some 21, .p (.bin .shr (T 14) (T 20)), none⟩,
  ⟨some 22, .p (.cint .u8 (T 21)), none⟩,
  ⟨some 23, .a (.bslice [(.int .u8 0)] 1 [(0, 1, (T 22))]), none⟩,
  ⟨some 24, .e (.append 1 1 (T 13) (T 23)), none⟩,
  ⟨some 5, .p (.mov (T 24)), none⟩]
def xq90_5 : List XO := zTm
theorem xq90_5e : E3 xq90_5 zTm := E3.rfl
abbrev zTn : List XO := [
  ⟨some 25, .p (.bin .add (T 10) (C (.int .i64 1))), none⟩,
  ⟨some 10, .p (.mov (T 25)), none⟩]
def xq90_6 : List XO := zTn
theorem xq90_6e : E3 xq90_6 zTn := E3.rfl
def zIP : XC :=
  .seq (.ops xq90_3) (.seq (.cond (T 11) (.skip) (.exit 0)) (.seq (.block 1 (.seq (.ops xq90_4) (.ops xq90_5))) (.ops xq90_6)))
def xq90_7 : XC := zIP
theorem xq90_7k {pr : Prog} {k : List KI} {Q : XE → Fr → Heap → Prop} {t : Fr} {h : Heap} (hw : wpk pr zIP k Q t h) : wpk pr xq90_7 k Q t h := hw
abbrev zTo : List XO := [
  ⟨some 26, .p (.mov (T 5)), none⟩,
  ⟨some 27, .r (.cb2s (T 26)), none⟩,
  ⟨some 4, .p (.mov (T 27)), none⟩]
def xq90_8 : List XO := zTo
theorem xq90_8e : E3 xq90_8 zTo := E3.rfl
def xq90 : XF := ⟨2, [.tmp 4],
  .seq (.ops xq90_0) (.seq (.ops xq90_1) (.seq (.seq (.ops xq90_2) (.block 0 (.loop xq90_7))) (.seq (.ops xq90_8) (.ret))))⟩
def yq90 := PLift.up (And.intro (And.intro (And.intro (@xq90_0e) (@xq90_1e)) (And.intro (@xq90_2e) (@xq90_3e))) (And.intro (And.intro (@xq90_4e) (@xq90_5e)) (And.intro (@xq90_6e) (@xq90_8e))))
theorem cq90 : zb Try.prog Try.f90 = some xq90 := by kernel_rfl
abbrev zRN : List XO := [
  ⟨some 0, .p (.mov (C (.pointer none))), none⟩]
def xq51_0 : List XO := zRN
theorem xq51_0e : E3 xq51_0 zRN := E3.rfl
abbrev zRO : List XO := [
  ⟨some 1, .p (.build [(.slice none 0 0)] []), none⟩,
  ⟨some 2, .a (.box (T 1)), none⟩,
  ⟨some 0, .p (.mov (T 2)), none⟩]
def xq51_1 : List XO := zRO
theorem xq51_1e : E3 xq51_1 zRO := E3.rfl
def xq51 : XF := ⟨0, [.tmp 0],
  .seq (.ops xq51_0) (.seq (.ops xq51_1) (.ret))⟩
def yq51 := PLift.up (And.intro (@xq51_0e) (@xq51_1e))
theorem cq51 : zb Try.prog Try.f51 = some xq51 := by kernel_rfl
abbrev zTp : List XO := [
  ⟨some 4, .p (.mov (T 0)), none⟩,
  ⟨some 5, .p (.eql true .nptr (T 4) (C (.pointer none))), none⟩]
def xq91_0 : List XO := zTp
theorem xq91_0e : E3 xq91_0 zTp := E3.rfl
abbrev zTq : List XO := [
  ⟨some 6, .p (.mov (T 0)), none⟩,
  ⟨some 7, .p (.mov (T 0)), none⟩,
  ⟨some 8, .p (.nilc (T 7)), none⟩,
  ⟨some 9, .p (.faddr 0 (T 8)), none⟩,
  ⟨some 10, .r (.load1 (T 9)), none⟩,
  ⟨some 11, .p (.mov (T 1)), none⟩,
  ⟨some 12, .e (.append 1 1 (T 10) (T 11)), none⟩,
  ⟨some 13, .p (.nilc (T 6)), none⟩,
  ⟨some 14, .p (.faddr 0 (T 13)), none⟩,
  ⟨none, .e (.store 1 (T 14) (T 12)), none⟩]
def xq91_1 : List XO := zTq
theorem xq91_1e : E3 xq91_1 zTq := E3.rfl
def xq91 : XF := ⟨2, [],
  .seq (.ops xq91_0) (.cond (T 5) (.ops xq91_1) (.skip))⟩
def yq91 := PLift.up (And.intro (@xq91_0e) (@xq91_1e))
theorem cq91 : zb Try.prog Try.f91 = some xq91 := by kernel_rfl
abbrev zSF : List XO := [
  ⟨some 6, .p (.mov (T 0)), none⟩,
  ⟨some 7, .p (.mov (T 1)), none⟩,
  ⟨some 8, .p (.mov (T 2)), none⟩,
  ⟨some 9, .call (.func 90) [(T 7), (T 8)], none⟩,
  ⟨some 10, .call (.func 91) [(T 6), (T 9)], none⟩]
def xq66_0 : List XO := zSF
theorem xq66_0e : E3 xq66_0 zSF := E3.rfl
def xq66 : XF := ⟨3, [],
  .ops xq66_0⟩
def yq66 := PLift.up (@xq66_0e)
theorem cq66 : zb Try.prog Try.f66 = some xq66 := by kernel_rfl
abbrev xq92_0l : List XO := [
  ⟨some 4, .p (.mov (T 0)), none⟩,
  ⟨some 5, .p (.mov (T 1)), none⟩,
  ⟨some 6, .p (.minmax true (T 5) [(C (.int .i64 0))]), none⟩,
  ⟨some 7, .p (.cint .u64 (T 6)), none⟩,
  ⟨some 8, .call (.func 66) [(T 4), (T 7), (C (.int .i64 4))], none⟩]
def xq92_0 : List XO := xq92_0l
def xq92 : XF := ⟨2, [],
  .ops xq92_0⟩
theorem cq92 : zb Try.prog Try.f92 = some xq92 := by kernel_rfl
abbrev xq67_0l : List XO := [
  ⟨some 4, .p (.mov (T 0)), none⟩,
  ⟨some 5, .p (.mov (T 1)), none⟩,
  ⟨some 6, .p (.lenS (T 5)), none⟩,
  ⟨some 7, .call (.func 92) [(T 4), (T 6)], none⟩]
def xq67_0 : List XO := xq67_0l
abbrev xq67_1l : List XO := [
  ⟨some 8, .p (.mov (T 0)), none⟩,
  ⟨some 9, .p (.mov (T 1)), none⟩,
  ⟨some 10, .call (.func 91) [(T 8), (T 9)], none⟩]
def xq67_1 : List XO := xq67_1l
def xq67 : XF := ⟨2, [],
  .seq (.ops xq67_0) (.ops xq67_1)⟩
theorem cq67 : zb Try.prog Try.f67 = some xq67 := by kernel_rfl
abbrev zSG : List XO := [
  ⟨some 5, .a (.mkslice [(.int .u8 0)] 1 (C (.int .i64 32)) (C (.int .i64 32))), none⟩,
  ⟨some 4, .p (.mov (T 5)), none⟩]
def xq68_0 : List XO := zSG
theorem xq68_0e : E3 xq68_0 zSG := E3.rfl
abbrev zSH : List XO := [
  ⟨some 6, .p (.mov (T 4)), none⟩,
  ⟨some 7, .p (.mov (T 1)), none⟩,
  ⟨some 8, .e (.copy 1 (T 6) (T 7)), none⟩]
def xq68_1 : List XO := zSH
theorem xq68_1e : E3 xq68_1 zSH := E3.rfl
abbrev zSI : List XO := [
  ⟨some 9, .p (.mov (T 0)), none⟩,
  ⟨some 10, .p (.mov (T 4)), none⟩,
  ⟨some 11, .r (.cb2s (T 10)), none⟩,
  ⟨some 12, .call (.func 91) [(T 9), (T 11)], none⟩]
def xq68_2 : List XO := zSI
theorem xq68_2e : E3 xq68_2 zSI := E3.rfl
def xq68 : XF := ⟨2, [],
  .seq (.ops xq68_0) (.seq (.ops xq68_1) (.ops xq68_2))⟩
def yq68 := PLift.up (And.intro (@xq68_0e) (And.intro (@xq68_1e) (@xq68_2e)))
theorem cq68 : zb Try.prog Try.f68 = some xq68 := by kernel_rfl
abbrev zRX : List XO := [
  ⟨some 2, .p (.mov (C (.string (zB [])))), none⟩]
def xq53_0 : List XO := zRX
theorem xq53_0e : E3 xq53_0 zRX := E3.rfl
abbrev zRY : List XO := [
  ⟨some 3, .p (.mov (T 0)), none⟩,
  ⟨some 4, .p (.eql false .nptr (T 3) (C (.pointer none))), none⟩]
def xq53_1 : List XO := zRY
theorem xq53_1e : E3 xq53_1 zRY := E3.rfl
abbrev zRZ : List XO := [
  ⟨some 2, .p (.mov (C (.string (zB [])))), none⟩]
def xq53_2 : List XO := zRZ
theorem xq53_2e : E3 xq53_2 zRZ := E3.rfl
abbrev zRa : List XO := [
  ⟨some 5, .p (.mov (T 0)), none⟩,
  ⟨some 6, .p (.nilc (T 5)), none⟩,
  ⟨some 7, .p (.faddr 0 (T 6)), none⟩,
  ⟨some 8, .r (.load1 (T 7)), none⟩,
  ⟨some 9, .r (.cb2s (T 8)), none⟩,
  ⟨some 2, .p (.mov (T 9)), none⟩]
def xq53_3 : List XO := zRa
theorem xq53_3e : E3 xq53_3 zRa := E3.rfl
def xq53 : XF := ⟨1, [.tmp 2],
  .seq (.ops xq53_0) (.seq (.seq (.ops xq53_1) (.cond (T 4) (.seq (.ops xq53_2) (.ret)) (.skip))) (.seq (.ops xq53_3) (.ret)))⟩
def yq53 := PLift.up (And.intro (And.intro (@xq53_0e) (@xq53_1e)) (And.intro (@xq53_2e) (@xq53_3e)))
theorem cq53 : zb Try.prog Try.f53 = some xq53 := by kernel_rfl
abbrev xq54_0l : List XO := [
  ⟨some 2, .p (.mov (C (.pointer none))), none⟩]
def xq54_0 : List XO := xq54_0l
abbrev xq54_1l : List XO := [
  ⟨some 3, .p (.mov (T 0)), none⟩,
  ⟨some 4, .p (.build [(.string (zB [])), (.int .i64 0), (.int .i64 0)] [(0, 1, (T 3))]), none⟩,
  ⟨some 5, .a (.box (T 4)), none⟩,
  ⟨some 2, .p (.mov (T 5)), none⟩]
def xq54_1 : List XO := xq54_1l
def xq54 : XF := ⟨1, [.tmp 2],
  .seq (.ops xq54_0) (.seq (.ops xq54_1) (.ret))⟩
theorem cq54 : zb Try.prog Try.f54 = some xq54 := by kernel_rfl
abbrev xq69_0l : List XO := [
  ⟨some 4, .p (.mov (C (.int .u64 0))), none⟩]
def xq69_0 : List XO := xq69_0l
abbrev xq69_1l : List XO := [
  ⟨some 8, .p (.mov (T 0)), none⟩,
  ⟨some 9, .call (.func 57) [(T 8)], none⟩,
  ⟨some 10, .p (.eql false .int (T 9) (C (.int .i64 0))), none⟩,
  ⟨some 11, .p (.mov (T 10)), none⟩,
  ⟨some 12, .p (.mov (T 1)), some (11, true)⟩,
  ⟨some 13, .p (.bin .gtr (T 12) (C (.int .i64 8))), some (11, true)⟩,
  ⟨some 14, .p (.pick (T 11) (T 13) (C (.bool false))), none⟩]
def xq69_1 : List XO := xq69_1l
abbrev xq69_2l : List XO := [
  ⟨some 15, .p (.mov (T 0)), none⟩,
  ⟨some 16, .p (.nilc (T 15)), none⟩,
  ⟨some 17, .p (.faddr 2 (T 16)), none⟩,
  ⟨none, .e (.store 1 (T 17) (C (.int .i64 1))), none⟩]
def xq69_2 : List XO := xq69_2l
abbrev xq69_3l : List XO := [
  ⟨some 5, .p (.mov (C (.int .u64 0))), none⟩]
def xq69_3 : List XO := xq69_3l
abbrev xq69_4l : List XO := [
  ⟨some 18, .p (.mov (T 0)), none⟩,
  ⟨some 19, .p (.mov (T 1)), none⟩,
  ⟨some 20, .call (.func 93) [(T 18), (T 19)], none⟩,
  ⟨some 21, .a (.cs2b (T 20)), none⟩,
  ⟨some 22, .p (.lenV (T 21)), none⟩,
  ⟨some 23, .p (.mov (C (.int .i64 0))), none⟩]
def xq69_4 : List XO := xq69_4l
abbrev xq69_5l : List XO := [
  ⟨some 24, .p (.bin .lss (T 23) (T 22)), none⟩]
def xq69_5 : List XO := xq69_5l
abbrev xq69_6l : List XO := [
  ⟨some 25, .p (.iaddrS 1 (T 21) (T 23)), none⟩,
  ⟨some 26, .r (.load1 (T 25)), none⟩,
  ⟨some 7, .p (.mov (T 26)), none⟩]
def xq69_6 : List XO := xq69_6l
abbrev xq69_7l : List XO := [
  ⟨some 27, .p (.mov (T 5)), none⟩,
  ⟨some 28, .p (.bin .shl (T 27) (C (.int .u64 8))), none⟩,
  ⟨some 29, .p (.mov (T 7)), none⟩,
  ⟨some 30, .p (.cint .u64 (T 29)), none⟩,
  ⟨some 31, .p (.bin .or (T 28) (T 30)), none⟩,
  ⟨some 5, .p (.mov (T 31)), none⟩]
def xq69_7 : List XO := xq69_7l
abbrev xq69_8l : List XO := [
  ⟨some 32, .p (.bin .add (T 23) (C (.int .i64 1))), none⟩,
  ⟨some 23, .p (.mov (T 32)), none⟩]
def xq69_8 : List XO := xq69_8l
def xq69_9b : XC :=
  .seq (.ops xq69_5) (.seq (.cond (T 24) (.skip) (.exit 0)) (.seq (.block 1 (.seq (.ops xq69_6) (.ops xq69_7))) (.ops xq69_8)))
def xq69_9 : XC := xq69_9b
abbrev xq69_10l : List XO := [
  ⟨some 33, .p (.mov (T 5)), none⟩,
  ⟨some 4, .p (.mov (T 33)), none⟩]
def xq69_10 : List XO := xq69_10l
def xq69 : XF := ⟨2, [.tmp 4],
  .seq (.ops xq69_0) (.seq (.seq (.ops xq69_1) (.cond (T 14) (.ops xq69_2) (.skip))) (.seq (.ops xq69_3) (.seq (.seq (.ops xq69_4) (.block 0 (.loop xq69_9))) (.seq (.ops xq69_10) (.ret)))))⟩
theorem cq69 : zb Try.prog Try.f69 = some xq69 := by kernel_rfl
abbrev xq93_0l : List XO := [
  ⟨some 4, .p (.mov (C (.string (zB [])))), none⟩]
def xq93_0 : List XO := xq93_0l
abbrev xq93_1l : List XO := [
  ⟨some 6, .p (.mov (T 0)), none⟩,
  ⟨some 7, .call (.func 57) [(T 6)], none⟩,
  ⟨some 8, .p (.eql true .int (T 7) (C (.int .i64 0))), none⟩,
  ⟨some 5, .p (.mov (T 8)), none⟩]
def xq93_1 : List XO := xq93_1l
abbrev xq93_2l : List XO := [
  ⟨some 4, .p (.mov (C (.string (zB [])))), none⟩]
def xq93_2 : List XO := xq93_2l
abbrev xq93_3l : List XO := [
  ⟨some 10, .p (.mov (T 1)), none⟩,
  ⟨some 11, .p (.bin .lss (T 10) (C (.int .i64 0))), none⟩,
  ⟨some 9, .p (.mov (T 11)), none⟩]
def xq93_3 : List XO := xq93_3l
abbrev xq93_4l : List XO := [
  ⟨some 12, .p (.mov (T 0)), none⟩,
  ⟨some 13, .p (.nilc (T 12)), none⟩,
  ⟨some 14, .p (.faddr 2 (T 13)), none⟩,
  ⟨none, .e (.store 1 (T 14) (C (.int .i64 1))), none⟩]
def xq93_4 : List XO := xq93_4l
abbrev xq93_5l : List XO := [
  ⟨some 4, .p (.mov (C (.string (zB [])))), none⟩]
def xq93_5 : List XO := xq93_5l
abbrev xq93_6l : List XO := [
  ⟨some 16, .p (.mov (T 1)), none⟩,
  ⟨some 17, .p (.mov (T 0)), none⟩,
  ⟨some 18, .p (.nilc (T 17)), none⟩,
  ⟨some 19, .p (.faddr 0 (T 18)), none⟩,
  ⟨some 20, .r (.load1 (T 19)), none⟩,
  ⟨some 21, .p (.lenS (T 20)), none⟩,
  ⟨some 22, .p (.mov (T 0)), none⟩,
  ⟨some 23, .p (.nilc (T 22)), none⟩,
  ⟨some 24, .p (.faddr 1 (T 23)), none⟩,
  ⟨some 25, .r (.load1 (T 24)), none⟩,
  ⟨some 26, .p (.bin .sub (T 21) (T 25)), none⟩,
  ⟨some 27, .p (.bin .gtr (T 16) (T 26)), none⟩,
  ⟨some 15, .p (.mov (T 27)), none⟩]
def xq93_6 : List XO := xq93_6l
abbrev xq93_7l : List XO := [
  ⟨some 28, .p (.mov (T 0)), none⟩,
  ⟨some 29, .p (.nilc (T 28)), none⟩,
  ⟨some 30, .p (.faddr 2 (T 29)), none⟩,
  ⟨none, .e (.store 1 (T 30) (C (.int .i64 4))), none⟩]
def xq93_7 : List XO := xq93_7l
abbrev xq93_8l : List XO := [
  ⟨some 4, .p (.mov (C (.string (zB [])))), none⟩]
def xq93_8 : List XO := xq93_8l
abbrev xq93_9l : List XO := [
  ⟨some 31, .p (.mov (T 0)), none⟩,
  ⟨some 32, .p (.nilc (T 31)), none⟩,
  ⟨some 33, .p (.faddr 1 (T 32)), none⟩,
  ⟨some 34, .r (.load1 (T 33)), none⟩,
  ⟨some 35, .p (.mov (T 1)), none⟩,
  ⟨some 36, .p (.bin .add (T 34) (T 35)), none⟩,
  ⟨some 37, .p (.nilc (T 31)), none⟩,
  ⟨some 38, .p (.faddr 1 (T 37)), none⟩,
  ⟨none, .e (.store 1 (T 38) (T 36)), none⟩]
def xq93_9 : List XO := xq93_9l
abbrev xq93_10l : List XO := [
  ⟨some 39, .p (.mov (T 0)), none⟩,
  ⟨some 40, .p (.nilc (T 39)), none⟩,
  ⟨some 41, .p (.faddr 0 (T 40)), none⟩,
  ⟨some 42, .r (.load1 (T 41)), none⟩,
  ⟨some 43, .p (.mov (T 0)), none⟩,
  ⟨some 44, .p (.nilc (T 43)), none⟩,
  ⟨some 45, .p (.faddr 1 (T 44)), none⟩,
  ⟨some 46, .r (.load1 (T 45)), none⟩,
  ⟨some 47, .p (.mov (T 1)), none⟩,
  ⟨some 48, .p (.bin .sub (T 46) (T 47)), none⟩,
  ⟨some 49, .p (.mov (T 0)), none⟩,
  ⟨some 50, .p (.nilc (T 49)), none⟩,
  ⟨some 51, .p (.faddr 1 (T 50)), none⟩,
  ⟨some 52, .r (.load1 (T 51)), none⟩,
  ⟨some 53, .p (.slcS (T 42) (some (T 48)) (some (T 52))), none⟩,
  ⟨some 4, .p (.mov (T 53)), none⟩]
def xq93_10 : List XO := xq93_10l
def xq93 : XF := ⟨2, [.tmp 4],
  .seq (.ops xq93_0) (.seq (.block 0 (.seq (.ops xq93_1) (.cond (T 5) (.seq (.ops xq93_2) (.ret)) (.seq (.ops xq93_3) (.cond (T 9) (.seq (.ops xq93_4) (.seq (.ops xq93_5) (.ret))) (.seq (.draw xq93_6 []) (.cond (T 15) (.seq (.ops xq93_7) (.seq (.ops xq93_8) (.ret))) (.skip)))))))) (.seq (.ops xq93_9) (.seq (.draw xq93_10 []) (.ret))))⟩
theorem cq93 : zb Try.prog Try.f93 = some xq93 := by kernel_rfl
abbrev xq94_0l : List XO := [
  ⟨some 4, .p (.mov (C (.int .i64 0))), none⟩]
def xq94_0 : List XO := xq94_0l
abbrev xq94_1l : List XO := [
  ⟨some 7, .p (.mov (T 0)), none⟩,
  ⟨some 8, .call (.func 58) [(T 7)], none⟩,
  ⟨some 5, .p (.mov (T 8)), none⟩]
def xq94_1 : List XO := xq94_1l
abbrev xq94_2l : List XO := [
  ⟨some 9, .p (.mov (T 0)), none⟩,
  ⟨some 10, .call (.func 69) [(T 9), (C (.int .i64 4))], none⟩,
  ⟨some 6, .p (.mov (T 10)), none⟩]
def xq94_2 : List XO := xq94_2l
abbrev xq94_3l : List XO := [
  ⟨some 11, .p (.mov (T 0)), none⟩,
  ⟨some 12, .call (.func 57) [(T 11)], none⟩,
  ⟨some 13, .p (.eql true .int (T 12) (C (.int .i64 0))), none⟩]
def xq94_3 : List XO := xq94_3l
abbrev xq94_4l : List XO := [
  ⟨some 4, .p (.mov (C (.int .i64 0))), none⟩]
def xq94_4 : List XO := xq94_4l
abbrev xq94_5l : List XO := [
  ⟨some 14, .p (.mov (T 1)), none⟩,
  ⟨some 15, .p (.bin .lss (T 14) (C (.int .i64 0))), none⟩,
  ⟨some 16, .p (.mov (T 15)), none⟩,
  ⟨some 17, .p (.mov (T 6)), some (16, false)⟩,
  ⟨some 18, .p (.mov (T 1)), some (16, false)⟩,
  ⟨some 19, .p (.cint .u64 (T 18)), some (16, false)⟩,
  ⟨some 20, .p (.bin .gtr (T 17) (T 19)), some (16, false)⟩,
  ⟨some 21, .p (.pick (T 16) (C (.bool true)) (T 20)), none⟩]
def xq94_5 : List XO := xq94_5l
abbrev xq94_6l : List XO := [
  ⟨some 22, .p (.mov (T 0)), none⟩,
  ⟨some 23, .p (.mov (T 0)), none⟩,
  ⟨some 24, .p (.mov (T 5)), none⟩,
  ⟨some 25, .p (.nilc (T 22)), none⟩,
  ⟨some 26, .p (.faddr 1 (T 25)), none⟩,
  ⟨none, .e (.store 1 (T 26) (T 24)), none⟩,
  ⟨some 27, .p (.nilc (T 23)), none⟩,
  ⟨some 28, .p (.faddr 2 (T 27)), none⟩,
  ⟨none, .e (.store 1 (T 28) (C (.int .i64 3))), none⟩]
def xq94_6 : List XO := xq94_6l
abbrev xq94_7l : List XO := [
  ⟨some 4, .p (.mov (C (.int .i64 0))), none⟩]
def xq94_7 : List XO := xq94_7l
abbrev xq94_8l : List XO := [
  ⟨some 29, .p (.mov (T 6)), none⟩,
  ⟨some 30, .p (.cint .i64 (T 29)), none⟩,
  ⟨some 4, .p (.mov (T 30)), none⟩]
def xq94_8 : List XO := xq94_8l
def xq94 : XF := ⟨2, [.tmp 4],
  .seq (.ops xq94_0) (.seq (.ops xq94_1) (.seq (.ops xq94_2) (.seq (.seq (.ops xq94_3) (.cond (T 13) (.seq (.ops xq94_4) (.ret)) (.skip))) (.seq (.seq (.ops xq94_5) (.cond (T 21) (.seq (.ops xq94_6) (.seq (.ops xq94_7) (.ret))) (.skip))) (.seq (.ops xq94_8) (.ret))))))⟩
theorem cq94 : zb Try.prog Try.f94 = some xq94 := by kernel_rfl
abbrev xq70_0l : List XO := [
  ⟨some 4, .p (.mov (C (.string (zB [])))), none⟩]
def xq70_0 : List XO := xq70_0l
abbrev xq70_1l : List XO := [
  ⟨some 7, .p (.mov (T 0)), none⟩,
  ⟨some 8, .call (.func 58) [(T 7)], none⟩,
  ⟨some 5, .p (.mov (T 8)), none⟩]
def xq70_1 : List XO := xq70_1l
abbrev xq70_2l : List XO := [
  ⟨some 9, .p (.mov (T 0)), none⟩,
  ⟨some 10, .p (.mov (T 0)), none⟩,
  ⟨some 11, .p (.mov (T 1)), none⟩,
  ⟨some 12, .call (.func 94) [(T 10), (T 11)], none⟩,
  ⟨some 13, .call (.func 93) [(T 9), (T 12)], none⟩,
  ⟨some 6, .p (.mov (T 13)), none⟩]
def xq70_2 : List XO := xq70_2l
abbrev xq70_3l : List XO := [
  ⟨some 14, .p (.mov (T 0)), none⟩,
  ⟨some 15, .call (.func 57) [(T 14)], none⟩,
  ⟨some 16, .p (.eql true .int (T 15) (C (.int .i64 0))), none⟩,
  ⟨some 17, .p (.mov (T 16)), none⟩,
  ⟨some 18, .p (.mov (T 0)), some (17, true)⟩,
  ⟨some 19, .p (.eql true .nptr (T 18) (C (.pointer none))), some (17, true)⟩,
  ⟨some 20, .p (.pick (T 17) (T 19) (C (.bool false))), none⟩]
def xq70_3 : List XO := xq70_3l
abbrev xq70_4l : List XO := [
  ⟨some 21, .p (.mov (T 0)), none⟩,
  ⟨some 22, .p (.mov (T 5)), none⟩,
  ⟨some 23, .p (.nilc (T 21)), none⟩,
  ⟨some 24, .p (.faddr 1 (T 23)), none⟩,
  ⟨none, .e (.store 1 (T 24) (T 22)), none⟩]
def xq70_4 : List XO := xq70_4l
abbrev xq70_5l : List XO := [
  ⟨some 25, .p (.mov (T 6)), none⟩,
  ⟨some 4, .p (.mov (T 25)), none⟩]
def xq70_5 : List XO := xq70_5l
def xq70 : XF := ⟨2, [.tmp 4],
  .seq (.ops xq70_0) (.seq (.ops xq70_1) (.seq (.ops xq70_2) (.seq (.seq (.ops xq70_3) (.cond (T 20) (.ops xq70_4) (.skip))) (.seq (.ops xq70_5) (.ret)))))⟩
theorem cq70 : zb Try.prog Try.f70 = some xq70 := by kernel_rfl
abbrev xq71_0l : List XO := [
  ⟨some 2, .p (.mov (C (.string (zB [])))), none⟩]
def xq71_0 : List XO := xq71_0l
abbrev xq71_1l : List XO := [
  ⟨some 3, .p (.mov (T 0)), none⟩,
  ⟨some 4, .call (.func 93) [(T 3), (C (.int .i64 32))], none⟩,
  ⟨some 2, .p (.mov (T 4)), none⟩]
def xq71_1 : List XO := xq71_1l
def xq71 : XF := ⟨1, [.tmp 2],
  .seq (.ops xq71_0) (.seq (.ops xq71_1) (.ret))⟩
theorem cq71 : zb Try.prog Try.f71 = some xq71 := by kernel_rfl
abbrev xq72_0l : List XO := [
  ⟨some 2, .p (.mov (C (.int .i64 0))), none⟩]
def xq72_0 : List XO := xq72_0l
abbrev xq72_1l : List XO := [
  ⟨some 3, .p (.mov (T 0)), none⟩,
  ⟨some 4, .call (.func 56) [(T 3)], none⟩,
  ⟨some 5, .p (.bin .gtr (T 4) (C (.int .i64 0))), none⟩]
def xq72_1 : List XO := xq72_1l
abbrev xq72_2l : List XO := [
  ⟨some 6, .p (.mov (T 0)), none⟩,
  ⟨some 7, .call (.func 84) [(T 6), (C (.int .i64 5))], none⟩]
def xq72_2 : List XO := xq72_2l
abbrev xq72_3l : List XO := [
  ⟨some 8, .p (.mov (T 0)), none⟩,
  ⟨some 9, .call (.func 57) [(T 8)], none⟩,
  ⟨some 2, .p (.mov (T 9)), none⟩]
def xq72_3 : List XO := xq72_3l
def xq72 : XF := ⟨1, [.tmp 2],
  .seq (.ops xq72_0) (.seq (.seq (.ops xq72_1) (.cond (T 5) (.ops xq72_2) (.skip))) (.seq (.ops xq72_3) (.ret)))⟩
theorem cq72 : zb Try.prog Try.f72 = some xq72 := by kernel_rfl
abbrev xq84_0l : List XO := [
  ⟨some 4, .p (.mov (T 0)), none⟩,
  ⟨some 5, .p (.eql true .nptr (T 4) (C (.pointer none))), none⟩,
  ⟨some 6, .p (.mov (T 5)), none⟩,
  ⟨some 7, .p (.mov (T 0)), some (6, true)⟩,
  ⟨some 8, .p (.nilc (T 7)), some (6, true)⟩,
  ⟨some 9, .p (.faddr 2 (T 8)), some (6, true)⟩,
  ⟨some 10, .r (.load1 (T 9)), some (6, true)⟩,
  ⟨some 11, .p (.eql false .int (T 10) (C (.int .i64 0))), some (6, true)⟩,
  ⟨some 12, .p (.pick (T 6) (T 11) (C (.bool false))), none⟩]
def xq84_0 : List XO := xq84_0l
abbrev xq84_1l : List XO := [
  ⟨some 13, .p (.mov (T 0)), none⟩,
  ⟨some 14, .p (.mov (T 1)), none⟩,
  ⟨some 15, .p (.nilc (T 13)), none⟩,
  ⟨some 16, .p (.faddr 2 (T 15)), none⟩,
  ⟨none, .e (.store 1 (T 16) (T 14)), none⟩]
def xq84_1 : List XO := xq84_1l
def xq84 : XF := ⟨2, [],
  .seq (.ops xq84_0) (.cond (T 12) (.ops xq84_1) (.skip))⟩
theorem cq84 : zb Try.prog Try.f84 = some xq84 := by kernel_rfl
abbrev xq56_0l : List XO := [
  ⟨some 2, .p (.mov (C (.int .i64 0))), none⟩]
def xq56_0 : List XO := xq56_0l
abbrev xq56_1l : List XO := [
  ⟨some 3, .p (.mov (T 0)), none⟩,
  ⟨some 4, .p (.eql false .nptr (T 3) (C (.pointer none))), none⟩]
def xq56_1 : List XO := xq56_1l
abbrev xq56_2l : List XO := [
  ⟨some 2, .p (.mov (C (.int .i64 0))), none⟩]
def xq56_2 : List XO := xq56_2l
abbrev xq56_3l : List XO := [
  ⟨some 5, .p (.mov (T 0)), none⟩,
  ⟨some 6, .p (.nilc (T 5)), none⟩,
  ⟨some 7, .p (.faddr 0 (T 6)), none⟩,
  ⟨some 8, .r (.load1 (T 7)), none⟩,
  ⟨some 9, .p (.lenS (T 8)), none⟩,
  ⟨some 10, .p (.mov (T 0)), none⟩,
  ⟨some 11, .p (.nilc (T 10)), none⟩,
  ⟨some 12, .p (.faddr 1 (T 11)), none⟩,
  ⟨some 13, .r (.load1 (T 12)), none⟩,
  ⟨some 14, .p (.bin .sub (T 9) (T 13)), none⟩,
  ⟨some 2, .p (.mov (T 14)), none⟩]
def xq56_3 : List XO := xq56_3l
def xq56 : XF := ⟨1, [.tmp 2],
  .seq (.ops xq56_0) (.seq (.seq (.ops xq56_1) (.cond (T 4) (.seq (.ops xq56_2) (.ret)) (.skip))) (.seq (.draw xq56_3 []) (.ret)))⟩
theorem cq56 : zb Try.prog Try.f56 = some xq56 := by kernel_rfl
abbrev xq57_0l : List XO := [
  ⟨some 2, .p (.mov (C (.int .i64 0))), none⟩]
def xq57_0 : List XO := xq57_0l
abbrev xq57_1l : List XO := [
  ⟨some 3, .p (.mov (T 0)), none⟩,
  ⟨some 4, .p (.eql false .nptr (T 3) (C (.pointer none))), none⟩]
def xq57_1 : List XO := xq57_1l
abbrev xq57_2l : List XO := [
  ⟨some 2, .p (.mov (C (.int .i64 1))), none⟩]
def xq57_2 : List XO := xq57_2l
abbrev xq57_3l : List XO := [
  ⟨some 5, .p (.mov (T 0)), none⟩,
  ⟨some 6, .p (.nilc (T 5)), none⟩,
  ⟨some 7, .p (.faddr 2 (T 6)), none⟩,
  ⟨some 8, .r (.load1 (T 7)), none⟩,
  ⟨some 2, .p (.mov (T 8)), none⟩]
def xq57_3 : List XO := xq57_3l
def xq57 : XF := ⟨1, [.tmp 2],
  .seq (.ops xq57_0) (.seq (.seq (.ops xq57_1) (.cond (T 4) (.seq (.ops xq57_2) (.ret)) (.skip))) (.seq (.ops xq57_3) (.ret)))⟩
theorem cq57 : zb Try.prog Try.f57 = some xq57 := by kernel_rfl
abbrev xq58_0l : List XO := [
  ⟨some 2, .p (.mov (C (.int .i64 0))), none⟩]
def xq58_0 : List XO := xq58_0l
abbrev xq58_1l : List XO := [
  ⟨some 3, .p (.mov (T 0)), none⟩,
  ⟨some 4, .p (.eql false .nptr (T 3) (C (.pointer none))), none⟩]
def xq58_1 : List XO := xq58_1l
abbrev xq58_2l : List XO := [
  ⟨some 2, .p (.mov (C (.int .i64 0))), none⟩]
def xq58_2 : List XO := xq58_2l
abbrev xq58_3l : List XO := [
  ⟨some 5, .p (.mov (T 0)), none⟩,
  ⟨some 6, .p (.nilc (T 5)), none⟩,
  ⟨some 7, .p (.faddr 1 (T 6)), none⟩,
  ⟨some 8, .r (.load1 (T 7)), none⟩,
  ⟨some 2, .p (.mov (T 8)), none⟩]
def xq58_3 : List XO := xq58_3l
def xq58 : XF := ⟨1, [.tmp 2],
  .seq (.ops xq58_0) (.seq (.seq (.ops xq58_1) (.cond (T 4) (.seq (.ops xq58_2) (.ret)) (.skip))) (.seq (.ops xq58_3) (.ret)))⟩
theorem cq58 : zb Try.prog Try.f58 = some xq58 := by kernel_rfl
end Go.X
end
section
open Go Go.X
namespace Go.X
set_option linter.unusedVariables false
def numB (n k : Nat) : List UInt8 := (List.range k).map fun i => UInt8.ofNat (n >>> (8 * (k - 1 - i)))
theorem zAQ (n k : Nat) : (numB n k).length = k := by simp [numB]
def mmV (isMax : Bool) (x : Value) : List Value → Option Value
  | [] => some x
  | y :: ys => match mm isMax x y with | some z => mmV isMax z ys | none => none
theorem zJw {t : Fr} {b : Bool} {x : Operand} {xs : List Operand} : zZ t (.minmax b x xs) = mmV b (t.eval x) (xs.map t.eval) := by
  simp only [zZ]
  generalize t.eval x = v
  induction xs generalizing v with
  | nil => rfl
  | cons y ys ih =>
    simp only [mms, List.map_cons, mmV]
    cases mm b v (t.eval y) with
    | none => rfl
    | some z => exact ih z
theorem mm_max {k : IntKind} {x y : Int} : mmV true (.int k x) [.int k y] = some (.int k (if y > x then y else x)) := by simp [mmV, mm]
theorem mm_min {k : IntKind} {x y : Int} : mmV false (.int k x) [.int k y] = some (.int k (if y < x then y else x)) := by simp [mmV, mm]
def zBK : List Value → Option Value
  | [.int .u64 n, .int .i64 k] => if 0 ≤ n ∧ n < 18446744073709551616 ∧ 0 ≤ k ∧ k ≤ 8 then some (.string (zB (numB n.toNat k.toNat))) else none
  | _ => none
theorem wnum_ok (pr : Prog) (n k : Nat) (hn : n < 18446744073709551616) (hk : k ≤ 8) (h : Heap) : Comes pr xq90 [uw .u64 n, .int .i64 (k : Int)] h (.string (zB (numB n k))) := by
  apply Comes.of
  unfold xq90
  dsimp only [zc]
  have m1 := mm_max (k := .i64) (x := (k : Int)) (y := 0)
  have m2 := mm_min (k := .i64) (x := (k : Int)) (y := 8)
  rw [if_neg (by omega)] at m1 m2
  (repeat (first | refine zS ?_ | refine zL ?_ | refine zR ?_ | refine zE ?_ | refine zC ?_ | refine zJ ?_ | refine zK ?_ | refine zP ?_ | refine zF ?_ | refine zH ?_ | refine zG ?_ | refine zI (by decide) ?_ | refine zQ ?_ | ((first | refine zD ?_ | refine zN ?_ | refine zT rfl rfl ?_ | refine zO rfl ?_ | refine zM ?_); simp only [yq90.down, zA, lemS.down, lemC.down, Int.reduceBEq, Nat.reduceAdd, Nat.reduceLeDiff, reduceIte, Nat.reduceEqDiff, Int.reduceLT, Int.reduceLE, Int.reduceGT, Int.reduceGE, Int.reduceEq, Int.reduceAdd, Int.reduceSub, Int.reduceMul, reduceCtorEq, lemH.down, zJw, m1, m2])))
  have hl : ∀ i, i ≤ k → ((numB n k).take i).length = i := fun i hi => by rw [List.length_take, zAQ]; omega
  refine zo (fun m t g => ∃ i v, m = k - i ∧ i ≤ k ∧ Own g (fun A => h.next ≤ A) 1 v ((numB n k).take i).length (zV ((numB n k).take i)) ∧ Grows h g ∧ t.get 0 = uw .u64 n ∧ t.get 1 = .int .i64 (k : Int) ∧ t.get 5 = v ∧ t.get 9 = .int .i64 (k : Int) ∧ t.get 10 = .int .i64 (i : Int)) ?_ k _ _ ⟨0, _, rfl, by omega, Own.nil, Grows.refl h, by simp only [yq90.down, zA, lemS.down, lemC.down, Int.reduceBEq, Nat.reduceAdd, Nat.reduceLeDiff, reduceIte, Nat.reduceEqDiff, Int.reduceLT, Int.reduceLE, Int.reduceGT, Int.reduceGE, Int.reduceEq, Int.reduceAdd, Int.reduceSub, Int.reduceMul, reduceCtorEq], by simp only [yq90.down, zA, lemS.down, lemC.down, Int.reduceBEq, Nat.reduceAdd, Nat.reduceLeDiff, reduceIte, Nat.reduceEqDiff, Int.reduceLT, Int.reduceLE, Int.reduceGT, Int.reduceGE, Int.reduceEq, Int.reduceAdd, Int.reduceSub, Int.reduceMul, reduceCtorEq], by simp only [yq90.down, zA, lemS.down, lemC.down, Int.reduceBEq, Nat.reduceAdd, Nat.reduceLeDiff, reduceIte, Nat.reduceEqDiff, Int.reduceLT, Int.reduceLE, Int.reduceGT, Int.reduceGE, Int.reduceEq, Int.reduceAdd, Int.reduceSub, Int.reduceMul, reduceCtorEq], by simp only [yq90.down, zA, lemS.down, lemC.down, Int.reduceBEq, Nat.reduceAdd, Nat.reduceLeDiff, reduceIte, Nat.reduceEqDiff, Int.reduceLT, Int.reduceLE, Int.reduceGT, Int.reduceGE, Int.reduceEq, Int.reduceAdd, Int.reduceSub, Int.reduceMul, reduceCtorEq], by (simp only [yq90.down, zA, lemS.down, lemC.down, Int.reduceBEq, Nat.reduceAdd, Nat.reduceLeDiff, reduceIte, Nat.reduceEqDiff, Int.reduceLT, Int.reduceLE, Int.reduceGT, Int.reduceGE, Int.reduceEq, Int.reduceAdd, Int.reduceSub, Int.reduceMul, reduceCtorEq]) <;> rfl⟩
  rintro m t g ⟨i, v, rfl, hi, gO, gg, t0, t1, t5, t9, t10⟩ hnext
  refine xq90_7k ?_
  dsimp only [zIP]
  (repeat (first | refine zS ?_ | refine zL ?_ | refine zR ?_ | refine zE ?_ | refine zC ?_ | refine zJ ?_ | refine zK ?_ | refine zP ?_ | refine zF ?_ | refine zH ?_ | refine zG ?_ | refine zI (by decide) ?_ | refine zQ ?_ | ((first | refine zD ?_ | refine zN ?_ | refine zT rfl rfl ?_ | refine zO rfl ?_ | refine zM ?_); simp only [yq90.down, zA, lemS.down, lemC.down, Int.reduceBEq, Nat.reduceAdd, Nat.reduceLeDiff, reduceIte, Nat.reduceEqDiff, Int.reduceLT, Int.reduceLE, Int.reduceGT, Int.reduceGE, Int.reduceEq, Int.reduceAdd, Int.reduceSub, Int.reduceMul, reduceCtorEq, lemH.down, t0, t1, t5, t9, t10])))
  refine ⟨fun hlt => ?_, fun hge => ?_⟩
  · have hi' : i < k := by omega
    have ww : IntKind.i64.wrap ((i : Int) + 1) = ((i + 1 : Nat) : Int) := by rw [wrap_i64 (by omega) (by omega)]; omega
    have w1 : IntKind.i64.wrap ((k : Int) - 1) = ((k - 1 : Nat) : Int) := by rw [wrap_i64 (by omega) (by omega)]; omega
    have w2 : IntKind.i64.wrap (((k - 1 : Nat) : Int) - (i : Int)) = ((k - 1 - i : Nat) : Int) := by rw [wrap_i64 (by omega) (by omega)]; omega
    have w3 : IntKind.i64.wrap (8 * ((k - 1 - i : Nat) : Int)) = ((8 * (k - 1 - i) : Nat) : Int) := by rw [wrap_i64 (by omega) (by omega)]; omega
    have sh := zG3 (k' := .i64) (x := n) (n := 8 * (k - 1 - i)) (by omega)
    rw [Nat.mod_eq_of_lt hn] at sh
    have hnx := gg.next
    obtain ⟨v', g2, e2, hO2, k2⟩ := gO.push (n >>> (8 * (k - 1 - i))) (by rw [hl i hi]; unfold zU; omega) (fun A hA => by show h.next ≤ A; omega)
    (repeat (first | refine zS ?_ | refine zL ?_ | refine zR ?_ | refine zE ?_ | refine zC ?_ | refine zJ ?_ | refine zK ?_ | refine zP ?_ | refine zF ?_ | refine zH ?_ | refine zG ?_ | refine zI (by decide) ?_ | refine zQ ?_ | ((first | refine zD ?_ | refine zN ?_ | refine zT rfl rfl ?_ | refine zO rfl ?_ | refine zM ?_); simp only [yq90.down, zA, lemS.down, lemC.down, Int.reduceBEq, Nat.reduceAdd, Nat.reduceLeDiff, reduceIte, Nat.reduceEqDiff, Int.reduceLT, Int.reduceLE, Int.reduceGT, Int.reduceGE, Int.reduceEq, Int.reduceAdd, Int.reduceSub, Int.reduceMul, reduceCtorEq, lemH.down, lemW.down, t0, t1, t5, t9, t10, zJw, m2, w1, w2, w3, sh, e2, ww])))
    refine hnext (k - (i + 1)) _ _ (by omega) ⟨i + 1, v', rfl, by omega, ?_, gg.then k2 (fun A hA => by show ¬ (h.next ≤ A); omega), by simp only [yq90.down, zA, lemS.down, lemC.down, Int.reduceBEq, Nat.reduceAdd, Nat.reduceLeDiff, reduceIte, Nat.reduceEqDiff, Int.reduceLT, Int.reduceLE, Int.reduceGT, Int.reduceGE, Int.reduceEq, Int.reduceAdd, Int.reduceSub, Int.reduceMul, reduceCtorEq, t0], by simp only [yq90.down, zA, lemS.down, lemC.down, Int.reduceBEq, Nat.reduceAdd, Nat.reduceLeDiff, reduceIte, Nat.reduceEqDiff, Int.reduceLT, Int.reduceLE, Int.reduceGT, Int.reduceGE, Int.reduceEq, Int.reduceAdd, Int.reduceSub, Int.reduceMul, reduceCtorEq, t1], by simp only [yq90.down, zA, lemS.down, lemC.down, Int.reduceBEq, Nat.reduceAdd, Nat.reduceLeDiff, reduceIte, Nat.reduceEqDiff, Int.reduceLT, Int.reduceLE, Int.reduceGT, Int.reduceGE, Int.reduceEq, Int.reduceAdd, Int.reduceSub, Int.reduceMul, reduceCtorEq], by simp only [yq90.down, zA, lemS.down, lemC.down, Int.reduceBEq, Nat.reduceAdd, Nat.reduceLeDiff, reduceIte, Nat.reduceEqDiff, Int.reduceLT, Int.reduceLE, Int.reduceGT, Int.reduceGE, Int.reduceEq, Int.reduceAdd, Int.reduceSub, Int.reduceMul, reduceCtorEq, t9], by simp only [yq90.down, zA, lemS.down, lemC.down, Int.reduceBEq, Nat.reduceAdd, Nat.reduceLeDiff, reduceIte, Nat.reduceEqDiff, Int.reduceLT, Int.reduceLE, Int.reduceGT, Int.reduceGE, Int.reduceEq, Int.reduceAdd, Int.reduceSub, Int.reduceMul, reduceCtorEq]⟩
    rw [List.take_succ_eq_append_getElem (by rw [zAQ]; exact hi')]
    have : (numB n k)[i]'(by rw [zAQ]; exact hi') = UInt8.ofNat (n >>> (8 * (k - 1 - i))) := by simp [numB]
    rw [this]
    exact hO2
  · obtain rfl : i = k := by omega
    rw [List.take_of_length_le (by rw [zAQ]; exact Nat.le_refl _)] at gO
    (repeat (first | refine zS ?_ | refine zL ?_ | refine zR ?_ | refine zE ?_ | refine zC ?_ | refine zJ ?_ | refine zK ?_ | refine zP ?_ | refine zF ?_ | refine zH ?_ | refine zG ?_ | refine zI (by decide) ?_ | refine zQ ?_ | ((first | refine zD ?_ | refine zN ?_ | refine zT rfl rfl ?_ | refine zO rfl ?_ | refine zM ?_); simp only [yq90.down, zA, lemS.down, lemC.down, Int.reduceBEq, Nat.reduceAdd, Nat.reduceLeDiff, reduceIte, Nat.reduceEqDiff, Int.reduceLT, Int.reduceLE, Int.reduceGT, Int.reduceGE, Int.reduceEq, Int.reduceAdd, Int.reduceSub, Int.reduceMul, reduceCtorEq, lemH.down, t0, t1, t5, t9, t10, gO.cb2s])))
    exact ⟨.inr rfl, by simp only [yq90.down, zA, lemS.down, lemC.down, Int.reduceBEq, Nat.reduceAdd, Nat.reduceLeDiff, reduceIte, Nat.reduceEqDiff, Int.reduceLT, Int.reduceLE, Int.reduceGT, Int.reduceGE, Int.reduceEq, Int.reduceAdd, Int.reduceSub, Int.reduceMul, reduceCtorEq], gg⟩
end Go.X
end
section
open Go Go.X
namespace Go.X
set_option linter.unusedVariables false
def WrS (h : Heap) (W : Nat) (S : Nat → Prop) (b : List UInt8) : Prop := S W ∧ ∃ v, Var h W [v] ∧ Own h (fun A => S A ∧ A ≠ W) 1 v b.length (zV b)
def Wr (h : Heap) (W N : Nat) (b : List UInt8) : Prop := WrS h W (fun A => N ≤ A) b
theorem WrS.keep {S K : Nat → Prop} {h h' : Heap} {W : Nat} {b : List UInt8} (hw : WrS h W S b) (hk : Keeps K h h') (hK : ∀ A, S A → ¬ K A) : WrS h' W S b := by
  obtain ⟨h1, v, h2, h3⟩ := hw
  exact ⟨h1, v, h2.keep hk (hK W h1), h3.keep hk fun A hA => hK A hA.1⟩
theorem WrS.grow {S : Nat → Prop} {h h' : Heap} {W : Nat} {b : List UInt8} (hw : WrS h W S b) (hg : Grows h h') : WrS h' W S b := hw.keep (K := zB5) hg.keeps (fun _ _ => id)
theorem WrS.mono {S S' : Nat → Prop} {h : Heap} {W : Nat} {b : List UInt8} (hw : WrS h W S b) (hS : ∀ A, A < h.next → S A → S' A) : WrS h W S' b := by
  obtain ⟨h1, v, h2, h3⟩ := hw
  exact ⟨hS W h2.1 h1, v, h2, h3.bound.mono fun A hA => ⟨hS A hA.2 hA.1.1, hA.1.2⟩⟩
theorem Wr.next {h : Heap} {W N : Nat} {b : List UInt8} (hw : Wr h W N b) : ∀ A, h.next ≤ A → N ≤ A := fun A hA => by
  obtain ⟨h1, v, h2, h3⟩ := hw
  have := h2.1
  show N ≤ A
  have : N ≤ W := h1
  omega
theorem Wr.keep {K : Nat → Prop} {h h' : Heap} {W N : Nat} {b : List UInt8} (hw : Wr h W N b) (hk : Keeps K h h') (hK : ∀ A, N ≤ A → ¬ K A) : Wr h' W N b := by
  obtain ⟨h1, v, h2, h3⟩ := hw
  exact ⟨h1, v, h2.keep hk (hK W h1), h3.keep hk fun A hA => hK A hA.1⟩
theorem Wr.grow {h h' : Heap} {W N : Nat} {b : List UInt8} (hw : Wr h W N b) (hg : Grows h h') : Wr h' W N b := hw.keep (K := zB5) hg.keeps (fun _ _ => id)
theorem zHR {args : List Value} {v : Value} (h : zBK args = some v) : args.length = 2 ∧ zr v = true ∧ ∀ pr h, Comes pr xq90 args h v := by
  unfold zBK at h
  split at h
  · rename_i n k
    split at h
    · rename_i hc
      cases h
      refine ⟨rfl, rfl, fun pr h => ?_⟩
      have := wnum_ok pr n.toNat k.toNat (by omega) (by omega) h
      rw [show (k.toNat : Int) = k by omega] at this
      have e : uw .u64 n.toNat = .int .u64 n := by unfold uw; rw [zDj, Nat.mod_eq_of_lt (by omega)]; congr 1; omega
      rw [e] at this
      exact this
    · cases h
  · cases h
theorem zEf {n k : Nat} (hn : n < 18446744073709551616) (hk : k ≤ 8) : zBK [uw .u64 n, .int .i64 (OfNat.ofNat k)] = some (.string (zB (numB n k))) := by
  have e : (OfNat.ofNat k : Int) = (k : Int) := rfl
  have e2 : uw .u64 n = .int .u64 (n : Int) := (zBP hn).symm
  rw [e2, e]
  simp only [zBK]
  rw [if_pos (by omega)]
  simp
structure zBi (pr : Prog) : Prop where
  num : pr.prim 90 = some (za zBK)
  newW : pr.prim 51 = none
  newWC : pr.code 51 = some xq51
  wb : pr.prim 91 = none
  wbC : pr.code 91 = some xq91
  wn : pr.prim 66 = none
  wnC : pr.code 66 = some xq66
  wc : pr.prim 92 = none
  wcC : pr.code 92 = some xq92
  wt : pr.prim 67 = none
  wtC : pr.code 67 = some xq67
  wh : pr.prim 68 = none
  whC : pr.code 68 = some xq68
  wa : pr.prim 53 = none
  waC : pr.code 53 = some xq53
  newR : pr.prim 54 = none
  newRC : pr.code 54 = some xq54
  rn : pr.prim 69 = none
  rnC : pr.code 69 = some xq69
  rb : pr.prim 93 = none
  rbC : pr.code 93 = some xq93
  rc : pr.prim 94 = none
  rcC : pr.code 94 = some xq94
  rt : pr.prim 70 = none
  rtC : pr.code 70 = some xq70
  rh : pr.prim 71 = none
  rhC : pr.code 71 = some xq71
  re : pr.prim 72 = none
  reC : pr.code 72 = some xq72
  rf : pr.prim 84 = none
  rfC : pr.code 84 = some xq84
  rl : pr.prim 56 = none
  rlC : pr.code 56 = some xq56
  rr : pr.prim 57 = none
  rrC : pr.code 57 = some xq57
  ra : pr.prim 58 = none
  raC : pr.code 58 = some xq58
theorem zFf {pr : Prog} (T : zBi pr) (h : Heap) : ∃ h', cfi pr 51 [] h = some (.pointer (some ⟨h.next, 0, none⟩), h') ∧ Wr h' h.next h.next [] ∧ Grows h h' := by
  have : ∃ v h', cfi pr 51 [] h = some (v, h') ∧ v = .pointer (some ⟨h.next, 0, none⟩) ∧ Wr h' h.next h.next [] ∧ Grows h h' := by
    refine zAg T.newW T.newWC rfl ?_
    unfold xq51
    dsimp only [zc]
    refine wpk.out (k := []) ?_
    have hz : aggV (zt [.slice none 0 0] []) = some (.agg [Value.slice none 0 0].toArray) := rfl
    (repeat (first | refine zS ?_ | refine zL ?_ | refine zR ?_ | refine zE ?_ | refine zC ?_ | refine zJ ?_ | refine zK ?_ | refine zP ?_ | refine zF ?_ | refine zH ?_ | refine zG ?_ | refine zI (by decide) ?_ | refine zQ ?_ | ((first | refine zD ?_ | refine zN ?_ | refine zT rfl rfl ?_ | refine zO rfl ?_ | refine zM ?_); simp only [yq51.down, zA, lemS.down, lemC.down, Int.reduceBEq, Nat.reduceAdd, Nat.reduceLeDiff, reduceIte, Nat.reduceEqDiff, Int.reduceLT, Int.reduceLE, Int.reduceGT, Int.reduceGE, Int.reduceEq, Int.reduceAdd, Int.reduceSub, Int.reduceMul, reduceCtorEq, lemH.down, hz])))
    exact ⟨.inr rfl, _, rfl, by simp only [yq51.down, zA, lemS.down, lemC.down, Int.reduceBEq, Nat.reduceAdd, Nat.reduceLeDiff, reduceIte, Nat.reduceEqDiff, Int.reduceLT, Int.reduceLE, Int.reduceGT, Int.reduceGE, Int.reduceEq, Int.reduceAdd, Int.reduceSub, Int.reduceMul, reduceCtorEq], ⟨Nat.le_refl _, _, Var.new_self, Own.nil⟩, Grows.new⟩
  obtain ⟨v, h', e, rfl, r⟩ := this
  exact ⟨h', e, r⟩
theorem zIV {pr : Prog} (T : zBi pr) {h : Heap} {W : Nat} {S : Nat → Prop} {b : List UInt8} (hw : WrS h W S b) (hS : ∀ A, h.next ≤ A → S A) (s : List UInt8) (hroom : b.length + s.length ≤ zU) :
    ∃ h', cfi pr 91 [.pointer (some ⟨W, 0, none⟩), .string (zB s)] h = some (.tuple #[], h') ∧ WrS h' W S (b ++ s) ∧ Keeps S h h' := by
  have : ∃ v h', cfi pr 91 [.pointer (some ⟨W, 0, none⟩), .string (zB s)] h = some (v, h') ∧ v = .tuple #[] ∧ WrS h' W S (b ++ s) ∧ Keeps S h h' := by
    refine zAg T.wb T.wbC rfl ?_
    unfold xq91
    dsimp only [zc]
    refine wpk.out (k := []) ?_
    obtain ⟨hN, v, hV, hO⟩ := hw
    have hlt := hV.1
    obtain ⟨v2, h2, e2, hO2, k2⟩ := hO.append (bytes := 1) (m := s.length) (new := zV s) (by simp [zBz]) zDx (by decide) (by decide) (by omega)
    have hV2 := hV.keep k2 (fun e => e.2 rfl)
    have st := hO2.store (i := 0) hV2 (by simp)
    simp only [List.set_cons_zero] at st
    (repeat (first | refine zS ?_ | refine zL ?_ | refine zR ?_ | refine zE ?_ | refine zC ?_ | refine zJ ?_ | refine zK ?_ | refine zP ?_ | refine zF ?_ | refine zH ?_ | refine zG ?_ | refine zI (by decide) ?_ | refine zQ ?_ | ((first | refine zD ?_ | refine zN ?_ | refine zT rfl rfl ?_ | refine zO rfl ?_ | refine zM ?_); simp only [yq91.down, zA, lemS.down, lemC.down, Int.reduceBEq, Nat.reduceAdd, Nat.reduceLeDiff, reduceIte, Nat.reduceEqDiff, Int.reduceLT, Int.reduceLE, Int.reduceGT, Int.reduceGE, Int.reduceEq, Int.reduceAdd, Int.reduceSub, Int.reduceMul, reduceCtorEq, lemH.down, zB1, hV.load, List.getElem?_cons_zero, e2, st])))
    refine ⟨.inl rfl, _, rfl, rfl, ⟨hN, v2, hV2.wr, ?_⟩, (k2.mono fun A _ e => e.1).trans Keeps.wr (fun A _ e => e ▸ hN)⟩
    rw [List.length_append, zBy]
    refine (hO2.mono fun A hA => ?_).keep Keeps.wr (fun A hA => hA.2)
    rcases hA with hA | hA
    · exact hA
    · exact ⟨hS A (by omega), by omega⟩
  obtain ⟨v, h', e, rfl, r⟩ := this
  exact ⟨h', e, r⟩
theorem zDq {pr : Prog} (T : zBi pr) {h : Heap} {W : Nat} {S : Nat → Prop} {b : List UInt8} (hw : WrS h W S b) (hS : ∀ A, h.next ≤ A → S A) (n k : Nat) (hn : n < 18446744073709551616) (hk : k ≤ 8) (hroom : b.length + 8 ≤ zU) :
    ∃ h', cfi pr 66 [.pointer (some ⟨W, 0, none⟩), uw .u64 n, .int .i64 (OfNat.ofNat k)] h = some (.tuple #[], h') ∧ WrS h' W S (b ++ numB n k) ∧ Keeps S h h' := by
  have : ∃ v h', cfi pr 66 [.pointer (some ⟨W, 0, none⟩), uw .u64 n, .int .i64 (OfNat.ofNat k)] h = some (v, h') ∧ v = .tuple #[] ∧ WrS h' W S (b ++ numB n k) ∧ Keeps S h h' := by
    refine zAg T.wn T.wnC rfl ?_
    unfold xq66
    dsimp only [zc]
    refine wpk.out (k := []) ?_
    have c1 := zf (h := h) T.num (zEf hn hk)
    obtain ⟨h2, e2, w2, k2⟩ := zIV T hw hS (numB n k) (by rw [zAQ]; omega)
    (repeat (first | refine zS ?_ | refine zL ?_ | refine zR ?_ | refine zE ?_ | refine zC ?_ | refine zJ ?_ | refine zK ?_ | refine zP ?_ | refine zF ?_ | refine zH ?_ | refine zG ?_ | refine zI (by decide) ?_ | refine zQ ?_ | ((first | refine zD ?_ | refine zN ?_ | refine zT rfl rfl ?_ | refine zO rfl ?_ | refine zM ?_); simp only [yq66.down, zA, lemS.down, lemC.down, Int.reduceBEq, Nat.reduceAdd, Nat.reduceLeDiff, reduceIte, Nat.reduceEqDiff, Int.reduceLT, Int.reduceLE, Int.reduceGT, Int.reduceGE, Int.reduceEq, Int.reduceAdd, Int.reduceSub, Int.reduceMul, reduceCtorEq, lemH.down, c1, e2])))
    exact ⟨.inl rfl, _, rfl, rfl, w2, k2⟩
  obtain ⟨v, h', e, rfl, r⟩ := this
  exact ⟨h', e, r⟩
theorem zFg {pr : Prog} (T : zBi pr) {h : Heap} {W N : Nat} {b : List UInt8} (hw : Wr h W N b) : cfi pr 53 [.pointer (some ⟨W, 0, none⟩)] h = some (.string (zB b), h) := by
  refine zD3 T.wa T.waC rfl ?_
  unfold xq53
  dsimp only [zc]
  refine wpk.out (k := []) ?_
  obtain ⟨hN, v, hV, hO⟩ := hw
  (repeat (first | refine zS ?_ | refine zL ?_ | refine zR ?_ | refine zE ?_ | refine zC ?_ | refine zJ ?_ | refine zK ?_ | refine zP ?_ | refine zF ?_ | refine zH ?_ | refine zG ?_ | refine zI (by decide) ?_ | refine zQ ?_ | ((first | refine zD ?_ | refine zN ?_ | refine zT rfl rfl ?_ | refine zO rfl ?_ | refine zM ?_); simp only [yq53.down, zA, lemS.down, lemC.down, Int.reduceBEq, Nat.reduceAdd, Nat.reduceLeDiff, reduceIte, Nat.reduceEqDiff, Int.reduceLT, Int.reduceLE, Int.reduceGT, Int.reduceGE, Int.reduceEq, Int.reduceAdd, Int.reduceSub, Int.reduceMul, reduceCtorEq, lemH.down, zB1, hV.load, List.getElem?_cons_zero, hO.cb2s])))
  exact ⟨.inr rfl, by simp only [yq53.down, zA, lemS.down, lemC.down, Int.reduceBEq, Nat.reduceAdd, Nat.reduceLeDiff, reduceIte, Nat.reduceEqDiff, Int.reduceLT, Int.reduceLE, Int.reduceGT, Int.reduceGE, Int.reduceEq, Int.reduceAdd, Int.reduceSub, Int.reduceMul, reduceCtorEq], rfl⟩
end Go.X
end
section
open Go Go.X
namespace Go.X
set_option linter.unusedVariables false
def zE4 (zero : List Value) (bytes : Nat) (l c : Value) : Option (NBlk × Mk) := match l, c with
  | .int _ l, .int _ c => if 0 ≤ l ∧ l ≤ c ∧ c.toNat * bytes ≤ zU ∧ c < 140737488355328 then some (.cells (List.replicate c.toNat zero).flatten, .slice l.toNat c.toNat none) else none
  | _, _ => none
theorem zUY {t : Fr} {z : List Value} {b : Nat} {l c : Operand} : zAf t (.mkslice z b l c) = zE4 z b (t.eval l) (t.eval c) := by
  simp only [zAf, zE4]
  cases t.eval l <;> try rfl
def srcV (h : Heap) (esz : Nat) : Value → Option (Nat × List Value)
  | .string str => if esz = 1 then some (str.data.toList.length, zV str.data.toList) else none
  | .slice none n _ => if n = 0 then some (0, []) else none
  | .slice (some a) n _ => if n = 0 then some (0, []) else match h.loadN a (n * esz) with | some l => some (n, l) | none => none
  | _ => none
def copyV (h : Heap) (esz : Nat) (d : Value) (s : Option (Nat × List Value)) : Option (Value × Heap) := match d, s with
  | .slice base dl _, some (n, l) =>
      if min n dl = 0 then some (.int .i64 0, h) else
      (match base with
      | some a => (match h.store ⟨a.block, a.off, none⟩ (l.take (min n dl * esz)) with | some h => some (.int .i64 ((min n dl : Nat) : Int), h) | none => none)
      | none => none)
  | _, _ => none
theorem e_copyV {t : Fr} {h : Heap} {esz : Nat} {d s : Operand} : effX t h (.copy esz d s) = copyV h esz (t.eval d) (srcV h esz (t.eval s)) := by
  have e : srcX t h esz s = srcV h esz (t.eval s) := by
    simp only [srcX, srcV]
    cases t.eval s with
    | slice a n c =>
      cases a with
      | none => rfl
      | some a =>
        dsimp only
        cases h.loadN a (n * esz) <;> rfl
    | _ => rfl
  simp only [effX, copyV, e]
  cases t.eval d with
  | slice a n c =>
    cases srcV h esz (t.eval s) with
    | none => rfl
    | some q =>
      obtain ⟨m, l⟩ := q
      dsimp only
      split
      · rfl
      · cases a with
        | none => rfl
        | some a => dsimp only; cases h.store ⟨a.block, a.off, none⟩ (l.take (min m n * esz)) <;> rfl
  | _ => rfl
theorem Var.cb2s {h : Heap} {A n c : Nat} {sp : Option Nat} {b : List UInt8} (hv : Var h A (zV b)) (hn : b.length = n) : zBE h (.slice (some ⟨A, 0, sp⟩) n c) = some (.string (zB b)) := by
  simp only [zBE]
  by_cases h0 : n = 0
  · rw [if_pos h0]
    obtain rfl : b = [] := List.eq_nil_of_length_eq_zero (by omega)
    rfl
  · rw [if_neg h0, hv.loadAll (by rw [zBz]; exact hn)]
    simp only [zFs]
def zAJ (s : List UInt8) : List UInt8 := (s ++ List.replicate 32 0).take 32
theorem zBa (s : List UInt8) : (zAJ s).length = 32 := by simp [zAJ]
theorem zEi {pr : Prog} (T : zBi pr) {h : Heap} {W : Nat} {S : Nat → Prop} {b : List UInt8} (hw : WrS h W S b) (hS : ∀ A, h.next ≤ A → S A) (s : List UInt8) (hroom : b.length + 40 ≤ zU) :
    ∃ h', cfi pr 68 [.pointer (some ⟨W, 0, none⟩), .string (zB s)] h = some (.tuple #[], h') ∧ WrS h' W S (b ++ zAJ s) ∧ Keeps S h h' := by
  have : ∃ v h', cfi pr 68 [.pointer (some ⟨W, 0, none⟩), .string (zB s)] h = some (v, h') ∧ v = .tuple #[] ∧ WrS h' W S (b ++ zAJ s) ∧ Keeps S h h' := by
    refine zAg T.wh T.whC rfl ?_
    unfold xq68
    dsimp only [zc]
    refine wpk.out (k := []) ?_
    have hWlt : W < h.next := by obtain ⟨_, v, h2, _⟩ := hw; exact h2.1
    have mk : zE4 [.int .u8 0] 1 (.int .i64 32) (.int .i64 32) = some (.cells (zV (List.replicate 32 0)), .slice 32 32 none) := by
      simp only [zE4]
      rw [if_pos (by decide)]
      rfl
    have hV : Var (h.new (zV (List.replicate 32 0))) h.next (zV (List.replicate 32 0)) := Var.new_self
    have cp : ∃ h2 r, copyV (h.new (zV (List.replicate 32 0))) 1 (.slice (some ⟨h.next, 0, none⟩) 32 32) (srcV (h.new (zV (List.replicate 32 0))) 1 (.string (zB s))) = some (r, h2) ∧ Var h2 h.next (zV (zAJ s)) ∧ Grows h h2 := by
      simp only [srcV, zAh, if_true, copyV]
      by_cases h0 : min s.length 32 = 0
      · rw [if_pos h0]
        obtain rfl : s = [] := List.eq_nil_of_length_eq_zero (by omega)
        exact ⟨_, _, rfl, hV, Grows.new⟩
      · rw [if_neg h0, hV.store (by simp [zBz]; omega) (by rw [zDy]; exact zDx)]
        refine ⟨_, _, rfl, ?_, Grows.new.wr (Nat.le_refl _)⟩
        have e : putN (zV (List.replicate 32 0)) 0 (List.take (min s.length 32 * 1) (zV s)) = zV (zAJ s) := by
          simp only [putN, zDy, List.take_zero, List.nil_append, Nat.mul_one, Nat.zero_add, zBz, zEp, ← zBy]
          congr 1
          unfold zAJ
          rw [List.take_append, List.length_take, List.drop_replicate]
          by_cases hs : s.length ≤ 32
          · rw [List.take_of_length_le (l := s) (by omega), List.take_of_length_le (l := s) (by omega), List.take_replicate]
            congr 2; omega
          · have e1 : min s.length 32 = 32 := by omega
            rw [e1, show (32 : Nat) - s.length = 0 by omega, show min 32 s.length = 32 by omega]
            simp
        rw [e]
        exact hV.wr
    obtain ⟨h2, r, e2, hV2, g2⟩ := cp
    obtain ⟨h3, e3, w3, k3⟩ := zIV T (hw.grow g2) (fun A hA => hS A (Nat.le_trans g2.next hA)) (zAJ s) (by rw [zBa]; omega)
    (repeat (first | refine zS ?_ | refine zL ?_ | refine zR ?_ | refine zE ?_ | refine zC ?_ | refine zJ ?_ | refine zK ?_ | refine zP ?_ | refine zF ?_ | refine zH ?_ | refine zG ?_ | refine zI (by decide) ?_ | refine zQ ?_ | ((first | refine zD ?_ | refine zN ?_ | refine zT rfl rfl ?_ | refine zO rfl ?_ | refine zM ?_); simp only [yq68.down, zA, lemS.down, lemC.down, Int.reduceBEq, Nat.reduceAdd, Nat.reduceLeDiff, reduceIte, Nat.reduceEqDiff, Int.reduceLT, Int.reduceLE, Int.reduceGT, Int.reduceGE, Int.reduceEq, Int.reduceAdd, Int.reduceSub, Int.reduceMul, reduceCtorEq, lemH.down, zUY, mk, e_copyV, e2, hV2.cb2s (zBa s), e3])))
    exact ⟨.inl rfl, _, rfl, rfl, w3, Keeps.trans g2.keeps k3 (fun _ _ e => e)⟩
  obtain ⟨v, h', e, rfl, r⟩ := this
  exact ⟨h', e, r⟩
end Go.X
end
section
open Go Go.X
namespace Go.X
set_option linter.unusedVariables false
structure RS where
  s : List UInt8
  pos : Nat
  err : Nat
def RS.ok (r : RS) : Prop := r.pos ≤ r.s.length ∧ r.s.length ≤ 9223372036854775807
def zEo (r : RS) (n : Int) : RS × List UInt8 :=
  if r.err ≠ 0 then (r, []) else if n < 0 then (⟨r.s, r.pos, 1⟩, []) else if (r.s.length : Int) - r.pos < n then (⟨r.s, r.pos, 4⟩, []) else (⟨r.s, r.pos + n.toNat, r.err⟩, (r.s.drop r.pos).take n.toNat)
def zBG (r : RS) : List Value := [.string (zB r.s), .int .i64 (r.pos : Int), .int .i64 (r.err : Int)]
def Rd (h : Heap) (R : Nat) (r : RS) : Prop := r.ok ∧ Var h R (zBG r)
theorem Rd.keep {K : Nat → Prop} {h h' : Heap} {R : Nat} {r : RS} (hw : Rd h R r) (hk : Keeps K h h') (hK : ¬ K R) : Rd h' R r := ⟨hw.1, hw.2.keep hk hK⟩
theorem Rd.grow {h h' : Heap} {R : Nat} {r : RS} (hw : Rd h R r) (hg : Grows h h') : Rd h' R r := ⟨hw.1, hw.2.grow hg⟩
section
variable {h : Heap} {R : Nat} {r : RS}
theorem Rd.l0 (hr : Rd h R r) : ∀ sp, h.load ⟨R, 0, sp⟩ = some (.string (zB r.s)) := fun sp => hr.2.load
theorem Rd.l1 (hr : Rd h R r) : ∀ sp, h.load ⟨R, 1, sp⟩ = some (.int .i64 (r.pos : Int)) := fun sp => hr.2.load
theorem Rd.l2 (hr : Rd h R r) : ∀ sp, h.load ⟨R, 2, sp⟩ = some (.int .i64 (r.err : Int)) := fun sp => hr.2.load
theorem Rd.s1 (hr : Rd h R r) (n : Nat) : zu h 1 (.pointer (some ⟨R, 1, none⟩)) (.int .i64 (n : Int)) = some (.tuple #[], h.wr R (zBG ⟨r.s, n, r.err⟩)) := by
  rw [zX rfl, hr.2.store1 (by simp [zBG]) rfl]; rfl
theorem Rd.s2 (hr : Rd h R r) (n : Nat) : zu h 1 (.pointer (some ⟨R, 2, none⟩)) (.int .i64 (n : Int)) = some (.tuple #[], h.wr R (zBG ⟨r.s, r.pos, n⟩)) := by
  rw [zX rfl, hr.2.store1 (by simp [zBG]) rfl]; rfl
theorem Rd.wr (hr : Rd h R r) {q : RS} (hq : q.ok) : Rd (h.wr R (zBG q)) R q := ⟨hq, hr.2.wr⟩
end
end Go.X
end
section
open Go Go.X
namespace Go.X
set_option linter.unusedVariables false
def numV (b : List UInt8) : Nat := b.foldl (fun n b => n * 256 + b.toNat) 0
def zDS (r : RS) (k : Nat) : RS × Nat := ((zEo r k).1, numV (zEo r k).2)
section
variable {h : Heap} {R : Nat} {r : RS}
end
end Go.X
end
section
open Go Go.X
namespace Go.X
set_option linter.unusedVariables false
def countR (r : RS) (most : Nat) : RS × Nat :=
  if (zDS r 4).1.err ≠ 0 then ((zDS r 4).1, 0) else if most < (zDS r 4).2 then (⟨r.s, r.pos, 3⟩, 0) else zDS r 4
def textR (r : RS) (most : Nat) : RS × List UInt8 :=
  let q := zEo (countR r most).1 (countR r most).2
  (if q.1.err ≠ 0 then ⟨q.1.s, r.pos, q.1.err⟩ else q.1, q.2)
def endR (r : RS) : RS := if 0 < r.s.length - r.pos ∧ r.err = 0 then ⟨r.s, r.pos, 5⟩ else r
section
variable {h : Heap} {R : Nat} {r : RS}
end
end Go.X
end
