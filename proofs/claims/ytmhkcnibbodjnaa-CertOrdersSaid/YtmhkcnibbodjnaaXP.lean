/- Headers, of the program and of the document. -/
import Derived.Test.YtmhkcnibbodjnaaProg
import Derived.KernelRfl
import Derived.Test.YtmhkcnibbodjnaaXC
import Derived.Test.YtmhkcnibbodjnaaXN
set_option linter.unusedSimpArgs false
set_option linter.unusedVariables false
set_option maxHeartbeats 2000000
section
namespace Go.X
open Go.Proofs
abbrev zSZ : List XO := [
  ⟨some 2, .p (.mov (C (.bool false))), none⟩]
def xq82_0 : List XO := zSZ
theorem xq82_0e : E3 xq82_0 zSZ := E3.rfl
abbrev zSa : List XO := [
  ⟨some 5, .p (.mov (T 0)), none⟩,
  ⟨some 6, .p (.lenV (T 5)), none⟩,
  ⟨some 7, .p (.mov (C (.int .i64 0))), none⟩]
def xq82_1 : List XO := zSa
theorem xq82_1e : E3 xq82_1 zSa := E3.rfl
abbrev zSb : List XO := [
  ⟨some 8, .p (.bin .lss (T 7) (T 6)), none⟩]
def xq82_2 : List XO := zSb
theorem xq82_2e : E3 xq82_2 zSb := E3.rfl
abbrev zSc : List XO := [
  ⟨some 9, .p (.mov (T 7)), none⟩,
  ⟨some 10, .p (.iaddrS 1 (T 5) (T 7)), none⟩,
  ⟨some 11, .r (.load1 (T 10)), none⟩,
  ⟨some 3, .p (.mov (T 9)), none⟩,
  ⟨some 4, .p (.mov (T 11)), none⟩]
def xq82_3 : List XO := zSc
theorem xq82_3e : E3 xq82_3 zSc := E3.rfl
abbrev zSd : List XO := [
  ⟨some 12, .p (.mov (T 4)), none⟩,
  ⟨some 13, .p (.bin .lss (T 12) (C (.int .i64 0))), none⟩,
  ⟨some 14, .p (.mov (T 13)), none⟩,
  ⟨some 15, .p (.mov (T 4)), some (14, false)⟩,
  ⟨some 16, .p (.bin .geq (T 15) (C (.int .i64 16))), some (14, false)⟩,
  ⟨some 17, .p (.pick (T 14) (C (.bool true)) (T 16)), none⟩,
  ⟨some 18, .p (.mov (T 17)), none⟩,
  ⟨some 19, .p (.mov (T 3)), some (18, false)⟩,
  ⟨some 20, .p (.bin .gtr (T 19) (C (.int .i64 0))), some (18, false)⟩,
  ⟨some 21, .p (.mov (T 20)), some (18, false)⟩,
  ⟨some 22, .p (.mov (T 0)), some (21, true)⟩,
  ⟨some 23, .p (.mov (T 3)), some (21, true)⟩,
  ⟨some 24, .p (.bin .sub (T 23) (C (.int .i64 1))), some (21, true)⟩,
  ⟨some 25, .p (.iaddrS 1 (T 22) (T 24)), some (21, true)⟩,
  ⟨some 26, .r (.load1 (T 25)), some (21, true)⟩,
  ⟨some 27, .p (.mov (T 4)), some (21, true)⟩,
  ⟨some 28, .p (.bin .geq (T 26) (T 27)), some (21, true)⟩,
  ⟨some 29, .p (.pick (T 21) (T 28) (C (.bool false))), some (18, false)⟩,
  ⟨some 30, .p (.pick (T 18) (C (.bool true)) (T 29)), none⟩]
def xq82_4 : List XO := zSd
theorem xq82_4e : E3 xq82_4 zSd := E3.rfl
abbrev zSe : List XO := [
  ⟨some 2, .p (.mov (C (.bool false))), none⟩]
def xq82_5 : List XO := zSe
theorem xq82_5e : E3 xq82_5 zSe := E3.rfl
abbrev zSf : List XO := [
  ⟨some 31, .p (.bin .add (T 7) (C (.int .i64 1))), none⟩,
  ⟨some 7, .p (.mov (T 31)), none⟩]
def xq82_6 : List XO := zSf
theorem xq82_6e : E3 xq82_6 zSf := E3.rfl
def zIC : XC :=
  .seq (.ops xq82_2) (.seq (.cond (T 8) (.skip) (.exit 0)) (.seq (.block 1 (.seq (.ops xq82_3) (.seq (.ops xq82_4) (.cond (T 30) (.seq (.ops xq82_5) (.ret)) (.skip))))) (.ops xq82_6)))
def xq82_7 : XC := zIC
theorem xq82_7k {pr : Prog} {k : List KI} {Q : XE → Fr → Heap → Prop} {t : Fr} {h : Heap} (hw : wpk pr zIC k Q t h) : wpk pr xq82_7 k Q t h := hw
abbrev zSg : List XO := [
  ⟨some 32, .p (.mov (T 0)), none⟩,
  ⟨some 33, .p (.lenV (T 32)), none⟩,
  ⟨some 34, .p (.bin .geq (T 33) (C (.int .i64 1))), none⟩,
  ⟨some 2, .p (.mov (T 34)), none⟩]
def xq82_8 : List XO := zSg
theorem xq82_8e : E3 xq82_8 zSg := E3.rfl
def xq82 : XF := ⟨1, [.tmp 2],
  .seq (.ops xq82_0) (.seq (.seq (.ops xq82_1) (.block 0 (.loop xq82_7))) (.seq (.ops xq82_8) (.ret)))⟩
def yq82 := PLift.up (And.intro (And.intro (And.intro (@xq82_0e) (@xq82_1e)) (And.intro (@xq82_2e) (@xq82_3e))) (And.intro (And.intro (@xq82_4e) (@xq82_5e)) (And.intro (@xq82_6e) (@xq82_8e))))
theorem cq82 : zb Try.prog Try.f82 = some xq82 := by kernel_rfl
abbrev zSJ : List XO := [
  ⟨some 1, .a (.box (T 0)), none⟩,
  ⟨some 2, .p (.mov (C (.int .i64 0))), none⟩]
def xq75_0 : List XO := zSJ
theorem xq75_0e : E3 xq75_0 zSJ := E3.rfl
abbrev zSK : List XO := [
  ⟨some 3, .p (.faddr 0 (T 1)), none⟩,
  ⟨some 4, .r (.load1 (T 3)), none⟩,
  ⟨some 5, .p (.bin .lss (T 4) (C (.int .u64 1))), none⟩,
  ⟨some 6, .p (.mov (T 5)), none⟩,
  ⟨some 7, .p (.faddr 1 (T 1)), some (6, false)⟩,
  ⟨some 8, .r (.load1 (T 7)), some (6, false)⟩,
  ⟨some 9, .p (.lenS (T 8)), some (6, false)⟩,
  ⟨some 10, .p (.eql true .int (T 9) (C (.int .i64 32))), some (6, false)⟩,
  ⟨some 11, .p (.pick (T 6) (C (.bool true)) (T 10)), none⟩,
  ⟨some 12, .p (.mov (T 11)), none⟩,
  ⟨some 13, .p (.faddr 2 (T 1)), some (12, false)⟩,
  ⟨some 14, .r (.load1 (T 13)), some (12, false)⟩,
  ⟨some 15, .p (.lenS (T 14)), some (12, false)⟩,
  ⟨some 16, .p (.eql true .int (T 15) (C (.int .i64 32))), some (12, false)⟩,
  ⟨some 17, .p (.pick (T 12) (C (.bool true)) (T 16)), none⟩,
  ⟨some 18, .p (.mov (T 17)), none⟩,
  ⟨some 19, .p (.faddr 3 (T 1)), some (18, false)⟩,
  ⟨some 20, .r (.load1 (T 19)), some (18, false)⟩,
  ⟨some 21, .p (.lenS (T 20)), some (18, false)⟩,
  ⟨some 22, .p (.eql true .int (T 21) (C (.int .i64 32))), some (18, false)⟩,
  ⟨some 23, .p (.pick (T 18) (C (.bool true)) (T 22)), none⟩,
  ⟨some 24, .p (.mov (T 23)), none⟩,
  ⟨some 25, .p (.faddr 4 (T 1)), some (24, false)⟩,
  ⟨some 26, .r (.load1 (T 25)), some (24, false)⟩,
  ⟨some 27, .call (.func 82) [(T 26)], some (24, false)⟩,
  ⟨some 28, .p (.un .not (T 27)), some (24, false)⟩,
  ⟨some 29, .p (.pick (T 24) (C (.bool true)) (T 28)), none⟩]
def xq75_1 : List XO := zSK
theorem xq75_1e : E3 xq75_1 zSK := E3.rfl
abbrev zSL : List XO := [
  ⟨some 2, .p (.mov (C (.int .i64 80))), none⟩]
def xq75_2 : List XO := zSL
theorem xq75_2e : E3 xq75_2 zSL := E3.rfl
abbrev zSM : List XO := [
  ⟨some 2, .p (.mov (C (.int .i64 0))), none⟩]
def xq75_3 : List XO := zSM
theorem xq75_3e : E3 xq75_3 zSM := E3.rfl
def xq75 : XF := ⟨1, [.tmp 2],
  .seq (.ops xq75_0) (.seq (.seq (.ops xq75_1) (.cond (T 29) (.seq (.ops xq75_2) (.ret)) (.skip))) (.seq (.ops xq75_3) (.ret)))⟩
def yq75 := PLift.up (And.intro (And.intro (@xq75_0e) (@xq75_1e)) (And.intro (@xq75_2e) (@xq75_3e)))
theorem cq75 : zb Try.prog Try.f75 = some xq75 := by kernel_rfl
abbrev zM5 : List XO := [
  ⟨some 6, .p (.mov (T 0)), none⟩,
  ⟨some 7, .p (.mov (T 1)), none⟩,
  ⟨some 8, .p (.lenV (T 7)), none⟩,
  ⟨some 9, .p (.cint .u64 (T 8)), none⟩,
  ⟨some 10, .call (.func 66) [(T 6), (T 9), (C (.int .i64 1))], none⟩]
def zM4 : List XO := zM5
theorem xq124_0e : E3 zM4 zM5 := E3.rfl
abbrev zM7 : List XO := [
  ⟨some 11, .p (.mov (T 1)), none⟩,
  ⟨some 12, .p (.lenV (T 11)), none⟩,
  ⟨some 13, .p (.mov (C (.int .i64 0))), none⟩]
def zM6 : List XO := zM7
theorem xq124_1e : E3 zM6 zM7 := E3.rfl
abbrev zM9 : List XO := [
  ⟨some 14, .p (.bin .lss (T 13) (T 12)), none⟩]
def zM8 : List XO := zM9
theorem xq124_2e : E3 zM8 zM9 := E3.rfl
abbrev zNB : List XO := [
  ⟨some 15, .p (.iaddrS 1 (T 11) (T 13)), none⟩,
  ⟨some 16, .r (.load1 (T 15)), none⟩,
  ⟨some 5, .p (.mov (T 16)), none⟩]
def zNA : List XO := zNB
theorem xq124_3e : E3 zNA zNB := E3.rfl
abbrev zND : List XO := [
  ⟨some 17, .p (.mov (T 0)), none⟩,
  ⟨some 18, .p (.mov (T 5)), none⟩,
  ⟨some 19, .p (.cint .u64 (T 18)), none⟩,
  ⟨some 20, .call (.func 66) [(T 17), (T 19), (C (.int .i64 1))], none⟩]
def zNC : List XO := zND
theorem xq124_4e : E3 zNC zND := E3.rfl
abbrev zNF : List XO := [
  ⟨some 21, .p (.bin .add (T 13) (C (.int .i64 1))), none⟩,
  ⟨some 13, .p (.mov (T 21)), none⟩]
def zNE : List XO := zNF
theorem xq124_5e : E3 zNE zNF := E3.rfl
def zHc : XC :=
  .seq (.ops zM8) (.seq (.cond (T 14) (.skip) (.exit 0)) (.seq (.block 1 (.seq (.ops zNA) (.ops zNC))) (.ops zNE)))
def zNG : XC := zHc
theorem xq124_6k {pr : Prog} {k : List KI} {Q : XE → Fr → Heap → Prop} {t : Fr} {h : Heap} (hw : wpk pr zHc k Q t h) : wpk pr zNG k Q t h := hw
def xq124 : XF := ⟨2, [],
  .seq (.ops zM4) (.seq (.ops zM6) (.block 0 (.loop zNG)))⟩
def yq124 := PLift.up (And.intro (And.intro (@xq124_0e) (And.intro (@xq124_1e) (@xq124_2e))) (And.intro (@xq124_3e) (And.intro (@xq124_4e) (@xq124_5e))))
theorem cq124 : zb Try.prog Try.f124 = some xq124 := by kernel_rfl
abbrev zLf : List XO := [
  ⟨some 3, .a (.box (T 1)), none⟩]
def zLe : List XO := zLf
theorem xq111_0e : E3 zLe zLf := E3.rfl
abbrev zLh : List XO := [
  ⟨some 4, .p (.mov (T 0)), none⟩,
  ⟨some 5, .p (.faddr 0 (T 3)), none⟩,
  ⟨some 6, .r (.load1 (T 5)), none⟩,
  ⟨some 7, .call (.func 66) [(T 4), (T 6), (C (.int .i64 8))], none⟩]
def zLg : List XO := zLh
theorem xq111_1e : E3 zLg zLh := E3.rfl
abbrev zLj : List XO := [
  ⟨some 8, .p (.mov (T 0)), none⟩,
  ⟨some 9, .p (.faddr 1 (T 3)), none⟩,
  ⟨some 10, .r (.load1 (T 9)), none⟩,
  ⟨some 11, .call (.func 68) [(T 8), (T 10)], none⟩]
def zLi : List XO := zLj
theorem xq111_2e : E3 zLi zLj := E3.rfl
abbrev zLl : List XO := [
  ⟨some 12, .p (.mov (T 0)), none⟩,
  ⟨some 13, .p (.faddr 2 (T 3)), none⟩,
  ⟨some 14, .r (.load1 (T 13)), none⟩,
  ⟨some 15, .call (.func 68) [(T 12), (T 14)], none⟩]
def zLk : List XO := zLl
theorem xq111_3e : E3 zLk zLl := E3.rfl
abbrev zLn : List XO := [
  ⟨some 16, .p (.mov (T 0)), none⟩,
  ⟨some 17, .p (.faddr 3 (T 3)), none⟩,
  ⟨some 18, .r (.load1 (T 17)), none⟩,
  ⟨some 19, .call (.func 68) [(T 16), (T 18)], none⟩]
def zLm : List XO := zLn
theorem xq111_4e : E3 zLm zLn := E3.rfl
abbrev zLp : List XO := [
  ⟨some 20, .p (.mov (T 0)), none⟩,
  ⟨some 21, .p (.faddr 4 (T 3)), none⟩,
  ⟨some 22, .r (.load1 (T 21)), none⟩,
  ⟨some 23, .call (.func 124) [(T 20), (T 22)], none⟩]
def zLo : List XO := zLp
theorem xq111_5e : E3 zLo zLp := E3.rfl
def xq111 : XF := ⟨2, [],
  .seq (.ops zLe) (.seq (.ops zLg) (.seq (.ops zLi) (.seq (.ops zLk) (.seq (.ops zLm) (.ops zLo)))))⟩
def yq111 := PLift.up (And.intro (And.intro (@xq111_0e) (And.intro (@xq111_1e) (@xq111_2e))) (And.intro (@xq111_3e) (And.intro (@xq111_4e) (@xq111_5e))))
theorem cq111 : zb Try.prog Try.f111 = some xq111 := by kernel_rfl
abbrev zTr : List XO := [
  ⟨some 1, .a (.box (T 0)), none⟩,
  ⟨some 2, .p (.mov (C (.string (zB [])))), none⟩]
def xq95_0 : List XO := zTr
theorem xq95_0e : E3 xq95_0 zTr := E3.rfl
abbrev zTs : List XO := [
  ⟨some 4, .call (.func 51) [], none⟩,
  ⟨some 3, .p (.mov (T 4)), none⟩]
def xq95_1 : List XO := zTs
theorem xq95_1e : E3 xq95_1 zTs := E3.rfl
abbrev zTt : List XO := [
  ⟨some 5, .p (.mov (T 3)), none⟩,
  ⟨some 6, .r (.loadN 5 (T 1)), none⟩,
  ⟨some 7, .call (.func 111) [(T 5), (T 6)], none⟩]
def xq95_2 : List XO := zTt
theorem xq95_2e : E3 xq95_2 zTt := E3.rfl
abbrev zTu : List XO := [
  ⟨some 8, .p (.mov (T 3)), none⟩,
  ⟨some 9, .call (.func 53) [(T 8)], none⟩,
  ⟨some 10, .a (.bslice [(.string (zB []))] 1 [(0, 1, (T 9))]), none⟩,
  ⟨some 11, .call (.func 64) [(C (.int .u8 72)), (T 10)], none⟩,
  ⟨some 2, .p (.mov (T 11)), none⟩]
def xq95_3 : List XO := zTu
theorem xq95_3e : E3 xq95_3 zTu := E3.rfl
def xq95 : XF := ⟨1, [.tmp 2],
  .seq (.ops xq95_0) (.seq (.ops xq95_1) (.seq (.ops xq95_2) (.seq (.ops xq95_3) (.ret))))⟩
def yq95 := PLift.up (And.intro (And.intro (@xq95_0e) (@xq95_1e)) (And.intro (@xq95_2e) (@xq95_3e)))
theorem cq95 : zb Try.prog Try.f95 = some xq95 := by kernel_rfl
abbrev zSN : List XO := [
  ⟨some 1, .a (.box (T 0)), none⟩,
  ⟨some 2, .p (.mov (C (.string (zB [])))), none⟩]
def xq76_0 : List XO := zSN
theorem xq76_0e : E3 xq76_0 zSN := E3.rfl
abbrev zSO : List XO := [
  ⟨some 3, .r (.loadN 5 (T 1)), none⟩,
  ⟨some 4, .call (.func 95) [(T 3)], none⟩,
  ⟨some 5, .a (.bslice [(.string (zB []))] 1 [(0, 1, (T 4))]), none⟩,
  ⟨some 6, .call (.func 64) [(C (.int .u8 67)), (T 5)], none⟩,
  ⟨some 2, .p (.mov (T 6)), none⟩]
def xq76_1 : List XO := zSO
theorem xq76_1e : E3 xq76_1 zSO := E3.rfl
def xq76 : XF := ⟨1, [.tmp 2],
  .seq (.ops xq76_0) (.seq (.ops xq76_1) (.ret))⟩
def yq76 := PLift.up (And.intro (@xq76_0e) (@xq76_1e))
theorem cq76 : zb Try.prog Try.f76 = some xq76 := by kernel_rfl
abbrev zQL : List XO := [
  ⟨some 5, .a (.box (T 2)), none⟩,
  ⟨some 6, .a (.alloc [(.int .i64 0), (.string (zB []))]), none⟩,
  ⟨some 7, .p (.mov (C (.int .i64 0))), none⟩]
def xq41_0 : List XO := zQL
theorem xq41_0e : E3 xq41_0 zQL := E3.rfl
abbrev zQM : List XO := [
  ⟨some 11, .r (.loadN 5 (T 5)), none⟩,
  ⟨some 12, .call (.func 75) [(T 11)], none⟩,
  ⟨some 8, .p (.mov (T 12)), none⟩]
def xq41_1 : List XO := zQM
theorem xq41_1e : E3 xq41_1 zQM := E3.rfl
abbrev zQN : List XO := [
  ⟨some 13, .p (.mov (T 8)), none⟩,
  ⟨some 14, .p (.eql true .int (T 13) (C (.int .i64 0))), none⟩]
def xq41_2 : List XO := zQN
theorem xq41_2e : E3 xq41_2 zQN := E3.rfl
abbrev zQO : List XO := [
  ⟨some 15, .p (.build [(.int .i64 0), (.string (zB []))] []), none⟩,
  ⟨some 16, .p (.mov (T 8)), none⟩,
  ⟨none, .e (.store 2 (T 6) (T 15)), none⟩,
  ⟨some 7, .p (.mov (T 16)), none⟩]
def xq41_3 : List XO := zQO
theorem xq41_3e : E3 xq41_3 zQO := E3.rfl
abbrev zQP : List XO := [
  ⟨some 18, .p (.mov (T 0)), none⟩,
  ⟨some 19, .p (.mov (T 1)), none⟩,
  ⟨some 20, .r (.loadN 5 (T 5)), none⟩,
  ⟨some 21, .call (.func 76) [(T 20)], none⟩,
  ⟨some 22, .call (.func 24) [(T 18), (T 19), (T 21)], none⟩,
  ⟨some 17, .p (.mov (T 22)), none⟩,
  ⟨some 23, .p (.ext (T 17) 0), none⟩,
  ⟨some 24, .p (.ext (T 17) 1), none⟩,
  ⟨some 9, .p (.mov (T 23)), none⟩,
  ⟨some 10, .p (.mov (T 24)), none⟩]
def xq41_4 : List XO := zQP
theorem xq41_4e : E3 xq41_4 zQP := E3.rfl
abbrev zQQ : List XO := [
  ⟨some 25, .p (.mov (T 10)), none⟩,
  ⟨some 26, .p (.eql true .int (T 25) (C (.int .i64 0))), none⟩]
def xq41_5 : List XO := zQQ
theorem xq41_5e : E3 xq41_5 zQQ := E3.rfl
abbrev zQR : List XO := [
  ⟨some 27, .p (.build [(.int .i64 0), (.string (zB []))] []), none⟩,
  ⟨some 28, .p (.mov (T 10)), none⟩,
  ⟨none, .e (.store 2 (T 6) (T 27)), none⟩,
  ⟨some 7, .p (.mov (T 28)), none⟩]
def xq41_6 : List XO := zQR
theorem xq41_6e : E3 xq41_6 zQR := E3.rfl
abbrev zQS : List XO := [
  ⟨some 29, .p (.mov (T 1)), none⟩,
  ⟨some 30, .p (.mov (T 9)), none⟩,
  ⟨some 31, .p (.build [(.int .i64 0), (.string (zB []))] [(0, 1, (T 29)), (1, 1, (T 30))]), none⟩,
  ⟨none, .e (.store 2 (T 6) (T 31)), none⟩,
  ⟨some 7, .p (.mov (C (.int .i64 0))), none⟩]
def xq41_7 : List XO := zQS
theorem xq41_7e : E3 xq41_7 zQS := E3.rfl
def xq41 : XF := ⟨3, [.cellN 6 2, .tmp 7],
  .seq (.ops xq41_0) (.seq (.seq (.ops xq41_1) (.seq (.ops xq41_2) (.cond (T 14) (.seq (.ops xq41_3) (.ret)) (.skip)))) (.seq (.ops xq41_4) (.seq (.seq (.ops xq41_5) (.cond (T 26) (.seq (.ops xq41_6) (.ret)) (.skip))) (.seq (.ops xq41_7) (.ret)))))⟩
def yq41 := PLift.up (And.intro (And.intro (And.intro (@xq41_0e) (@xq41_1e)) (And.intro (@xq41_2e) (@xq41_3e))) (And.intro (And.intro (@xq41_4e) (@xq41_5e)) (And.intro (@xq41_6e) (@xq41_7e))))
theorem cq41 : zb Try.prog Try.f41 = some xq41 := by kernel_rfl
abbrev zQh : List XO := [
  ⟨some 4, .a (.box (T 1)), none⟩,
  ⟨some 5, .a (.box (T 2)), none⟩,
  ⟨some 6, .p (.mov (C (.bool false))), none⟩]
def xq46_0 : List XO := zQh
theorem xq46_0e : E3 xq46_0 zQh := E3.rfl
abbrev zQi : List XO := [
  ⟨some 7, .r (.loadN 5 (T 4)), none⟩,
  ⟨some 8, .call (.func 75) [(T 7)], none⟩,
  ⟨some 9, .p (.eql false .int (T 8) (C (.int .i64 0))), none⟩,
  ⟨some 10, .p (.mov (T 9)), none⟩,
  ⟨some 11, .p (.mov (T 0)), some (10, true)⟩,
  ⟨some 12, .p (.faddr 0 (T 5)), some (10, true)⟩,
  ⟨some 13, .r (.load1 (T 12)), some (10, true)⟩,
  ⟨some 14, .r (.loadN 5 (T 4)), some (10, true)⟩,
  ⟨some 15, .call (.func 76) [(T 14)], some (10, true)⟩,
  ⟨some 16, .p (.faddr 1 (T 5)), some (10, true)⟩,
  ⟨some 17, .r (.load1 (T 16)), some (10, true)⟩,
  ⟨some 18, .call (.func 26) [(T 11), (T 13), (T 15), (T 17)], some (10, true)⟩,
  ⟨some 19, .p (.pick (T 10) (T 18) (C (.bool false))), none⟩,
  ⟨some 6, .p (.mov (T 19)), none⟩]
def xq46_1 : List XO := zQi
theorem xq46_1e : E3 xq46_1 zQi := E3.rfl
def xq46 : XF := ⟨3, [.tmp 6],
  .seq (.ops xq46_0) (.seq (.draw xq46_1 [(6, (11, [])), (10, (8, []))]) (.ret))⟩
def yq46 := PLift.up (And.intro (@xq46_0e) (@xq46_1e))
theorem cq46 : zb Try.prog Try.f46 = some xq46 := by kernel_rfl
abbrev zST : List XO := [
  ⟨some 2, .a (.box (T 0)), none⟩,
  ⟨some 4, .p (.mov (C (.int .i64 0))), none⟩,
  ⟨some 5, .p (.mov (C (.bool false))), none⟩]
def xq79_0 : List XO := zST
theorem xq79_0e : E3 xq79_0 zST := E3.rfl
abbrev zSU : List XO := [
  ⟨some 6, .p (.faddr 0 (T 2)), none⟩,
  ⟨some 7, .r (.load1 (T 6)), none⟩,
  ⟨some 8, .p (.mov (T 1)), none⟩,
  ⟨some 9, .call (.func 97) [(T 7), (T 8), (.func 98)], none⟩,
  ⟨some 10, .p (.ext (T 9) 0), none⟩,
  ⟨some 11, .p (.ext (T 9) 1), none⟩,
  ⟨some 4, .p (.mov (T 10)), none⟩,
  ⟨some 5, .p (.mov (T 11)), none⟩]
def xq79_1 : List XO := zSU
theorem xq79_1e : E3 xq79_1 zSU := E3.rfl
def xq79 : XF := ⟨2, [.tmp 4, .tmp 5],
  .seq (.ops xq79_0) (.seq (.ops xq79_1) (.ret))⟩
def yq79 := PLift.up (And.intro (@xq79_0e) (@xq79_1e))
theorem cq79 : zb Try.prog Try.f79 = some xq79 := by kernel_rfl
abbrev zT6 : List XO := [
  ⟨some 2, .a (.box (T 0)), none⟩,
  ⟨some 4, .p (.mov (C (.int .i64 0))), none⟩]
def xq98_0 : List XO := zT6
theorem xq98_0e : E3 xq98_0 zT6 := E3.rfl
abbrev zT7 : List XO := [
  ⟨some 5, .p (.faddr 0 (T 2)), none⟩,
  ⟨some 6, .r (.load1 (T 5)), none⟩,
  ⟨some 7, .p (.mov (T 1)), none⟩,
  ⟨some 8, .call (.func 99) [(T 6), (T 7)], none⟩,
  ⟨some 4, .p (.mov (T 8)), none⟩]
def xq98_1 : List XO := zT7
theorem xq98_1e : E3 xq98_1 zT7 := E3.rfl
def xq98 : XF := ⟨2, [.tmp 4],
  .seq (.ops xq98_0) (.seq (.ops xq98_1) (.ret))⟩
def yq98 := PLift.up (And.intro (@xq98_0e) (@xq98_1e))
theorem cq98 : zb Try.prog Try.f98 = some xq98 := by kernel_rfl
abbrev zT8 : List XO := [
  ⟨some 4, .p (.mov (C (.int .i64 0))), none⟩]
def xq99_0 : List XO := zT8
theorem xq99_0e : E3 xq99_0 zT8 := E3.rfl
abbrev zUH : List XO := [
  ⟨some 7, .p (.mov (T 0)), none⟩,
  ⟨some 8, .call (.func 114) [(T 7)], none⟩,
  ⟨some 5, .p (.mov (T 8)), none⟩]
def xq99_1 : List XO := zUH
theorem xq99_1e : E3 xq99_1 zUH := E3.rfl
abbrev zUI : List XO := [
  ⟨some 9, .p (.mov (T 1)), none⟩,
  ⟨some 10, .call (.func 114) [(T 9)], none⟩,
  ⟨some 6, .p (.mov (T 10)), none⟩]
def xq99_2 : List XO := zUI
theorem xq99_2e : E3 xq99_2 zUI := E3.rfl
abbrev zUJ : List XO := [
  ⟨some 11, .p (.mov (T 5)), none⟩]
def xq99_3 : List XO := zUJ
theorem xq99_3e : E3 xq99_3 zUJ := E3.rfl
abbrev zUK : List XO := [
  ⟨some 12, .p (.mov (T 6)), none⟩]
def xq99_4 : List XO := zUK
theorem xq99_4e : E3 xq99_4 zUK := E3.rfl
abbrev zUL : List XO := [
  ⟨some 4, .p (.mov (C (.int .i64 0))), none⟩]
def xq99_5 : List XO := zUL
theorem xq99_5e : E3 xq99_5 zUL := E3.rfl
abbrev zUM : List XO := [
  ⟨some 4, .p (.mov (C (.int .i64 (-1)))), none⟩]
def xq99_6 : List XO := zUM
theorem xq99_6e : E3 xq99_6 zUM := E3.rfl
abbrev zUN : List XO := [
  ⟨some 13, .p (.mov (T 6)), none⟩]
def xq99_7 : List XO := zUN
theorem xq99_7e : E3 xq99_7 zUN := E3.rfl
abbrev zUO : List XO := [
  ⟨some 4, .p (.mov (C (.int .i64 1))), none⟩]
def xq99_8 : List XO := zUO
theorem xq99_8e : E3 xq99_8 zUO := E3.rfl
abbrev zUP : List XO := [
  ⟨some 14, .p (.mov (T 0)), none⟩,
  ⟨some 15, .p (.mov (T 1)), none⟩,
  ⟨some 16, .p (.bin .lss (T 14) (T 15)), none⟩]
def xq99_9 : List XO := zUP
theorem xq99_9e : E3 xq99_9 zUP := E3.rfl
abbrev zUA : List XO := [
  ⟨some 4, .p (.mov (C (.int .i64 (-1)))), none⟩]
def zT9 : List XO := zUA
theorem xq99_10e : E3 zT9 zUA := E3.rfl
abbrev zUC : List XO := [
  ⟨some 17, .p (.mov (T 0)), none⟩,
  ⟨some 18, .p (.mov (T 1)), none⟩,
  ⟨some 19, .p (.bin .gtr (T 17) (T 18)), none⟩]
def zUB : List XO := zUC
theorem xq99_11e : E3 zUB zUC := E3.rfl
abbrev zUE : List XO := [
  ⟨some 4, .p (.mov (C (.int .i64 1))), none⟩]
def zUD : List XO := zUE
theorem xq99_12e : E3 zUD zUE := E3.rfl
abbrev zUG : List XO := [
  ⟨some 4, .p (.mov (C (.int .i64 0))), none⟩]
def zUF : List XO := zUG
theorem xq99_13e : E3 zUF zUG := E3.rfl
def xq99 : XF := ⟨2, [.tmp 4],
  .seq (.ops xq99_0) (.seq (.ops xq99_1) (.seq (.ops xq99_2) (.seq (.seq (.ops xq99_3) (.cond (T 11) (.seq (.seq (.ops xq99_4) (.cond (T 12) (.seq (.ops xq99_5) (.ret)) (.skip))) (.seq (.ops xq99_6) (.ret))) (.skip))) (.seq (.seq (.ops xq99_7) (.cond (T 13) (.seq (.ops xq99_8) (.ret)) (.skip))) (.seq (.seq (.ops xq99_9) (.cond (T 16) (.seq (.ops zT9) (.ret)) (.skip))) (.seq (.seq (.ops zUB) (.cond (T 19) (.seq (.ops zUD) (.ret)) (.skip))) (.seq (.ops zUF) (.ret))))))))⟩
def yq99 := PLift.up (And.intro (And.intro (And.intro (@xq99_0e) (And.intro (@xq99_1e) (@xq99_2e))) (And.intro (And.intro (@xq99_3e) (@xq99_4e)) (And.intro (@xq99_5e) (@xq99_6e)))) (And.intro (And.intro (@xq99_7e) (And.intro (@xq99_8e) (@xq99_9e))) (And.intro (And.intro (@xq99_10e) (@xq99_11e)) (And.intro (@xq99_12e) (@xq99_13e)))))
theorem cq99 : zb Try.prog Try.f99 = some xq99 := by kernel_rfl
abbrev zMF : List XO := [
  ⟨some 2, .p (.mov (C (.bool false))), none⟩]
def zME : List XO := zMF
theorem xq114_0e : E3 zME zMF := E3.rfl
abbrev zMH : List XO := [
  ⟨some 3, .p (.mov (T 0)), none⟩,
  ⟨some 4, .p (.mov (T 0)), none⟩,
  ⟨some 5, .p (.eql true .int (T 3) (T 4)), none⟩,
  ⟨some 2, .p (.mov (T 5)), none⟩]
def zMG : List XO := zMH
theorem xq114_1e : E3 zMG zMH := E3.rfl
def xq114 : XF := ⟨1, [.tmp 2],
  .seq (.ops zME) (.seq (.ops zMG) (.ret))⟩
def yq114 := PLift.up (And.intro (@xq114_0e) (@xq114_1e))
theorem cq114 : zb Try.prog Try.f114 = some xq114 := by kernel_rfl
abbrev zTx : List XO := [
  ⟨some 6, .p (.mov (C (.int .i64 0))), none⟩,
  ⟨some 7, .p (.mov (C (.bool false))), none⟩]
def xq97_0 : List XO := zTx
theorem xq97_0e : E3 xq97_0 zTx := E3.rfl
abbrev zTy : List XO := [
  ⟨some 12, .p (.mov (T 0)), none⟩,
  ⟨some 13, .p (.lenV (T 12)), none⟩,
  ⟨some 8, .p (.mov (T 13)), none⟩]
def xq97_1 : List XO := zTy
theorem xq97_1e : E3 xq97_1 zTy := E3.rfl
abbrev zTz : List XO := [
  ⟨some 14, .p (.mov (T 8)), none⟩,
  ⟨some 9, .p (.mov (C (.int .i64 0))), none⟩,
  ⟨some 10, .p (.mov (T 14)), none⟩]
def xq97_2 : List XO := zTz
theorem xq97_2e : E3 xq97_2 zTz := E3.rfl
abbrev zT0 : List XO := [
  ⟨some 15, .p (.mov (T 9)), none⟩,
  ⟨some 16, .p (.mov (T 10)), none⟩,
  ⟨some 17, .p (.bin .lss (T 15) (T 16)), none⟩]
def xq97_3 : List XO := zT0
theorem xq97_3e : E3 xq97_3 zT0 := E3.rfl
abbrev zT1 : List XO := [
  ⟨some 18, .p (.mov (T 9)), none⟩,
  ⟨some 19, .p (.mov (T 10)), none⟩,
  ⟨some 20, .p (.bin .add (T 18) (T 19)), none⟩,
  ⟨some 21, .p (.cint .u64 (T 20)), none⟩,
  ⟨some 22, .p (.bin .shr (T 21) (C (.int .u64 1))), none⟩,
  ⟨some 23, .p (.cint .i64 (T 22)), none⟩,
  ⟨some 11, .p (.mov (T 23)), none⟩]
def xq97_4 : List XO := zT1
theorem xq97_4e : E3 xq97_4 zT1 := E3.rfl
abbrev zT2 : List XO := [
  ⟨some 24, .p (.mov (T 2)), none⟩,
  ⟨some 25, .p (.mov (T 0)), none⟩,
  ⟨some 26, .p (.mov (T 11)), none⟩,
  ⟨some 27, .p (.iaddrS 2 (T 25) (T 26)), none⟩,
  ⟨some 28, .r (.loadN 2 (T 27)), none⟩,
  ⟨some 29, .p (.mov (T 1)), none⟩,
  ⟨some 30, .call (T 24) [(T 28), (T 29)], none⟩,
  ⟨some 31, .p (.bin .lss (T 30) (C (.int .i64 0))), none⟩]
def xq97_5 : List XO := zT2
theorem xq97_5e : E3 xq97_5 zT2 := E3.rfl
abbrev zT3 : List XO := [
  ⟨some 32, .p (.mov (T 11)), none⟩,
  ⟨some 33, .p (.bin .add (T 32) (C (.int .i64 1))), none⟩,
  ⟨some 9, .p (.mov (T 33)), none⟩]
def xq97_6 : List XO := zT3
theorem xq97_6e : E3 xq97_6 zT3 := E3.rfl
abbrev zT4 : List XO := [
  ⟨some 34, .p (.mov (T 11)), none⟩,
  ⟨some 10, .p (.mov (T 34)), none⟩]
def xq97_7 : List XO := zT4
theorem xq97_7e : E3 xq97_7 zT4 := E3.rfl
def zIQ : XC :=
  .seq (.seq (.ops xq97_3) (.cond (T 17) (.skip) (.exit 0))) (.block 1 (.seq (.ops xq97_4) (.seq (.ops xq97_5) (.cond (T 31) (.ops xq97_6) (.ops xq97_7)))))
def xq97_8 : XC := zIQ
theorem xq97_8k {pr : Prog} {k : List KI} {Q : XE → Fr → Heap → Prop} {t : Fr} {h : Heap} (hw : wpk pr zIQ k Q t h) : wpk pr xq97_8 k Q t h := hw
abbrev zT5 : List XO := [
  ⟨some 35, .p (.mov (T 9)), none⟩,
  ⟨some 36, .p (.mov (T 9)), none⟩,
  ⟨some 37, .p (.mov (T 8)), none⟩,
  ⟨some 38, .p (.bin .lss (T 36) (T 37)), none⟩,
  ⟨some 39, .p (.mov (T 38)), none⟩,
  ⟨some 40, .p (.mov (T 2)), some (39, true)⟩,
  ⟨some 41, .p (.mov (T 0)), some (39, true)⟩,
  ⟨some 42, .p (.mov (T 9)), some (39, true)⟩,
  ⟨some 43, .p (.iaddrS 2 (T 41) (T 42)), some (39, true)⟩,
  ⟨some 44, .r (.loadN 2 (T 43)), some (39, true)⟩,
  ⟨some 45, .p (.mov (T 1)), some (39, true)⟩,
  ⟨some 46, .call (T 40) [(T 44), (T 45)], some (39, true)⟩,
  ⟨some 47, .p (.eql false .int (T 46) (C (.int .i64 0))), some (39, true)⟩,
  ⟨some 48, .p (.pick (T 39) (T 47) (C (.bool false))), none⟩,
  ⟨some 6, .p (.mov (T 35)), none⟩,
  ⟨some 7, .p (.mov (T 48)), none⟩]
def xq97_9 : List XO := zT5
theorem xq97_9e : E3 xq97_9 zT5 := E3.rfl
def xq97 : XF := ⟨3, [.tmp 6, .tmp 7],
  .seq (.ops xq97_0) (.seq (.ops xq97_1) (.seq (.ops xq97_2) (.seq (.block 0 (.loop xq97_8)) (.seq (.ops xq97_9) (.ret)))))⟩
def yq97 := PLift.up (And.intro (And.intro (And.intro (@xq97_0e) (@xq97_1e)) (And.intro (@xq97_2e) (@xq97_3e))) (And.intro (And.intro (@xq97_4e) (@xq97_5e)) (And.intro (@xq97_6e) (And.intro (@xq97_7e) (@xq97_9e)))))
theorem cq97 : zb Try.prog Try.f97 = some xq97 := by kernel_rfl
abbrev zQr : List XO := [
  ⟨some 2, .a (.box (T 0)), none⟩,
  ⟨some 3, .a (.box (T 1)), none⟩,
  ⟨some 4, .a (.alloc [(.slice none 0 0)]), none⟩]
def xq48_0 : List XO := zQr
theorem xq48_0e : E3 xq48_0 zQr := E3.rfl
abbrev zQs : List XO := [
  ⟨some 8, .r (.loadN 1 (T 2)), none⟩,
  ⟨some 9, .p (.faddr 0 (T 3)), none⟩,
  ⟨some 10, .r (.load1 (T 9)), none⟩,
  ⟨some 11, .call (.func 79) [(T 8), (T 10)], none⟩,
  ⟨some 7, .p (.mov (T 11)), none⟩,
  ⟨some 12, .p (.ext (T 7) 0), none⟩,
  ⟨some 13, .p (.ext (T 7) 1), none⟩,
  ⟨some 5, .p (.mov (T 12)), none⟩,
  ⟨some 6, .p (.mov (T 13)), none⟩]
def xq48_1 : List XO := zQs
theorem xq48_1e : E3 xq48_1 zQs := E3.rfl
abbrev zQt : List XO := [
  ⟨some 14, .p (.mov (T 6)), none⟩]
def xq48_2 : List XO := zQt
theorem xq48_2e : E3 xq48_2 zQt := E3.rfl
abbrev zQu : List XO := [
  ⟨some 15, .r (.loadN 1 (T 2)), none⟩,
  ⟨some 16, .call (.func 50) [(T 15)], none⟩,
  ⟨none, .e (.store 1 (T 4) (T 16)), none⟩]
def xq48_3 : List XO := zQu
theorem xq48_3e : E3 xq48_3 zQu := E3.rfl
abbrev zQv : List XO := [
  ⟨some 17, .p (.faddr 0 (T 2)), none⟩,
  ⟨some 18, .r (.load1 (T 17)), none⟩,
  ⟨some 19, .call (.func 81) [(T 18)], none⟩,
  ⟨some 20, .p (.mov (T 5)), none⟩,
  ⟨some 21, .r (.loadN 2 (T 3)), none⟩,
  ⟨some 22, .a (.bslice [(.int .i64 0), (.string (zB []))] 1 [(0, 2, (T 21))]), none⟩,
  ⟨some 23, .call (.func 80) [(T 19), (T 20), (T 22)], none⟩,
  ⟨some 24, .p (.build [(.slice none 0 0)] [(0, 1, (T 23))]), none⟩,
  ⟨none, .e (.store 1 (T 4) (T 24)), none⟩]
def xq48_4 : List XO := zQv
theorem xq48_4e : E3 xq48_4 zQv := E3.rfl
def xq48 : XF := ⟨2, [.cellN 4 1],
  .seq (.ops xq48_0) (.seq (.ops xq48_1) (.seq (.seq (.ops xq48_2) (.cond (T 14) (.seq (.ops xq48_3) (.ret)) (.skip))) (.seq (.draw xq48_4 [(4, (2, [])), (4, (6, []))]) (.ret))))⟩
def yq48 := PLift.up (And.intro (And.intro (@xq48_0e) (@xq48_1e)) (And.intro (@xq48_2e) (And.intro (@xq48_3e) (@xq48_4e))))
theorem cq48 : zb Try.prog Try.f48 = some xq48 := by kernel_rfl
abbrev zSV : List XO := [
  ⟨some 2, .p (.mov (C (.slice none 0 0))), none⟩]
def xq81_0 : List XO := zSV
theorem xq81_0e : E3 xq81_0 zSV := E3.rfl
abbrev zSW : List XO := [
  ⟨some 3, .p (.mov (T 0)), none⟩,
  ⟨some 4, .p (.eql false .nslice (T 3) (C (.slice none 0 0))), none⟩]
def xq81_1 : List XO := zSW
theorem xq81_1e : E3 xq81_1 zSW := E3.rfl
abbrev zSX : List XO := [
  ⟨some 2, .p (.mov (C (.slice none 0 0))), none⟩]
def xq81_2 : List XO := zSX
theorem xq81_2e : E3 xq81_2 zSX := E3.rfl
abbrev zSY : List XO := [
  ⟨some 5, .a (.bslice [] 0 []), none⟩,
  ⟨some 6, .p (.mov (T 0)), none⟩,
  ⟨some 7, .e (.append 2 24 (T 5) (T 6)), none⟩,
  ⟨some 2, .p (.mov (T 7)), none⟩]
def xq81_3 : List XO := zSY
theorem xq81_3e : E3 xq81_3 zSY := E3.rfl
def xq81 : XF := ⟨1, [.tmp 2],
  .seq (.ops xq81_0) (.seq (.seq (.ops xq81_1) (.cond (T 4) (.seq (.ops xq81_2) (.ret)) (.skip))) (.seq (.ops xq81_3) (.ret)))⟩
def yq81 := PLift.up (And.intro (And.intro (@xq81_0e) (@xq81_1e)) (And.intro (@xq81_2e) (@xq81_3e)))
theorem cq81 : zb Try.prog Try.f81 = some xq81 := by kernel_rfl
abbrev zRL : List XO := [
  ⟨some 1, .a (.box (T 0)), none⟩,
  ⟨some 2, .a (.alloc [(.slice none 0 0)]), none⟩]
def xq50_0 : List XO := zRL
theorem xq50_0e : E3 xq50_0 zRL := E3.rfl
abbrev zRM : List XO := [
  ⟨some 3, .p (.faddr 0 (T 1)), none⟩,
  ⟨some 4, .r (.load1 (T 3)), none⟩,
  ⟨some 5, .call (.func 81) [(T 4)], none⟩,
  ⟨some 6, .p (.build [(.slice none 0 0)] [(0, 1, (T 5))]), none⟩,
  ⟨none, .e (.store 1 (T 2) (T 6)), none⟩]
def xq50_1 : List XO := zRM
theorem xq50_1e : E3 xq50_1 zRM := E3.rfl
def xq50 : XF := ⟨1, [.cellN 2 1],
  .seq (.ops xq50_0) (.seq (.ops xq50_1) (.ret))⟩
def yq50 := PLift.up (And.intro (@xq50_0e) (@xq50_1e))
theorem cq50 : zb Try.prog Try.f50 = some xq50 := by kernel_rfl
abbrev zKz : List XO := [
  ⟨some 2, .p (.mov (C (.int .i64 0))), none⟩]
def zKy : List XO := zKz
theorem xq102_0e : E3 zKy zKz := E3.rfl
abbrev zK1 : List XO := [
  ⟨some 3, .p (.mov (T 0)), none⟩,
  ⟨some 4, .p (.bin .quo (T 3) (C (.int .i64 2))), none⟩,
  ⟨some 5, .p (.bin .add (T 4) (C (.int .i64 1))), none⟩,
  ⟨some 2, .p (.mov (T 5)), none⟩]
def zK0 : List XO := zK1
theorem xq102_1e : E3 zK0 zK1 := E3.rfl
def xq102 : XF := ⟨1, [.tmp 2],
  .seq (.ops zKy) (.seq (.ops zK0) (.ret))⟩
def yq102 := PLift.up (And.intro (@xq102_0e) (@xq102_1e))
theorem cq102 : zb Try.prog Try.f102 = some xq102 := by kernel_rfl
abbrev zSh : List XO := [
  ⟨some 4, .p (.mov (C (.bool false))), none⟩]
def xq83_0 : List XO := zSh
theorem xq83_0e : E3 xq83_0 zSh := E3.rfl
abbrev zSi : List XO := [
  ⟨some 5, .p (.mov (C (.int .i64 0))), none⟩]
def xq83_1 : List XO := zSi
theorem xq83_1e : E3 xq83_1 zSi := E3.rfl
abbrev zSj : List XO := [
  ⟨some 8, .p (.mov (T 0)), none⟩,
  ⟨some 9, .p (.lenV (T 8)), none⟩,
  ⟨some 10, .p (.mov (C (.int .i64 0))), none⟩]
def xq83_2 : List XO := zSj
theorem xq83_2e : E3 xq83_2 zSj := E3.rfl
abbrev zSk : List XO := [
  ⟨some 11, .p (.bin .lss (T 10) (T 9)), none⟩]
def xq83_3 : List XO := zSk
theorem xq83_3e : E3 xq83_3 zSk := E3.rfl
abbrev zSl : List XO := [
  ⟨some 12, .p (.iaddrS 1 (T 8) (T 10)), none⟩,
  ⟨some 13, .r (.load1 (T 12)), none⟩,
  ⟨some 7, .p (.mov (T 13)), none⟩]
def xq83_4 : List XO := zSl
theorem xq83_4e : E3 xq83_4 zSl := E3.rfl
abbrev zSm : List XO := [
  ⟨some 14, .p (.mov (T 1)), none⟩,
  ⟨some 15, .p (.mov (T 7)), none⟩,
  ⟨some 16, .r (.lookup (.bool false) false .int (T 14) (T 15)), none⟩]
def xq83_5 : List XO := zSm
theorem xq83_5e : E3 xq83_5 zSm := E3.rfl
abbrev zSn : List XO := [
  ⟨some 17, .p (.mov (T 5)), none⟩,
  ⟨some 18, .p (.bin .add (T 17) (C (.int .i64 1))), none⟩,
  ⟨some 5, .p (.mov (T 18)), none⟩]
def xq83_6 : List XO := zSn
theorem xq83_6e : E3 xq83_6 zSn := E3.rfl
abbrev zSo : List XO := [
  ⟨some 19, .p (.bin .add (T 10) (C (.int .i64 1))), none⟩,
  ⟨some 10, .p (.mov (T 19)), none⟩]
def xq83_7 : List XO := zSo
theorem xq83_7e : E3 xq83_7 zSo := E3.rfl
def zID : XC :=
  .seq (.ops xq83_3) (.seq (.cond (T 11) (.skip) (.exit 0)) (.seq (.block 1 (.seq (.ops xq83_4) (.seq (.ops xq83_5) (.cond (T 16) (.ops xq83_6) (.skip))))) (.ops xq83_7)))
def xq83_8 : XC := zID
theorem xq83_8k {pr : Prog} {k : List KI} {Q : XE → Fr → Heap → Prop} {t : Fr} {h : Heap} (hw : wpk pr zID k Q t h) : wpk pr xq83_8 k Q t h := hw
abbrev zSp : List XO := [
  ⟨some 20, .p (.mov (T 0)), none⟩,
  ⟨some 21, .p (.lenV (T 20)), none⟩,
  ⟨some 22, .p (.bin .gtr (T 21) (C (.int .i64 0))), none⟩,
  ⟨some 23, .p (.mov (T 22)), none⟩,
  ⟨some 24, .p (.mov (T 5)), some (23, true)⟩,
  ⟨some 25, .p (.mov (T 0)), some (23, true)⟩,
  ⟨some 26, .p (.lenV (T 25)), some (23, true)⟩,
  ⟨some 27, .call (.func 102) [(T 26)], some (23, true)⟩,
  ⟨some 28, .p (.bin .geq (T 24) (T 27)), some (23, true)⟩,
  ⟨some 29, .p (.pick (T 23) (T 28) (C (.bool false))), none⟩,
  ⟨some 4, .p (.mov (T 29)), none⟩]
def xq83_9 : List XO := zSp
theorem xq83_9e : E3 xq83_9 zSp := E3.rfl
def xq83 : XF := ⟨2, [.tmp 4],
  .seq (.ops xq83_0) (.seq (.ops xq83_1) (.seq (.seq (.ops xq83_2) (.block 0 (.loop xq83_8))) (.seq (.ops xq83_9) (.ret))))⟩
def yq83 := PLift.up (And.intro (And.intro (And.intro (@xq83_0e) (@xq83_1e)) (And.intro (@xq83_2e) (@xq83_3e))) (And.intro (And.intro (@xq83_4e) (@xq83_5e)) (And.intro (@xq83_6e) (And.intro (@xq83_7e) (@xq83_9e)))))
theorem cq83 : zb Try.prog Try.f83 = some xq83 := by kernel_rfl
abbrev zQw : List XO := [
  ⟨some 5, .a (.box (T 1)), none⟩,
  ⟨some 6, .a (.box (T 2)), none⟩,
  ⟨some 8, .p (.mov (C (.int .i64 0))), none⟩]
def xq49_0 : List XO := zQw
theorem xq49_0e : E3 xq49_0 zQw := E3.rfl
abbrev zRC : List XO := [
  ⟨some 13, .p (.mov (T 3)), none⟩,
  ⟨some 14, .call (.func 82) [(T 13)], none⟩,
  ⟨some 15, .p (.un .not (T 14)), none⟩]
def xq49_1 : List XO := zRC
theorem xq49_1e : E3 xq49_1 zRC := E3.rfl
abbrev zRD : List XO := [
  ⟨some 8, .p (.mov (C (.int .i64 1))), none⟩]
def xq49_2 : List XO := zRD
theorem xq49_2e : E3 xq49_2 zRD := E3.rfl
abbrev zRE : List XO := [
  ⟨some 16, .r (.loadN 5 (T 5)), none⟩,
  ⟨some 17, .call (.func 75) [(T 16)], none⟩,
  ⟨some 9, .p (.mov (T 17)), none⟩]
def xq49_3 : List XO := zRE
theorem xq49_3e : E3 xq49_3 zRE := E3.rfl
abbrev zRF : List XO := [
  ⟨some 18, .p (.mov (T 9)), none⟩,
  ⟨some 19, .p (.eql true .int (T 18) (C (.int .i64 0))), none⟩]
def xq49_4 : List XO := zRF
theorem xq49_4e : E3 xq49_4 zRF := E3.rfl
abbrev zRG : List XO := [
  ⟨some 20, .p (.mov (T 9)), none⟩,
  ⟨some 8, .p (.mov (T 20)), none⟩]
def xq49_5 : List XO := zRG
theorem xq49_5e : E3 xq49_5 zRG := E3.rfl
abbrev zRH : List XO := [
  ⟨some 21, .a (.mkmap), none⟩,
  ⟨some 10, .p (.mov (T 21)), none⟩]
def xq49_6 : List XO := zRH
theorem xq49_6e : E3 xq49_6 zRH := E3.rfl
abbrev zRI : List XO := [
  ⟨some 22, .p (.faddr 0 (T 6)), none⟩,
  ⟨some 23, .r (.load1 (T 22)), none⟩,
  ⟨some 24, .p (.lenV (T 23)), none⟩,
  ⟨some 25, .p (.mov (C (.int .i64 0))), none⟩]
def xq49_7 : List XO := zRI
theorem xq49_7e : E3 xq49_7 zRI := E3.rfl
abbrev zRJ : List XO := [
  ⟨some 26, .p (.bin .lss (T 25) (T 24)), none⟩]
def xq49_8 : List XO := zRJ
theorem xq49_8e : E3 xq49_8 zRJ := E3.rfl
abbrev zRK : List XO := [
  ⟨some 27, .p (.mov (T 25)), none⟩,
  ⟨some 28, .p (.iaddrS 2 (T 23) (T 25)), none⟩,
  ⟨some 29, .r (.loadN 2 (T 28)), none⟩,
  ⟨some 12, .a (.alloc [(.int .i64 0), (.string (zB []))]), none⟩,
  ⟨some 11, .p (.mov (T 27)), none⟩,
  ⟨none, .e (.store 2 (T 12) (T 29)), none⟩]
def xq49_9 : List XO := zRK
theorem xq49_9e : E3 xq49_9 zRK := E3.rfl
abbrev zQy : List XO := [
  ⟨some 30, .p (.mov (T 11)), none⟩,
  ⟨some 31, .p (.bin .gtr (T 30) (C (.int .i64 0))), none⟩,
  ⟨some 32, .p (.mov (T 31)), none⟩,
  ⟨some 33, .p (.faddr 0 (T 6)), some (32, true)⟩,
  ⟨some 34, .r (.load1 (T 33)), some (32, true)⟩,
  ⟨some 35, .p (.mov (T 11)), some (32, true)⟩,
  ⟨some 36, .p (.bin .sub (T 35) (C (.int .i64 1))), some (32, true)⟩,
  ⟨some 37, .p (.iaddrS 2 (T 34) (T 36)), some (32, true)⟩,
  ⟨some 38, .p (.faddr 0 (T 37)), some (32, true)⟩,
  ⟨some 39, .r (.load1 (T 38)), some (32, true)⟩,
  ⟨some 40, .p (.faddr 0 (T 12)), some (32, true)⟩,
  ⟨some 41, .r (.load1 (T 40)), some (32, true)⟩,
  ⟨some 42, .p (.bin .geq (T 39) (T 41)), some (32, true)⟩,
  ⟨some 43, .p (.pick (T 32) (T 42) (C (.bool false))), none⟩,
  ⟨some 44, .p (.mov (T 43)), none⟩,
  ⟨some 45, .p (.mov (T 0)), some (44, false)⟩,
  ⟨some 46, .r (.loadN 5 (T 5)), some (44, false)⟩,
  ⟨some 47, .r (.loadN 2 (T 12)), some (44, false)⟩,
  ⟨some 48, .call (.func 46) [(T 45), (T 46), (T 47)], some (44, false)⟩,
  ⟨some 49, .p (.un .not (T 48)), some (44, false)⟩,
  ⟨some 50, .p (.pick (T 44) (C (.bool true)) (T 49)), none⟩]
def zQx : List XO := zQy
theorem xq49_10e : E3 zQx zQy := E3.rfl
abbrev zQ0 : List XO := [
  ⟨some 8, .p (.mov (C (.int .i64 170))), none⟩]
def zQz : List XO := zQ0
theorem xq49_11e : E3 zQz zQ0 := E3.rfl
abbrev zQ2 : List XO := [
  ⟨some 51, .p (.mov (T 10)), none⟩,
  ⟨some 52, .p (.faddr 0 (T 12)), none⟩,
  ⟨some 53, .r (.load1 (T 52)), none⟩,
  ⟨none, .e (.mupd .int (T 51) (T 53) (C (.bool true))), none⟩]
def zQ1 : List XO := zQ2
theorem xq49_12e : E3 zQ1 zQ2 := E3.rfl
abbrev zQ4 : List XO := [
  ⟨some 54, .p (.bin .add (T 25) (C (.int .i64 1))), none⟩,
  ⟨some 25, .p (.mov (T 54)), none⟩]
def zQ3 : List XO := zQ4
theorem xq49_13e : E3 zQ3 zQ4 := E3.rfl
def zH3 : XC :=
  .seq (.ops xq49_8) (.seq (.cond (T 26) (.skip) (.exit 0)) (.seq (.block 1 (.seq (.ops xq49_9) (.seq (.seq (.draw zQx []) (.cond (T 50) (.seq (.ops zQz) (.ret)) (.skip))) (.ops zQ1)))) (.ops zQ3)))
def zQ5 : XC := zH3
theorem xq49_14k {pr : Prog} {k : List KI} {Q : XE → Fr → Heap → Prop} {t : Fr} {h : Heap} (hw : wpk pr zH3 k Q t h) : wpk pr zQ5 k Q t h := hw
abbrev zQ7 : List XO := [
  ⟨some 55, .p (.mov (T 3)), none⟩,
  ⟨some 56, .p (.mov (T 10)), none⟩,
  ⟨some 57, .call (.func 83) [(T 55), (T 56)], none⟩,
  ⟨some 58, .p (.un .not (T 57)), none⟩]
def zQ6 : List XO := zQ7
theorem xq49_15e : E3 zQ6 zQ7 := E3.rfl
abbrev zQ9 : List XO := [
  ⟨some 8, .p (.mov (C (.int .i64 170))), none⟩]
def zQ8 : List XO := zQ9
theorem xq49_16e : E3 zQ8 zQ9 := E3.rfl
abbrev zRB : List XO := [
  ⟨some 8, .p (.mov (C (.int .i64 0))), none⟩]
def zRA : List XO := zRB
theorem xq49_17e : E3 zRA zRB := E3.rfl
def xq49 : XF := ⟨4, [.tmp 8],
  .seq (.ops xq49_0) (.seq (.seq (.ops xq49_1) (.cond (T 15) (.seq (.ops xq49_2) (.ret)) (.skip))) (.seq (.seq (.ops xq49_3) (.seq (.ops xq49_4) (.cond (T 19) (.seq (.ops xq49_5) (.ret)) (.skip)))) (.seq (.ops xq49_6) (.seq (.seq (.ops xq49_7) (.block 0 (.loop zQ5))) (.seq (.seq (.ops zQ6) (.cond (T 58) (.seq (.ops zQ8) (.ret)) (.skip))) (.seq (.ops zRA) (.ret)))))))⟩
def yq49 := PLift.up (And.intro (And.intro (And.intro (And.intro (@xq49_0e) (@xq49_1e)) (And.intro (@xq49_2e) (@xq49_3e))) (And.intro (And.intro (@xq49_4e) (@xq49_5e)) (And.intro (@xq49_6e) (@xq49_7e)))) (And.intro (And.intro (And.intro (@xq49_8e) (@xq49_9e)) (And.intro (@xq49_10e) (@xq49_11e))) (And.intro (And.intro (@xq49_12e) (@xq49_13e)) (And.intro (@xq49_15e) (And.intro (@xq49_16e) (@xq49_17e))))))
theorem cq49 : zb Try.prog Try.f49 = some xq49 := by kernel_rfl
abbrev zRP : List XO := [
  ⟨some 3, .a (.box (T 1)), none⟩]
def xq52_0 : List XO := zRP
theorem xq52_0e : E3 xq52_0 zRP := E3.rfl
abbrev zRQ : List XO := [
  ⟨some 6, .p (.mov (T 0)), none⟩,
  ⟨some 7, .p (.faddr 0 (T 3)), none⟩,
  ⟨some 8, .r (.load1 (T 7)), none⟩,
  ⟨some 9, .p (.lenV (T 8)), none⟩,
  ⟨some 10, .p (.cint .u64 (T 9)), none⟩,
  ⟨some 11, .call (.func 66) [(T 6), (T 10), (C (.int .i64 1))], none⟩]
def xq52_1 : List XO := zRQ
theorem xq52_1e : E3 xq52_1 zRQ := E3.rfl
abbrev zRR : List XO := [
  ⟨some 12, .p (.faddr 0 (T 3)), none⟩,
  ⟨some 13, .r (.load1 (T 12)), none⟩,
  ⟨some 14, .p (.lenV (T 13)), none⟩,
  ⟨some 15, .p (.mov (C (.int .i64 0))), none⟩]
def xq52_2 : List XO := zRR
theorem xq52_2e : E3 xq52_2 zRR := E3.rfl
abbrev zRS : List XO := [
  ⟨some 16, .p (.bin .lss (T 15) (T 14)), none⟩]
def xq52_3 : List XO := zRS
theorem xq52_3e : E3 xq52_3 zRS := E3.rfl
abbrev zRT : List XO := [
  ⟨some 17, .p (.iaddrS 2 (T 13) (T 15)), none⟩,
  ⟨some 18, .r (.loadN 2 (T 17)), none⟩,
  ⟨some 5, .a (.alloc [(.int .i64 0), (.string (zB []))]), none⟩,
  ⟨none, .e (.store 2 (T 5) (T 18)), none⟩]
def xq52_4 : List XO := zRT
theorem xq52_4e : E3 xq52_4 zRT := E3.rfl
abbrev zRU : List XO := [
  ⟨some 19, .p (.mov (T 0)), none⟩,
  ⟨some 20, .p (.faddr 0 (T 5)), none⟩,
  ⟨some 21, .r (.load1 (T 20)), none⟩,
  ⟨some 22, .p (.cint .u64 (T 21)), none⟩,
  ⟨some 23, .call (.func 66) [(T 19), (T 22), (C (.int .i64 1))], none⟩]
def xq52_5 : List XO := zRU
theorem xq52_5e : E3 xq52_5 zRU := E3.rfl
abbrev zRV : List XO := [
  ⟨some 24, .p (.mov (T 0)), none⟩,
  ⟨some 25, .p (.faddr 1 (T 5)), none⟩,
  ⟨some 26, .r (.load1 (T 25)), none⟩,
  ⟨some 27, .call (.func 68) [(T 24), (T 26)], none⟩]
def xq52_6 : List XO := zRV
theorem xq52_6e : E3 xq52_6 zRV := E3.rfl
abbrev zRW : List XO := [
  ⟨some 28, .p (.bin .add (T 15) (C (.int .i64 1))), none⟩,
  ⟨some 15, .p (.mov (T 28)), none⟩]
def xq52_7 : List XO := zRW
theorem xq52_7e : E3 xq52_7 zRW := E3.rfl
def zH4 : XC :=
  .seq (.ops xq52_3) (.seq (.cond (T 16) (.skip) (.exit 0)) (.seq (.block 1 (.seq (.ops xq52_4) (.seq (.ops xq52_5) (.ops xq52_6)))) (.ops xq52_7)))
def xq52_8 : XC := zH4
theorem xq52_8k {pr : Prog} {k : List KI} {Q : XE → Fr → Heap → Prop} {t : Fr} {h : Heap} (hw : wpk pr zH4 k Q t h) : wpk pr xq52_8 k Q t h := hw
def xq52 : XF := ⟨2, [],
  .seq (.ops xq52_0) (.seq (.ops xq52_1) (.seq (.ops xq52_2) (.block 0 (.loop xq52_8))))⟩
def yq52 := PLift.up (And.intro (And.intro (And.intro (@xq52_0e) (@xq52_1e)) (And.intro (@xq52_2e) (@xq52_3e))) (And.intro (And.intro (@xq52_4e) (@xq52_5e)) (And.intro (@xq52_6e) (@xq52_7e))))
theorem cq52 : zb Try.prog Try.f52 = some xq52 := by kernel_rfl
abbrev xq55_0l : List XO := [
  ⟨some 2, .a (.alloc [(.slice none 0 0)]), none⟩]
def xq55_0 : List XO := xq55_0l
abbrev xq55_1l : List XO := [
  ⟨some 3, .a (.alloc [(.slice none 0 0)]), none⟩]
def xq55_1 : List XO := xq55_1l
abbrev xq55_2l : List XO := [
  ⟨some 6, .p (.mov (T 0)), none⟩,
  ⟨some 7, .call (.func 69) [(T 6), (C (.int .i64 1))], none⟩,
  ⟨some 4, .p (.mov (T 7)), none⟩]
def xq55_2 : List XO := xq55_2l
abbrev xq55_3l : List XO := [
  ⟨some 8, .p (.mov (T 4)), none⟩,
  ⟨some 9, .p (.bin .gtr (T 8) (C (.int .u64 0))), none⟩,
  ⟨some 10, .p (.mov (T 9)), none⟩,
  ⟨some 11, .p (.mov (T 0)), some (10, true)⟩,
  ⟨some 12, .call (.func 57) [(T 11)], some (10, true)⟩,
  ⟨some 13, .p (.eql false .int (T 12) (C (.int .i64 0))), some (10, true)⟩,
  ⟨some 14, .p (.pick (T 10) (T 13) (C (.bool false))), none⟩]
def xq55_3 : List XO := xq55_3l
abbrev xq55_4l : List XO := [
  ⟨some 17, .p (.mov (T 0)), none⟩,
  ⟨some 18, .call (.func 69) [(T 17), (C (.int .i64 1))], none⟩,
  ⟨some 19, .p (.cint .i64 (T 18)), none⟩,
  ⟨some 20, .p (.mov (T 0)), none⟩,
  ⟨some 21, .call (.func 71) [(T 20)], none⟩,
  ⟨some 22, .p (.build [(.int .i64 0), (.string (zB []))] [(0, 1, (T 19)), (1, 1, (T 21))]), none⟩,
  ⟨some 5, .a (.alloc [(.int .i64 0), (.string (zB []))]), none⟩,
  ⟨none, .e (.store 2 (T 5) (T 22)), none⟩]
def xq55_4 : List XO := xq55_4l
abbrev xq55_5l : List XO := [
  ⟨some 23, .p (.mov (T 0)), none⟩,
  ⟨some 24, .call (.func 57) [(T 23)], none⟩,
  ⟨some 25, .p (.eql false .int (T 24) (C (.int .i64 0))), none⟩,
  ⟨some 26, .p (.mov (T 25)), none⟩,
  ⟨some 27, .p (.faddr 0 (T 5)), some (26, true)⟩,
  ⟨some 28, .r (.load1 (T 27)), some (26, true)⟩,
  ⟨some 29, .p (.bin .geq (T 28) (C (.int .i64 16))), some (26, true)⟩,
  ⟨some 30, .p (.mov (T 29)), some (26, true)⟩,
  ⟨some 31, .p (.faddr 0 (T 3)), some (30, false)⟩,
  ⟨some 32, .r (.load1 (T 31)), some (30, false)⟩,
  ⟨some 33, .p (.lenV (T 32)), some (30, false)⟩,
  ⟨some 34, .p (.bin .gtr (T 33) (C (.int .i64 0))), some (30, false)⟩,
  ⟨some 35, .p (.mov (T 34)), some (30, false)⟩,
  ⟨some 36, .p (.faddr 0 (T 3)), some (35, true)⟩,
  ⟨some 37, .r (.load1 (T 36)), some (35, true)⟩,
  ⟨some 38, .p (.faddr 0 (T 3)), some (35, true)⟩,
  ⟨some 39, .r (.load1 (T 38)), some (35, true)⟩,
  ⟨some 40, .p (.lenV (T 39)), some (35, true)⟩,
  ⟨some 41, .p (.bin .sub (T 40) (C (.int .i64 1))), some (35, true)⟩,
  ⟨some 42, .p (.iaddrS 2 (T 37) (T 41)), some (35, true)⟩,
  ⟨some 43, .p (.faddr 0 (T 42)), some (35, true)⟩,
  ⟨some 44, .r (.load1 (T 43)), some (35, true)⟩,
  ⟨some 45, .p (.faddr 0 (T 5)), some (35, true)⟩,
  ⟨some 46, .r (.load1 (T 45)), some (35, true)⟩,
  ⟨some 47, .p (.bin .geq (T 44) (T 46)), some (35, true)⟩,
  ⟨some 48, .p (.pick (T 35) (T 47) (C (.bool false))), some (30, false)⟩,
  ⟨some 49, .p (.pick (T 30) (C (.bool true)) (T 48)), some (26, true)⟩,
  ⟨some 50, .p (.pick (T 26) (T 49) (C (.bool false))), none⟩]
def xq55_5 : List XO := xq55_5l
abbrev xq55_6l : List XO := [
  ⟨some 51, .p (.mov (T 0)), none⟩,
  ⟨some 52, .call (.func 84) [(T 51), (C (.int .i64 6))], none⟩]
def xq55_6 : List XO := xq55_6l
abbrev xq55_7l : List XO := [
  ⟨some 53, .p (.faddr 0 (T 3)), none⟩,
  ⟨some 54, .r (.load1 (T 53)), none⟩,
  ⟨some 55, .r (.loadN 2 (T 5)), none⟩,
  ⟨some 56, .a (.bslice [(.int .i64 0), (.string (zB []))] 1 [(0, 2, (T 55))]), none⟩,
  ⟨some 57, .e (.append 2 24 (T 54) (T 56)), none⟩,
  ⟨some 58, .p (.faddr 0 (T 3)), none⟩,
  ⟨none, .e (.store 1 (T 58) (T 57)), none⟩]
def xq55_7 : List XO := xq55_7l
abbrev xq55_8l : List XO := [
  ⟨some 15, .p (.mov (T 4)), none⟩,
  ⟨some 16, .p (.bin .sub (T 15) (C (.int .u64 1))), none⟩,
  ⟨some 4, .p (.mov (T 16)), none⟩]
def xq55_8 : List XO := xq55_8l
def xq55_9b : XC :=
  .seq (.seq (.ops xq55_3) (.cond (T 14) (.skip) (.exit 0))) (.seq (.block 1 (.seq (.ops xq55_4) (.seq (.seq (.draw xq55_5 []) (.cond (T 50) (.ops xq55_6) (.skip))) (.ops xq55_7)))) (.ops xq55_8))
def xq55_9 : XC := xq55_9b
abbrev xq55_10l : List XO := [
  ⟨some 59, .p (.mov (T 0)), none⟩,
  ⟨some 60, .call (.func 57) [(T 59)], none⟩,
  ⟨some 61, .p (.eql true .int (T 60) (C (.int .i64 0))), none⟩]
def xq55_10 : List XO := xq55_10l
abbrev xq55_11l : List XO := [
  ⟨some 62, .p (.build [(.slice none 0 0)] []), none⟩,
  ⟨none, .e (.store 1 (T 2) (T 62)), none⟩]
def xq55_11 : List XO := xq55_11l
abbrev xq55_12l : List XO := [
  ⟨some 63, .r (.loadN 1 (T 3)), none⟩,
  ⟨none, .e (.store 1 (T 2) (T 63)), none⟩]
def xq55_12 : List XO := xq55_12l
def xq55 : XF := ⟨1, [.cellN 2 1],
  .seq (.ops xq55_0) (.seq (.ops xq55_1) (.seq (.seq (.ops xq55_2) (.block 0 (.loop xq55_9))) (.seq (.seq (.ops xq55_10) (.cond (T 61) (.seq (.ops xq55_11) (.ret)) (.skip))) (.seq (.ops xq55_12) (.ret)))))⟩
theorem cq55 : zb Try.prog Try.f55 = some xq55 := by kernel_rfl
end Go.X
end
section
namespace Go.X
open Go.Proofs
abbrev zQT : List XO := [
  ⟨some 0, .p (.mov (C (.pointer none))), none⟩]
def xq42_0 : List XO := zQT
theorem xq42_0e : E3 xq42_0 zQT := E3.rfl
abbrev zQU : List XO := [
  ⟨some 4, .call (.func 27) [(C (.string (zB [115, 101, 101, 100]))), (C (.int .i64 16))], none⟩,
  ⟨some 3, .p (.mov (T 4)), none⟩,
  ⟨some 5, .p (.ext (T 3) 0), none⟩,
  ⟨some 6, .p (.ext (T 3) 1), none⟩,
  ⟨some 1, .p (.mov (T 5)), none⟩,
  ⟨some 2, .p (.mov (T 6)), none⟩]
def xq42_1 : List XO := zQU
theorem xq42_1e : E3 xq42_1 zQU := E3.rfl
abbrev zQV : List XO := [
  ⟨some 7, .p (.mov (T 1)), none⟩,
  ⟨some 0, .p (.mov (T 7)), none⟩]
def xq42_2 : List XO := zQV
theorem xq42_2e : E3 xq42_2 zQV := E3.rfl
def xq42 : XF := ⟨0, [.tmp 0],
  .seq (.ops xq42_0) (.seq (.ops xq42_1) (.seq (.ops xq42_2) (.ret)))⟩
def yq42 := PLift.up (And.intro (@xq42_0e) (And.intro (@xq42_1e) (@xq42_2e)))
theorem cq42 : zb Try.prog Try.f42 = some xq42 := by kernel_rfl
abbrev zQW : List XO := [
  ⟨some 2, .a (.alloc [(.int .u64 0), (.string (zB [])), (.string (zB [])), (.string (zB [])), (.slice none 0 0)]), none⟩]
def xq43_0 : List XO := zQW
theorem xq43_0e : E3 xq43_0 zQW := E3.rfl
abbrev zQX : List XO := [
  ⟨some 4, .p (.mov (T 0)), none⟩,
  ⟨some 5, .call (.func 40) [(T 4), (C (.int .i64 8))], none⟩,
  ⟨some 6, .call (.func 18) [(T 5)], none⟩,
  ⟨some 3, .p (.mov (T 6)), none⟩]
def xq43_1 : List XO := zQX
theorem xq43_1e : E3 xq43_1 zQX := E3.rfl
abbrev zQY : List XO := [
  ⟨some 7, .p (.mov (T 0)), none⟩,
  ⟨some 8, .p (.bin .rem (T 7) (C (.int .u64 1000))), none⟩,
  ⟨some 9, .p (.bin .add (T 8) (C (.int .u64 1))), none⟩,
  ⟨some 10, .p (.mov (T 3)), none⟩,
  ⟨some 11, .p (.mov (T 3)), none⟩,
  ⟨some 12, .p (.mov (T 3)), none⟩,
  ⟨some 13, .a (.bslice [(.int .i64 0), (.int .i64 0), (.int .i64 0)] 3 [(0, 1, (C (.int .i64 0))), (1, 1, (C (.int .i64 1))), (2, 1, (C (.int .i64 2)))]), none⟩,
  ⟨some 14, .p (.build [(.int .u64 0), (.string (zB [])), (.string (zB [])), (.string (zB [])), (.slice none 0 0)] [(0, 1, (T 9)), (1, 1, (T 10)), (2, 1, (T 11)), (3, 1, (T 12)), (4, 1, (T 13))]), none⟩,
  ⟨none, .e (.store 5 (T 2) (T 14)), none⟩]
def xq43_2 : List XO := zQY
theorem xq43_2e : E3 xq43_2 zQY := E3.rfl
def xq43 : XF := ⟨1, [.cellN 2 5],
  .seq (.ops xq43_0) (.seq (.ops xq43_1) (.seq (.ops xq43_2) (.ret)))⟩
def yq43 := PLift.up (And.intro (@xq43_0e) (And.intro (@xq43_1e) (@xq43_2e)))
theorem cq43 : zb Try.prog Try.f43 = some xq43 := by kernel_rfl
abbrev zQf : List XO := [
  ⟨some 3, .a (.box (T 1)), none⟩,
  ⟨some 4, .p (.mov (C (.string (zB [])))), none⟩]
def xq45_0 : List XO := zQf
theorem xq45_0e : E3 xq45_0 zQf := E3.rfl
abbrev zQg : List XO := [
  ⟨some 5, .p (.mov (T 0)), none⟩,
  ⟨some 6, .p (.cint .u8 (T 5)), none⟩,
  ⟨some 7, .a (.bslice [(.int .u8 0)] 1 [(0, 1, (T 6))]), none⟩,
  ⟨some 8, .r (.cb2s (T 7)), none⟩,
  ⟨some 9, .a (.bslice [(.string (zB [])), (.string (zB []))] 2 [(0, 1, (C (.string (zB [115, 101, 101, 100])))), (1, 1, (T 8))]), none⟩,
  ⟨some 10, .call (.func 28) [(C (.int .u8 75)), (T 9)], none⟩,
  ⟨some 11, .r (.loadN 5 (T 3)), none⟩,
  ⟨some 12, .call (.func 78) [(T 11)], none⟩,
  ⟨some 13, .call (.func 77) [(T 12)], none⟩,
  ⟨some 14, .a (.bslice [(.string (zB []))] 1 [(0, 1, (T 13))]), none⟩,
  ⟨some 15, .call (.func 28) [(C (.int .u8 67)), (T 14)], none⟩,
  ⟨some 16, .call (.func 19) [(T 10), (T 15)], none⟩,
  ⟨some 4, .p (.mov (T 16)), none⟩]
def xq45_1 : List XO := zQg
theorem xq45_1e : E3 xq45_1 zQg := E3.rfl
def xq45 : XF := ⟨2, [.tmp 4],
  .seq (.ops xq45_0) (.seq (.draw xq45_1 [(3, (5, [])), (6, (5, []))]) (.ret))⟩
def yq45 := PLift.up (And.intro (@xq45_0e) (@xq45_1e))
theorem cq45 : zb Try.prog Try.f45 = some xq45 := by kernel_rfl
abbrev zQj : List XO := [
  ⟨some 2, .p (.mov (C (.slice none 0 0))), none⟩]
def xq47_0 : List XO := zQj
theorem xq47_0e : E3 xq47_0 zQj := E3.rfl
abbrev zQk : List XO := [
  ⟨some 5, .a (.bslice [] 0 []), none⟩,
  ⟨some 3, .p (.mov (T 5)), none⟩]
def xq47_1 : List XO := zQk
theorem xq47_1e : E3 xq47_1 zQk := E3.rfl
abbrev zQl : List XO := [
  ⟨some 4, .p (.mov (C (.int .i64 0))), none⟩]
def xq47_2 : List XO := zQl
theorem xq47_2e : E3 xq47_2 zQl := E3.rfl
abbrev zQm : List XO := [
  ⟨some 6, .p (.mov (T 4)), none⟩,
  ⟨some 7, .p (.bin .lss (T 6) (C (.int .i64 16))), none⟩]
def xq47_3 : List XO := zQm
theorem xq47_3e : E3 xq47_3 zQm := E3.rfl
abbrev zQn : List XO := [
  ⟨some 10, .p (.mov (T 0)), none⟩,
  ⟨some 11, .p (.mov (T 4)), none⟩,
  ⟨some 12, .p (.cint .u64 (T 11)), none⟩,
  ⟨some 13, .p (.bin .shr (T 10) (T 12)), none⟩,
  ⟨some 14, .p (.bin .and (T 13) (C (.int .i64 1))), none⟩,
  ⟨some 15, .p (.eql false .int (T 14) (C (.int .i64 1))), none⟩]
def xq47_4 : List XO := zQn
theorem xq47_4e : E3 xq47_4 zQn := E3.rfl
abbrev zQo : List XO := [
  ⟨some 16, .p (.mov (T 3)), none⟩,
  ⟨some 17, .p (.mov (T 4)), none⟩,
  ⟨some 18, .a (.bslice [(.int .i64 0)] 1 [(0, 1, (T 17))]), none⟩,
  ⟨some 19, .e (.append 1 8 (T 16) (T 18)), none⟩,
  ⟨some 3, .p (.mov (T 19)), none⟩]
def xq47_5 : List XO := zQo
theorem xq47_5e : E3 xq47_5 zQo := E3.rfl
abbrev zQp : List XO := [
  ⟨some 8, .p (.mov (T 4)), none⟩,
  ⟨some 9, .p (.bin .add (T 8) (C (.int .i64 1))), none⟩,
  ⟨some 4, .p (.mov (T 9)), none⟩]
def xq47_6 : List XO := zQp
theorem xq47_6e : E3 xq47_6 zQp := E3.rfl
def zH2 : XC :=
  .seq (.seq (.ops xq47_3) (.cond (T 7) (.skip) (.exit 0))) (.seq (.block 1 (.seq (.ops xq47_4) (.cond (T 15) (.ops xq47_5) (.skip)))) (.ops xq47_6))
def xq47_7 : XC := zH2
theorem xq47_7k {pr : Prog} {k : List KI} {Q : XE → Fr → Heap → Prop} {t : Fr} {h : Heap} (hw : wpk pr zH2 k Q t h) : wpk pr xq47_7 k Q t h := hw
abbrev zQq : List XO := [
  ⟨some 20, .p (.mov (T 3)), none⟩,
  ⟨some 2, .p (.mov (T 20)), none⟩]
def xq47_8 : List XO := zQq
theorem xq47_8e : E3 xq47_8 zQq := E3.rfl
def xq47 : XF := ⟨1, [.tmp 2],
  .seq (.ops xq47_0) (.seq (.ops xq47_1) (.seq (.seq (.ops xq47_2) (.block 0 (.loop xq47_7))) (.seq (.ops xq47_8) (.ret))))⟩
def yq47 := PLift.up (And.intro (And.intro (And.intro (@xq47_0e) (@xq47_1e)) (And.intro (@xq47_2e) (@xq47_3e))) (And.intro (And.intro (@xq47_4e) (@xq47_5e)) (And.intro (@xq47_6e) (@xq47_8e))))
theorem cq47 : zb Try.prog Try.f47 = some xq47 := by kernel_rfl
abbrev zQZ : List XO := [
  ⟨some 0, .p (.mov (C (.bool false))), none⟩]
def xq44_0 : List XO := zQZ
theorem xq44_0e : E3 xq44_0 zQZ := E3.rfl
abbrev zQa : List XO := [
  ⟨some 8, .call (.func 42) [], none⟩,
  ⟨some 9, .call (.func 43) [(C (.int .u64 1))], none⟩,
  ⟨some 10, .call (.func 41) [(T 8), (C (.int .i64 0)), (T 9)], none⟩,
  ⟨some 7, .p (.mov (T 10)), none⟩,
  ⟨some 11, .p (.ext (T 7) 0), none⟩,
  ⟨some 12, .p (.ext (T 7) 1), none⟩,
  ⟨some 1, .a (.alloc [(.int .i64 0), (.string (zB []))]), none⟩,
  ⟨none, .e (.store 2 (T 1) (T 11)), none⟩,
  ⟨some 2, .p (.mov (T 12)), none⟩]
def xq44_1 : List XO := zQa
theorem xq44_1e : E3 xq44_1 zQa := E3.rfl
abbrev zQb : List XO := [
  ⟨some 14, .call (.func 42) [], none⟩,
  ⟨some 15, .call (.func 43) [(C (.int .u64 1))], none⟩,
  ⟨some 16, .call (.func 41) [(T 14), (C (.int .i64 2)), (T 15)], none⟩,
  ⟨some 13, .p (.mov (T 16)), none⟩,
  ⟨some 17, .p (.ext (T 13) 0), none⟩,
  ⟨some 18, .p (.ext (T 13) 1), none⟩,
  ⟨some 3, .a (.alloc [(.int .i64 0), (.string (zB []))]), none⟩,
  ⟨none, .e (.store 2 (T 3) (T 17)), none⟩,
  ⟨some 4, .p (.mov (T 18)), none⟩]
def xq44_2 : List XO := zQb
theorem xq44_2e : E3 xq44_2 zQb := E3.rfl
abbrev zQc : List XO := [
  ⟨some 19, .p (.build [(.slice none 0 0)] []), none⟩,
  ⟨some 20, .r (.loadN 2 (T 3)), none⟩,
  ⟨some 21, .call (.func 48) [(T 19), (T 20)], none⟩,
  ⟨some 5, .a (.alloc [(.slice none 0 0)]), none⟩,
  ⟨none, .e (.store 1 (T 5) (T 21)), none⟩]
def xq44_3 : List XO := zQc
theorem xq44_3e : E3 xq44_3 zQc := E3.rfl
abbrev zQd : List XO := [
  ⟨some 22, .r (.loadN 1 (T 5)), none⟩,
  ⟨some 23, .r (.loadN 2 (T 1)), none⟩,
  ⟨some 24, .call (.func 48) [(T 22), (T 23)], none⟩,
  ⟨some 6, .a (.alloc [(.slice none 0 0)]), none⟩,
  ⟨none, .e (.store 1 (T 6) (T 24)), none⟩]
def xq44_4 : List XO := zQd
theorem xq44_4e : E3 xq44_4 zQd := E3.rfl
abbrev zQe : List XO := [
  ⟨some 25, .p (.mov (T 2)), none⟩,
  ⟨some 26, .p (.eql false .int (T 25) (C (.int .i64 0))), none⟩,
  ⟨some 27, .p (.mov (T 26)), none⟩,
  ⟨some 28, .p (.mov (T 4)), some (27, true)⟩,
  ⟨some 29, .p (.eql false .int (T 28) (C (.int .i64 0))), some (27, true)⟩,
  ⟨some 30, .p (.pick (T 27) (T 29) (C (.bool false))), none⟩,
  ⟨some 31, .p (.mov (T 30)), none⟩,
  ⟨some 32, .call (.func 42) [], some (31, true)⟩,
  ⟨some 33, .call (.func 43) [(C (.int .u64 1))], some (31, true)⟩,
  ⟨some 34, .r (.loadN 1 (T 5)), some (31, true)⟩,
  ⟨some 35, .a (.bslice [(.int .i64 0), (.int .i64 0), (.int .i64 0)] 3 [(0, 1, (C (.int .i64 0))), (1, 1, (C (.int .i64 1))), (2, 1, (C (.int .i64 2)))]), some (31, true)⟩,
  ⟨some 36, .call (.func 49) [(T 32), (T 33), (T 34), (T 35)], some (31, true)⟩,
  ⟨some 37, .p (.eql false .int (T 36) (C (.int .i64 170))), some (31, true)⟩,
  ⟨some 38, .p (.pick (T 31) (T 37) (C (.bool false))), none⟩,
  ⟨some 39, .p (.mov (T 38)), none⟩,
  ⟨some 40, .call (.func 42) [], some (39, true)⟩,
  ⟨some 41, .call (.func 43) [(C (.int .u64 1))], some (39, true)⟩,
  ⟨some 42, .r (.loadN 1 (T 6)), some (39, true)⟩,
  ⟨some 43, .a (.bslice [(.int .i64 0), (.int .i64 0), (.int .i64 0)] 3 [(0, 1, (C (.int .i64 0))), (1, 1, (C (.int .i64 1))), (2, 1, (C (.int .i64 2)))]), some (39, true)⟩,
  ⟨some 44, .call (.func 49) [(T 40), (T 41), (T 42), (T 43)], some (39, true)⟩,
  ⟨some 45, .p (.eql false .int (T 44) (C (.int .i64 0))), some (39, true)⟩,
  ⟨some 46, .p (.pick (T 39) (T 45) (C (.bool false))), none⟩,
  ⟨some 0, .p (.mov (T 46)), none⟩]
def xq44_5 : List XO := zQe
theorem xq44_5e : E3 xq44_5 zQe := E3.rfl
def xq44 : XF := ⟨0, [.tmp 0],
  .seq (.ops xq44_0) (.seq (.ops xq44_1) (.seq (.ops xq44_2) (.seq (.ops xq44_3) (.seq (.ops xq44_4) (.seq (.draw xq44_5 [(9, (7, [])), (9, (8, [])), (9, (11, [])), (17, (15, [])), (17, (16, [])), (17, (19, []))]) (.ret))))))⟩
def yq44 := PLift.up (And.intro (And.intro (@xq44_0e) (And.intro (@xq44_1e) (@xq44_2e))) (And.intro (@xq44_3e) (And.intro (@xq44_4e) (@xq44_5e))))
theorem cq44 : zb Try.prog Try.f44 = some xq44 := by kernel_rfl
abbrev zLr : List XO := [
  ⟨some 2, .p (.mov (C (.string (zB [])))), none⟩]
def zLq : List XO := zLr
theorem xq112_0e : E3 zLq zLr := E3.rfl
abbrev zLt : List XO := [
  ⟨some 3, .p (.mov (T 0)), none⟩,
  ⟨some 4, .p (.lenS (T 3)), none⟩,
  ⟨some 5, .p (.bin .lss (T 4) (C (.int .i64 32))), none⟩]
def zLs : List XO := zLt
theorem xq112_1e : E3 zLs zLt := E3.rfl
abbrev zLv : List XO := [
  ⟨some 6, .p (.mov (T 0)), none⟩,
  ⟨some 7, .p (.bin .add (T 6) (C (.string (zB [0])))), none⟩,
  ⟨some 0, .p (.mov (T 7)), none⟩]
def zLu : List XO := zLv
theorem xq112_2e : E3 zLu zLv := E3.rfl
def zHW : XC :=
  .seq (.seq (.ops zLs) (.cond (T 5) (.skip) (.exit 0))) (.block 1 (.ops zLu))
def zLw : XC := zHW
theorem xq112_3k {pr : Prog} {k : List KI} {Q : XE → Fr → Heap → Prop} {t : Fr} {h : Heap} (hw : wpk pr zHW k Q t h) : wpk pr zLw k Q t h := hw
abbrev zLy : List XO := [
  ⟨some 8, .p (.mov (T 0)), none⟩,
  ⟨some 9, .p (.slcS (T 8) none (some (C (.int .i64 32)))), none⟩,
  ⟨some 2, .p (.mov (T 9)), none⟩]
def zLx : List XO := zLy
theorem xq112_4e : E3 zLx zLy := E3.rfl
def xq112 : XF := ⟨1, [.tmp 2],
  .seq (.ops zLq) (.seq (.block 0 (.loop zLw)) (.seq (.ops zLx) (.ret)))⟩
def yq112 := PLift.up (And.intro (And.intro (@xq112_0e) (@xq112_1e)) (And.intro (@xq112_2e) (@xq112_4e)))
theorem cq112 : zb Try.prog Try.f112 = some xq112 := by kernel_rfl
abbrev zL0 : List XO := [
  ⟨some 2, .p (.mov (C (.string (zB [])))), none⟩]
def zLz : List XO := zL0
theorem xq113_0e : E3 zLz zL0 := E3.rfl
abbrev zL2 : List XO := [
  ⟨some 5, .p (.mov (T 0)), none⟩,
  ⟨some 6, .p (.lenV (T 5)), none⟩,
  ⟨some 7, .p (.cint .u64 (T 6)), none⟩,
  ⟨some 8, .call (.func 40) [(T 7), (C (.int .i64 1))], none⟩,
  ⟨some 3, .p (.mov (T 8)), none⟩]
def zL1 : List XO := zL2
theorem xq113_1e : E3 zL1 zL2 := E3.rfl
abbrev zL4 : List XO := [
  ⟨some 4, .p (.mov (C (.int .i64 0))), none⟩]
def zL3 : List XO := zL4
theorem xq113_2e : E3 zL3 zL4 := E3.rfl
abbrev zL6 : List XO := [
  ⟨some 9, .p (.mov (T 4)), none⟩,
  ⟨some 10, .p (.mov (T 0)), none⟩,
  ⟨some 11, .p (.lenV (T 10)), none⟩,
  ⟨some 12, .p (.bin .lss (T 9) (T 11)), none⟩]
def zL5 : List XO := zL6
theorem xq113_3e : E3 zL5 zL6 := E3.rfl
abbrev zL8 : List XO := [
  ⟨some 15, .p (.mov (T 3)), none⟩,
  ⟨some 16, .p (.mov (T 0)), none⟩,
  ⟨some 17, .p (.mov (T 4)), none⟩,
  ⟨some 18, .p (.iaddrS 1 (T 16) (T 17)), none⟩,
  ⟨some 19, .r (.load1 (T 18)), none⟩,
  ⟨some 20, .p (.cint .u64 (T 19)), none⟩,
  ⟨some 21, .call (.func 40) [(T 20), (C (.int .i64 1))], none⟩,
  ⟨some 22, .p (.bin .add (T 15) (T 21)), none⟩,
  ⟨some 3, .p (.mov (T 22)), none⟩]
def zL7 : List XO := zL8
theorem xq113_4e : E3 zL7 zL8 := E3.rfl
abbrev zMA : List XO := [
  ⟨some 13, .p (.mov (T 4)), none⟩,
  ⟨some 14, .p (.bin .add (T 13) (C (.int .i64 1))), none⟩,
  ⟨some 4, .p (.mov (T 14)), none⟩]
def zL9 : List XO := zMA
theorem xq113_5e : E3 zL9 zMA := E3.rfl
def zHX : XC :=
  .seq (.seq (.ops zL5) (.cond (T 12) (.skip) (.exit 0))) (.seq (.block 1 (.ops zL7)) (.ops zL9))
def zMB : XC := zHX
theorem xq113_6k {pr : Prog} {k : List KI} {Q : XE → Fr → Heap → Prop} {t : Fr} {h : Heap} (hw : wpk pr zHX k Q t h) : wpk pr zMB k Q t h := hw
abbrev zMD : List XO := [
  ⟨some 23, .p (.mov (T 3)), none⟩,
  ⟨some 2, .p (.mov (T 23)), none⟩]
def zMC : List XO := zMD
theorem xq113_7e : E3 zMC zMD := E3.rfl
def xq113 : XF := ⟨1, [.tmp 2],
  .seq (.ops zLz) (.seq (.ops zL1) (.seq (.seq (.ops zL3) (.block 0 (.loop zMB))) (.seq (.ops zMC) (.ret))))⟩
def yq113 := PLift.up (And.intro (And.intro (@xq113_0e) (And.intro (@xq113_1e) (@xq113_2e))) (And.intro (And.intro (@xq113_3e) (@xq113_4e)) (And.intro (@xq113_5e) (@xq113_7e))))
theorem cq113 : zb Try.prog Try.f113 = some xq113 := by kernel_rfl
abbrev zTv : List XO := [
  ⟨some 1, .a (.box (T 0)), none⟩,
  ⟨some 2, .p (.mov (C (.string (zB [])))), none⟩]
def xq96_0 : List XO := zTv
theorem xq96_0e : E3 xq96_0 zTv := E3.rfl
abbrev zTw : List XO := [
  ⟨some 3, .p (.faddr 0 (T 1)), none⟩,
  ⟨some 4, .r (.load1 (T 3)), none⟩,
  ⟨some 5, .call (.func 40) [(T 4), (C (.int .i64 8))], none⟩,
  ⟨some 6, .p (.faddr 1 (T 1)), none⟩,
  ⟨some 7, .r (.load1 (T 6)), none⟩,
  ⟨some 8, .call (.func 112) [(T 7)], none⟩,
  ⟨some 9, .p (.bin .add (T 5) (T 8)), none⟩,
  ⟨some 10, .p (.faddr 2 (T 1)), none⟩,
  ⟨some 11, .r (.load1 (T 10)), none⟩,
  ⟨some 12, .call (.func 112) [(T 11)], none⟩,
  ⟨some 13, .p (.bin .add (T 9) (T 12)), none⟩,
  ⟨some 14, .p (.faddr 3 (T 1)), none⟩,
  ⟨some 15, .r (.load1 (T 14)), none⟩,
  ⟨some 16, .call (.func 112) [(T 15)], none⟩,
  ⟨some 17, .p (.bin .add (T 13) (T 16)), none⟩,
  ⟨some 18, .p (.faddr 4 (T 1)), none⟩,
  ⟨some 19, .r (.load1 (T 18)), none⟩,
  ⟨some 20, .call (.func 113) [(T 19)], none⟩,
  ⟨some 21, .p (.bin .add (T 17) (T 20)), none⟩,
  ⟨some 2, .p (.mov (T 21)), none⟩]
def xq96_1 : List XO := zTw
theorem xq96_1e : E3 xq96_1 zTw := E3.rfl
def xq96 : XF := ⟨1, [.tmp 2],
  .seq (.ops xq96_0) (.seq (.draw xq96_1 [(4, (2, [])), (8, (2, [])), (8, (5, [])), (12, (2, [])), (12, (5, [])), (12, (9, [])), (16, (2, [])), (16, (5, [])), (16, (9, [])), (16, (13, []))]) (.ret))⟩
def yq96 := PLift.up (And.intro (@xq96_0e) (@xq96_1e))
theorem cq96 : zb Try.prog Try.f96 = some xq96 := by kernel_rfl
abbrev zSP : List XO := [
  ⟨some 1, .a (.box (T 0)), none⟩,
  ⟨some 2, .p (.mov (C (.string (zB [])))), none⟩]
def xq77_0 : List XO := zSP
theorem xq77_0e : E3 xq77_0 zSP := E3.rfl
abbrev zSQ : List XO := [
  ⟨some 3, .r (.loadN 5 (T 1)), none⟩,
  ⟨some 4, .call (.func 96) [(T 3)], none⟩,
  ⟨some 5, .a (.bslice [(.string (zB []))] 1 [(0, 1, (T 4))]), none⟩,
  ⟨some 6, .call (.func 28) [(C (.int .u8 72)), (T 5)], none⟩,
  ⟨some 2, .p (.mov (T 6)), none⟩]
def xq77_1 : List XO := zSQ
theorem xq77_1e : E3 xq77_1 zSQ := E3.rfl
def xq77 : XF := ⟨1, [.tmp 2],
  .seq (.ops xq77_0) (.seq (.ops xq77_1) (.ret))⟩
def yq77 := PLift.up (And.intro (@xq77_0e) (@xq77_1e))
theorem cq77 : zb Try.prog Try.f77 = some xq77 := by kernel_rfl
abbrev zSR : List XO := [
  ⟨some 1, .a (.box (T 0)), none⟩,
  ⟨some 2, .a (.alloc [(.int .u64 0), (.string (zB [])), (.string (zB [])), (.string (zB [])), (.slice none 0 0)]), none⟩]
def xq78_0 : List XO := zSR
theorem xq78_0e : E3 xq78_0 zSR := E3.rfl
abbrev zSS : List XO := [
  ⟨some 3, .p (.faddr 0 (T 1)), none⟩,
  ⟨some 4, .r (.load1 (T 3)), none⟩,
  ⟨some 5, .p (.faddr 1 (T 1)), none⟩,
  ⟨some 6, .r (.load1 (T 5)), none⟩,
  ⟨some 7, .p (.faddr 2 (T 1)), none⟩,
  ⟨some 8, .r (.load1 (T 7)), none⟩,
  ⟨some 9, .p (.faddr 3 (T 1)), none⟩,
  ⟨some 10, .r (.load1 (T 9)), none⟩,
  ⟨some 11, .p (.faddr 4 (T 1)), none⟩,
  ⟨some 12, .r (.load1 (T 11)), none⟩,
  ⟨some 13, .p (.build [(.int .u64 0), (.string (zB [])), (.string (zB [])), (.string (zB [])), (.slice none 0 0)] [(0, 1, (T 4)), (1, 1, (T 6)), (2, 1, (T 8)), (3, 1, (T 10)), (4, 1, (T 12))]), none⟩,
  ⟨none, .e (.store 5 (T 2) (T 13)), none⟩]
def xq78_1 : List XO := zSS
theorem xq78_1e : E3 xq78_1 zSS := E3.rfl
def xq78 : XF := ⟨1, [.cellN 2 5],
  .seq (.ops xq78_0) (.seq (.ops xq78_1) (.ret))⟩
def yq78 := PLift.up (And.intro (@xq78_0e) (@xq78_1e))
theorem cq78 : zb Try.prog Try.f78 = some xq78 := by kernel_rfl
abbrev zNN : List XO := [
  ⟨some 6, .p (.mov (C (.bool false))), none⟩]
def xq13_0 : List XO := zNN
theorem xq13_0e : E3 xq13_0 zNN := E3.rfl
abbrev zNh : List XO := [
  ⟨some 19, .call (.func 44) [], none⟩,
  ⟨some 20, .p (.un .not (T 19)), none⟩,
  ⟨some 21, .p (.mov (T 20)), none⟩,
  ⟨some 22, .p (.mov (T 2)), some (21, false)⟩,
  ⟨some 23, .p (.lenV (T 22)), some (21, false)⟩,
  ⟨some 24, .p (.bin .gtr (T 23) (C (.int .i64 40))), some (21, false)⟩,
  ⟨some 25, .p (.pick (T 21) (C (.bool true)) (T 24)), none⟩]
def xq13_1 : List XO := zNh
theorem xq13_1e : E3 xq13_1 zNh := E3.rfl
abbrev zNt : List XO := [
  ⟨some 26, .call (.func 44) [], none⟩,
  ⟨some 6, .p (.mov (T 26)), none⟩]
def xq13_2 : List XO := zNt
theorem xq13_2e : E3 xq13_2 zNt := E3.rfl
abbrev zNu : List XO := [
  ⟨some 27, .p (.mov (T 0)), none⟩,
  ⟨some 28, .p (.bin .and (T 27) (C (.int .i64 65535))), none⟩,
  ⟨some 29, .call (.func 47) [(T 28)], none⟩,
  ⟨some 7, .p (.mov (T 29)), none⟩]
def xq13_3 : List XO := zNu
theorem xq13_3e : E3 xq13_3 zNu := E3.rfl
abbrev zNv : List XO := [
  ⟨some 30, .p (.build [(.slice none 0 0)] []), none⟩,
  ⟨some 31, .p (.build [(.slice none 0 0)] []), none⟩,
  ⟨some 8, .a (.alloc [(.slice none 0 0)]), none⟩,
  ⟨some 9, .a (.alloc [(.slice none 0 0)]), none⟩,
  ⟨none, .e (.store 1 (T 8) (T 30)), none⟩,
  ⟨none, .e (.store 1 (T 9) (T 31)), none⟩]
def xq13_4 : List XO := zNv
theorem xq13_4e : E3 xq13_4 zNv := E3.rfl
abbrev zNw : List XO := [
  ⟨some 10, .p (.mov (C (.int .i64 0))), none⟩]
def xq13_5 : List XO := zNw
theorem xq13_5e : E3 xq13_5 zNw := E3.rfl
abbrev zNx : List XO := [
  ⟨some 32, .p (.mov (T 10)), none⟩,
  ⟨some 33, .p (.mov (T 7)), none⟩,
  ⟨some 34, .p (.lenV (T 33)), none⟩,
  ⟨some 35, .p (.bin .lss (T 32) (T 34)), none⟩]
def xq13_6 : List XO := zNx
theorem xq13_6e : E3 xq13_6 zNx := E3.rfl
abbrev zNy : List XO := [
  ⟨some 39, .call (.func 42) [], none⟩,
  ⟨some 40, .p (.mov (T 7)), none⟩,
  ⟨some 41, .p (.mov (T 10)), none⟩,
  ⟨some 42, .p (.iaddrS 1 (T 40) (T 41)), none⟩,
  ⟨some 43, .r (.load1 (T 42)), none⟩,
  ⟨some 44, .p (.mov (T 1)), none⟩,
  ⟨some 45, .call (.func 43) [(T 44)], none⟩,
  ⟨some 46, .call (.func 41) [(T 39), (T 43), (T 45)], none⟩,
  ⟨some 38, .p (.mov (T 46)), none⟩,
  ⟨some 47, .p (.ext (T 38) 0), none⟩,
  ⟨some 48, .p (.ext (T 38) 1), none⟩,
  ⟨some 11, .a (.alloc [(.int .i64 0), (.string (zB []))]), none⟩,
  ⟨none, .e (.store 2 (T 11) (T 47)), none⟩,
  ⟨some 12, .p (.mov (T 48)), none⟩]
def xq13_7 : List XO := zNy
theorem xq13_7e : E3 xq13_7 zNy := E3.rfl
abbrev zNz : List XO := [
  ⟨some 49, .p (.mov (T 12)), none⟩,
  ⟨some 50, .p (.eql true .int (T 49) (C (.int .i64 0))), none⟩]
def xq13_8 : List XO := zNz
theorem xq13_8e : E3 xq13_8 zNz := E3.rfl
abbrev zN0 : List XO := [
  ⟨some 6, .p (.mov (C (.bool false))), none⟩]
def xq13_9 : List XO := zN0
theorem xq13_9e : E3 xq13_9 zN0 := E3.rfl
abbrev zNP : List XO := [
  ⟨some 51, .r (.loadN 1 (T 8)), none⟩,
  ⟨some 52, .r (.loadN 2 (T 11)), none⟩,
  ⟨some 53, .call (.func 48) [(T 51), (T 52)], none⟩,
  ⟨none, .e (.store 1 (T 8) (T 53)), none⟩]
def zNO : List XO := zNP
theorem xq13_10e : E3 zNO zNP := E3.rfl
abbrev zNR : List XO := [
  ⟨some 36, .p (.mov (T 10)), none⟩,
  ⟨some 37, .p (.bin .add (T 36) (C (.int .i64 1))), none⟩,
  ⟨some 10, .p (.mov (T 37)), none⟩]
def zNQ : List XO := zNR
theorem xq13_11e : E3 zNQ zNR := E3.rfl
def zHd : XC :=
  .seq (.seq (.ops xq13_6) (.cond (T 35) (.skip) (.exit 0))) (.seq (.block 1 (.seq (.draw xq13_7 [(4, (0, [])), (4, (7, []))]) (.seq (.seq (.ops xq13_8) (.cond (T 50) (.seq (.ops xq13_9) (.ret)) (.skip))) (.ops zNO)))) (.ops zNQ))
def zNS : XC := zHd
theorem xq13_12k {pr : Prog} {k : List KI} {Q : XE → Fr → Heap → Prop} {t : Fr} {h : Heap} (hw : wpk pr zHd k Q t h) : wpk pr zNS k Q t h := hw
abbrev zNU : List XO := [
  ⟨some 13, .p (.mov (C (.int .i64 0))), none⟩]
def zNT : List XO := zNU
theorem xq13_13e : E3 zNT zNU := E3.rfl
abbrev zNW : List XO := [
  ⟨some 54, .p (.mov (T 13)), none⟩,
  ⟨some 55, .p (.mov (T 2)), none⟩,
  ⟨some 56, .p (.lenV (T 55)), none⟩,
  ⟨some 57, .p (.mov (T 7)), none⟩,
  ⟨some 58, .p (.lenV (T 57)), none⟩,
  ⟨some 59, .p (.bin .add (T 56) (T 58)), none⟩,
  ⟨some 60, .p (.bin .lss (T 54) (T 59)), none⟩,
  ⟨some 61, .p (.mov (T 60)), none⟩,
  ⟨some 62, .p (.mov (T 13)), some (61, true)⟩,
  ⟨some 63, .p (.bin .lss (T 62) (C (.int .i64 60))), some (61, true)⟩,
  ⟨some 64, .p (.pick (T 61) (T 63) (C (.bool false))), none⟩,
  ⟨some 65, .p (.mov (T 64)), none⟩,
  ⟨some 66, .p (.mov (T 7)), some (65, true)⟩,
  ⟨some 67, .p (.lenV (T 66)), some (65, true)⟩,
  ⟨some 68, .p (.bin .gtr (T 67) (C (.int .i64 0))), some (65, true)⟩,
  ⟨some 69, .p (.pick (T 65) (T 68) (C (.bool false))), none⟩]
def zNV : List XO := zNW
theorem xq13_14e : E3 zNV zNW := E3.rfl
abbrev zNY : List XO := [
  ⟨some 72, .p (.mov (T 13)), none⟩,
  ⟨some 73, .p (.mov (T 7)), none⟩,
  ⟨some 74, .p (.lenV (T 73)), none⟩,
  ⟨some 75, .p (.bin .rem (T 72) (T 74)), none⟩,
  ⟨some 14, .p (.mov (T 75)), none⟩]
def zNX : List XO := zNY
theorem xq13_15e : E3 zNX zNY := E3.rfl
abbrev zNa : List XO := [
  ⟨some 76, .p (.mov (T 13)), none⟩,
  ⟨some 77, .p (.mov (T 2)), none⟩,
  ⟨some 78, .p (.lenV (T 77)), none⟩,
  ⟨some 79, .p (.bin .lss (T 76) (T 78)), none⟩]
def zNZ : List XO := zNa
theorem xq13_16e : E3 zNZ zNa := E3.rfl
abbrev zNc : List XO := [
  ⟨some 80, .p (.mov (T 2)), none⟩,
  ⟨some 81, .p (.mov (T 13)), none⟩,
  ⟨some 82, .p (.iaddrS 1 (T 80) (T 81)), none⟩,
  ⟨some 83, .r (.load1 (T 82)), none⟩,
  ⟨some 84, .p (.mov (T 7)), none⟩,
  ⟨some 85, .p (.lenV (T 84)), none⟩,
  ⟨some 86, .p (.bin .rem (T 83) (T 85)), none⟩,
  ⟨some 87, .p (.mov (T 7)), none⟩,
  ⟨some 88, .p (.lenV (T 87)), none⟩,
  ⟨some 89, .p (.bin .add (T 86) (T 88)), none⟩,
  ⟨some 90, .p (.mov (T 7)), none⟩,
  ⟨some 91, .p (.lenV (T 90)), none⟩,
  ⟨some 92, .p (.bin .rem (T 89) (T 91)), none⟩,
  ⟨some 14, .p (.mov (T 92)), none⟩]
def zNb : List XO := zNc
theorem xq13_17e : E3 zNb zNc := E3.rfl
abbrev zNe : List XO := [
  ⟨some 94, .call (.func 42) [], none⟩,
  ⟨some 95, .p (.mov (T 7)), none⟩,
  ⟨some 96, .p (.mov (T 14)), none⟩,
  ⟨some 97, .p (.iaddrS 1 (T 95) (T 96)), none⟩,
  ⟨some 98, .r (.load1 (T 97)), none⟩,
  ⟨some 99, .p (.mov (T 1)), none⟩,
  ⟨some 100, .call (.func 43) [(T 99)], none⟩,
  ⟨some 101, .call (.func 41) [(T 94), (T 98), (T 100)], none⟩,
  ⟨some 93, .p (.mov (T 101)), none⟩,
  ⟨some 102, .p (.ext (T 93) 0), none⟩,
  ⟨some 103, .p (.ext (T 93) 1), none⟩,
  ⟨some 15, .a (.alloc [(.int .i64 0), (.string (zB []))]), none⟩,
  ⟨none, .e (.store 2 (T 15) (T 102)), none⟩,
  ⟨some 16, .p (.mov (T 103)), none⟩]
def zNd : List XO := zNe
theorem xq13_18e : E3 zNd zNe := E3.rfl
abbrev zNg : List XO := [
  ⟨some 104, .r (.loadN 1 (T 9)), none⟩,
  ⟨some 105, .r (.loadN 2 (T 15)), none⟩,
  ⟨some 106, .call (.func 48) [(T 104), (T 105)], none⟩,
  ⟨none, .e (.store 1 (T 9) (T 106)), none⟩]
def zNf : List XO := zNg
theorem xq13_19e : E3 zNf zNg := E3.rfl
abbrev zNj : List XO := [
  ⟨some 70, .p (.mov (T 13)), none⟩,
  ⟨some 71, .p (.bin .add (T 70) (C (.int .i64 1))), none⟩,
  ⟨some 13, .p (.mov (T 71)), none⟩]
def zNi : List XO := zNj
theorem xq13_20e : E3 zNi zNj := E3.rfl
def zHe : XC :=
  .seq (.seq (.ops zNV) (.cond (T 69) (.skip) (.exit 2))) (.seq (.block 3 (.seq (.ops zNX) (.seq (.seq (.ops zNZ) (.cond (T 79) (.ops zNb) (.skip))) (.seq (.draw zNd [(4, (0, [])), (4, (7, []))]) (.ops zNf))))) (.ops zNi))
def zNk : XC := zHe
theorem xq13_21k {pr : Prog} {k : List KI} {Q : XE → Fr → Heap → Prop} {t : Fr} {h : Heap} (hw : wpk pr zHe k Q t h) : wpk pr zNk k Q t h := hw
abbrev zNm : List XO := [
  ⟨some 107, .call (.func 51) [], none⟩,
  ⟨some 108, .call (.func 51) [], none⟩,
  ⟨some 17, .p (.mov (T 107)), none⟩,
  ⟨some 18, .p (.mov (T 108)), none⟩]
def zNl : List XO := zNm
theorem xq13_22e : E3 zNl zNm := E3.rfl
abbrev zNo : List XO := [
  ⟨some 109, .p (.mov (T 17)), none⟩,
  ⟨some 110, .r (.loadN 1 (T 8)), none⟩,
  ⟨some 111, .call (.func 52) [(T 109), (T 110)], none⟩]
def zNn : List XO := zNo
theorem xq13_23e : E3 zNn zNo := E3.rfl
abbrev zNq : List XO := [
  ⟨some 112, .p (.mov (T 18)), none⟩,
  ⟨some 113, .r (.loadN 1 (T 9)), none⟩,
  ⟨some 114, .call (.func 52) [(T 112), (T 113)], none⟩]
def zNp : List XO := zNq
theorem xq13_24e : E3 zNp zNq := E3.rfl
abbrev zNs : List XO := [
  ⟨some 115, .p (.mov (T 17)), none⟩,
  ⟨some 116, .call (.func 53) [(T 115)], none⟩,
  ⟨some 117, .p (.mov (T 18)), none⟩,
  ⟨some 118, .call (.func 53) [(T 117)], none⟩,
  ⟨some 119, .p (.eql false .str (T 116) (T 118)), none⟩,
  ⟨some 6, .p (.mov (T 119)), none⟩]
def zNr : List XO := zNs
theorem xq13_25e : E3 zNr zNs := E3.rfl
def xq13 : XF := ⟨3, [.tmp 6],
  .seq (.ops xq13_0) (.seq (.seq (.ops xq13_1) (.cond (T 25) (.seq (.ops xq13_2) (.ret)) (.skip))) (.seq (.ops xq13_3) (.seq (.ops xq13_4) (.seq (.seq (.ops xq13_5) (.block 0 (.loop zNS))) (.seq (.seq (.ops zNT) (.block 2 (.loop zNk))) (.seq (.ops zNl) (.seq (.ops zNn) (.seq (.ops zNp) (.seq (.ops zNr) (.ret))))))))))⟩
def yq13 := PLift.up (And.intro (And.intro (And.intro (And.intro (@xq13_0e) (And.intro (@xq13_1e) (@xq13_2e))) (And.intro (@xq13_3e) (And.intro (@xq13_4e) (@xq13_5e)))) (And.intro (And.intro (@xq13_6e) (And.intro (@xq13_7e) (@xq13_8e))) (And.intro (@xq13_9e) (And.intro (@xq13_10e) (@xq13_11e))))) (And.intro (And.intro (And.intro (@xq13_13e) (And.intro (@xq13_14e) (@xq13_15e))) (And.intro (@xq13_16e) (And.intro (@xq13_17e) (@xq13_18e)))) (And.intro (And.intro (@xq13_19e) (And.intro (@xq13_20e) (@xq13_22e))) (And.intro (@xq13_23e) (And.intro (@xq13_24e) (@xq13_25e))))))
theorem cq13 : zb Try.prog Try.f13 = some xq13 := by kernel_rfl
end Go.X
end
section
open Go Go.X
namespace Go.X
set_option linter.unusedVariables false
def zDN : List Value → Option (List Int)
  | [] => some []
  | .int .i64 x :: r => if -9223372036854775808 ≤ x ∧ x < 9223372036854775808 then (match zDN r with | some l => some (x :: l) | none => none) else none
  | _ :: _ => none
def z8 (l : List Int) : List Value := l.map fun x => .int .i64 x
theorem zDz (l : List Int) : (z8 l).length = l.length := by simp [z8]
theorem zJc : ∀ {cs : List Value} {l : List Int}, zDN cs = some l → cs = z8 l ∧ ∀ x ∈ l, -9223372036854775808 ≤ x ∧ x < 9223372036854775808
  | [], l, h => by cases h; exact ⟨rfl, by simp⟩
  | c :: cs, l, h => by
    unfold zDN at h
    split at h
    · rename_i heq; cases heq
    · rename_i s r heq
      cases heq
      split at h
      · rename_i hr
        split at h
        · rename_i q hq
          cases h
          obtain ⟨h1, h2⟩ := zJc hq
          refine ⟨by rw [h1]; rfl, fun x hx => ?_⟩
          rcases List.mem_cons.1 hx with rfl | hx
          · exact hr
          · exact h2 x hx
        · cases h
      · cases h
    · cases h
theorem zGQ : ∀ {l : List Int}, (∀ x ∈ l, -9223372036854775808 ≤ x ∧ x < 9223372036854775808) → zDN (z8 l) = some l
  | [], _ => rfl
  | x :: l, h => by
    have := zGQ (l := l) (fun y hy => h y (by simp [hy]))
    unfold z8 at this ⊢
    simp only [List.map_cons, zDN, this]
    rw [if_pos (h x (by simp))]
def zw (h : Heap) : Value → Option (List Int)
  | .slice none n _ => if n = 0 then some [] else none
  | .slice (some a) n _ => if n = 0 then some [] else (match h.loadN a n with | some cs => zDN cs | none => none)
  | _ => none
theorem zEy {h h' : Heap} (wf : HWF h) (g : Grows h h') {v : Value} {l : List Int} (hs : zw h v = some l) : zw h' v = some l := by
  unfold zw at hs ⊢
  split at hs
  · exact hs
  · split at hs
    · rename_i h0; rw [if_pos h0]; exact hs
    · rename_i h0
      rw [if_neg h0]
      split at hs
      · rename_i cs hcs; rw [g.loadN wf hcs]; exact hs
      · cases hs
  · cases hs
theorem zB3 {h : Heap} {v : Value} {l : List Int} (hs : zw h v = some l) : (∀ x ∈ l, -9223372036854775808 ≤ x ∧ x < 9223372036854775808) ∧ ∃ a cap, v = .slice a l.length cap ∧ ∀ i, i < l.length → ∃ B o, (∀ k : IntKind, zAn 1 v (.int k (i : Int)) = some (.pointer (some ⟨B, o, none⟩))) ∧ h.load ⟨B, o, none⟩ = some (.int .i64 (l.getD i 0)) := by
  unfold zw at hs
  split at hs
  · rename_i n c
    split at hs
    · rename_i h0
      cases hs
      subst h0
      exact ⟨by simp, none, c, rfl, fun i hi => by simp at hi⟩
    · cases hs
  · rename_i a n c
    split at hs
    · rename_i h0
      cases hs
      subst h0
      exact ⟨by simp, some a, c, rfl, fun i hi => by simp at hi⟩
    · split at hs
      · rename_i cs hcs
        obtain ⟨rfl, hb⟩ := zJc hs
        have hn : l.length = n := by
          have := zE0 hcs
          rw [zDz] at this
          exact this
        subst hn
        refine ⟨hb, some a, c, rfl, fun i hi => ⟨a.block, a.off + i, fun k => zCM hi, zEI hcs ?_⟩⟩
        simp [z8, List.getElem?_eq_getElem hi, List.getD_eq_getElem?_getD]
      · cases hs
  · cases hs
def zBd (l : List Int) (i : Nat) : Bool := !(decide (l.getD i 0 < 0) || decide (l.getD i 0 ≥ 16) || (decide (0 < i) && decide (l.getD (i - 1) 0 ≥ l.getD i 0)))
def zA0 (l : List Int) : Bool := (List.range l.length).all (zBd l) && decide (1 ≤ l.length)
def zCu : Prim := fun args h => match args with
  | [v] => match zw h v with | some l => if l.length ≤ zU then some (.bool (zA0 l), h) else none | none => none
  | _ => none
theorem zJm {h : Heap} {v : Value} {l : List Int} (hs : zw h v = some l) (hl : l.length ≤ zU) : zCu [v] h = some (.bool (zA0 l), h) := by simp only [zCu, hs, if_pos hl]
theorem zGX {l : List Int} {i : Nat} (hi : i < l.length) (h : zBd l i = false) : zA0 l = false := by
  unfold zA0
  rw [Bool.and_eq_false_iff]
  left
  rw [List.all_eq_false]
  exact ⟨i, by simpa using hi, by simp [h]⟩
theorem zWF {l : List Int} (h : ∀ j, j < l.length → zBd l j = true) : zA0 l = decide (1 ≤ l.length) := by
  unfold zA0
  have : (List.range l.length).all (zBd l) = true := by
    rw [List.all_eq_true]
    intro j hj
    exact h j (by simpa using hj)
  rw [this, Bool.true_and]
theorem zWG (pr : Prog) (h : Heap) (v : Value) (l : List Int) (hs : zw h v = some l) (hl : l.length ≤ zU) : Comes pr xq82 [v] h (.bool (zA0 l)) := by
  apply Comes.of
  unfold xq82
  dsimp only [zc]
  have hr64 : zU = 140737488355328 := rfl
  obtain ⟨hb, a, cap, rfl, hel⟩ := zB3 hs
  (repeat (first | refine zS ?_ | refine zL ?_ | refine zR ?_ | refine zE ?_ | refine zC ?_ | refine zJ ?_ | refine zK ?_ | refine zP ?_ | refine zF ?_ | refine zH ?_ | refine zG ?_ | refine zI (by decide) ?_ | refine zQ ?_ | ((first | refine zD ?_ | refine zN ?_ | refine zT rfl rfl ?_ | refine zO rfl ?_ | refine zM ?_); simp only [yq82.down, zA, lemS.down, lemC.down, Int.reduceBEq, Nat.reduceAdd, Nat.reduceLeDiff, reduceIte, Nat.reduceEqDiff, Int.reduceLT, Int.reduceLE, Int.reduceGT, Int.reduceGE, Int.reduceEq, Int.reduceAdd, Int.reduceSub, Int.reduceMul, reduceCtorEq, lemH.down])))
  refine zo (fun m t g => ∃ i, m = l.length - i ∧ i ≤ l.length ∧ g = h ∧ (∀ j, j < i → zBd l j = true) ∧ t.get 0 = .slice a l.length cap ∧ t.get 5 = .slice a l.length cap ∧ t.get 6 = .int .i64 (l.length : Int) ∧ t.get 7 = .int .i64 (i : Int)) ?_ l.length _ _ ⟨0, rfl, by omega, rfl, by simp, by simp only [yq82.down, zA, lemS.down, lemC.down, Int.reduceBEq, Nat.reduceAdd, Nat.reduceLeDiff, reduceIte, Nat.reduceEqDiff, Int.reduceLT, Int.reduceLE, Int.reduceGT, Int.reduceGE, Int.reduceEq, Int.reduceAdd, Int.reduceSub, Int.reduceMul, reduceCtorEq], by simp only [yq82.down, zA, lemS.down, lemC.down, Int.reduceBEq, Nat.reduceAdd, Nat.reduceLeDiff, reduceIte, Nat.reduceEqDiff, Int.reduceLT, Int.reduceLE, Int.reduceGT, Int.reduceGE, Int.reduceEq, Int.reduceAdd, Int.reduceSub, Int.reduceMul, reduceCtorEq], by simp only [yq82.down, zA, lemS.down, lemC.down, Int.reduceBEq, Nat.reduceAdd, Nat.reduceLeDiff, reduceIte, Nat.reduceEqDiff, Int.reduceLT, Int.reduceLE, Int.reduceGT, Int.reduceGE, Int.reduceEq, Int.reduceAdd, Int.reduceSub, Int.reduceMul, reduceCtorEq], by (simp only [yq82.down, zA, lemS.down, lemC.down, Int.reduceBEq, Nat.reduceAdd, Nat.reduceLeDiff, reduceIte, Nat.reduceEqDiff, Int.reduceLT, Int.reduceLE, Int.reduceGT, Int.reduceGE, Int.reduceEq, Int.reduceAdd, Int.reduceSub, Int.reduceMul, reduceCtorEq]) <;> rfl⟩
  rintro m t g ⟨i, rfl, hi, rfl, hall, t0, t5, t6, t7⟩ hnext
  refine xq82_7k ?_
  dsimp only [zIC]
  (repeat (first | refine zS ?_ | refine zL ?_ | refine zR ?_ | refine zE ?_ | refine zC ?_ | refine zJ ?_ | refine zK ?_ | refine zP ?_ | refine zF ?_ | refine zH ?_ | refine zG ?_ | refine zI (by decide) ?_ | refine zQ ?_ | ((first | refine zD ?_ | refine zN ?_ | refine zT rfl rfl ?_ | refine zO rfl ?_ | refine zM ?_); simp only [yq82.down, zA, lemS.down, lemC.down, Int.reduceBEq, Nat.reduceAdd, Nat.reduceLeDiff, reduceIte, Nat.reduceEqDiff, Int.reduceLT, Int.reduceLE, Int.reduceGT, Int.reduceGE, Int.reduceEq, Int.reduceAdd, Int.reduceSub, Int.reduceMul, reduceCtorEq, lemH.down, t0, t5, t6, t7])))
  refine ⟨fun hlt => ?_, fun hge => ?_⟩
  · have hi' : i < l.length := by omega
    obtain ⟨B, o, ia, ld⟩ := hel i hi'
    have ld : ∀ sp, g.load ⟨B, o, sp⟩ = some (.int .i64 (l.getD i 0)) := fun sp => ld
    have w1 : IntKind.i64.wrap ((i : Int) + 1) = ((i + 1 : Nat) : Int) := by rw [wrap_i64 (by omega) (by omega)]; omega
    have w2 : IntKind.i64.wrap ((i : Int) - 1) = (i : Int) - 1 := by rw [wrap_i64 (by omega) (by omega)]
    have fin := fun (hm : zBd l i = true) (t' : Fr) (s0 : t'.get 0 = .slice a l.length cap) (s5 : t'.get 5 = .slice a l.length cap) (s6 : t'.get 6 = .int .i64 (l.length : Int)) (s7 : t'.get 7 = .int .i64 ((i + 1 : Nat) : Int)) => hnext (l.length - (i + 1)) t' g (by omega) ⟨i + 1, rfl, by omega, rfl, fun j hj => by
      rcases Nat.lt_or_ge j i with h | h
      · exact hall j h
      · obtain rfl : j = i := by omega
        exact hm, s0, s5, s6, s7⟩
    by_cases c1 : l.getD i 0 < 0
    · have d1 : decide (l.getD i 0 < 0) = true := by simpa using c1
      (repeat (first | refine zS ?_ | refine zL ?_ | refine zR ?_ | refine zE ?_ | refine zC ?_ | refine zJ ?_ | refine zK ?_ | refine zP ?_ | refine zF ?_ | refine zH ?_ | refine zG ?_ | refine zI (by decide) ?_ | refine zQ ?_ | ((first | refine zD ?_ | refine zN ?_ | refine zT rfl rfl ?_ | refine zO rfl ?_ | refine zM ?_); simp only [yq82.down, zA, lemS.down, lemC.down, Int.reduceBEq, Nat.reduceAdd, Nat.reduceLeDiff, reduceIte, Nat.reduceEqDiff, Int.reduceLT, Int.reduceLE, Int.reduceGT, Int.reduceGE, Int.reduceEq, Int.reduceAdd, Int.reduceSub, Int.reduceMul, reduceCtorEq, lemH.down, t0, t5, t6, t7, zAG, ia, ld, d1, zAS])))
      refine ⟨.inr rfl, ?_, Grows.refl _⟩
      rw [zGX hi' (by simp only [zBd, d1]; rfl)]
      simp only [yq82.down, zA, lemS.down, lemC.down, Int.reduceBEq, Nat.reduceAdd, Nat.reduceLeDiff, reduceIte, Nat.reduceEqDiff, Int.reduceLT, Int.reduceLE, Int.reduceGT, Int.reduceGE, Int.reduceEq, Int.reduceAdd, Int.reduceSub, Int.reduceMul, reduceCtorEq]
    have d1 : decide (l.getD i 0 < 0) = false := by simpa using c1
    by_cases c2 : l.getD i 0 ≥ 16
    · have d2 : decide (l.getD i 0 ≥ 16) = true := by simpa using c2
      (repeat (first | refine zS ?_ | refine zL ?_ | refine zR ?_ | refine zE ?_ | refine zC ?_ | refine zJ ?_ | refine zK ?_ | refine zP ?_ | refine zF ?_ | refine zH ?_ | refine zG ?_ | refine zI (by decide) ?_ | refine zQ ?_ | ((first | refine zD ?_ | refine zN ?_ | refine zT rfl rfl ?_ | refine zO rfl ?_ | refine zM ?_); simp only [yq82.down, zA, lemS.down, lemC.down, Int.reduceBEq, Nat.reduceAdd, Nat.reduceLeDiff, reduceIte, Nat.reduceEqDiff, Int.reduceLT, Int.reduceLE, Int.reduceGT, Int.reduceGE, Int.reduceEq, Int.reduceAdd, Int.reduceSub, Int.reduceMul, reduceCtorEq, lemH.down, t0, t5, t6, t7, zAG, ia, ld, d1, d2, zAS])))
      refine ⟨.inr rfl, ?_, Grows.refl _⟩
      rw [zGX hi' (by simp only [zBd, d1, d2]; rfl)]
      simp only [yq82.down, zA, lemS.down, lemC.down, Int.reduceBEq, Nat.reduceAdd, Nat.reduceLeDiff, reduceIte, Nat.reduceEqDiff, Int.reduceLT, Int.reduceLE, Int.reduceGT, Int.reduceGE, Int.reduceEq, Int.reduceAdd, Int.reduceSub, Int.reduceMul, reduceCtorEq]
    have d2 : decide (l.getD i 0 ≥ 16) = false := by simp only [ge_iff_le, decide_eq_false_iff_not]; exact c2
    by_cases c3 : 0 < i
    · have d3 : decide ((i : Int) > 0) = true := by simp; omega
      have d3' : decide (0 < i) = true := by simpa using c3
      obtain ⟨B2, o2, ia2, ld2⟩ := hel (i - 1) (by omega)
      have e : ((i - 1 : Nat) : Int) = (i : Int) - 1 := by omega
      rw [e] at ia2
      have ld2 : ∀ sp, g.load ⟨B2, o2, sp⟩ = some (.int .i64 (l.getD (i - 1) 0)) := fun sp => ld2
      cases d4 : decide (l.getD (i - 1) 0 ≥ l.getD i 0)
      · (repeat (first | refine zS ?_ | refine zL ?_ | refine zR ?_ | refine zE ?_ | refine zC ?_ | refine zJ ?_ | refine zK ?_ | refine zP ?_ | refine zF ?_ | refine zH ?_ | refine zG ?_ | refine zI (by decide) ?_ | refine zQ ?_ | ((first | refine zD ?_ | refine zN ?_ | refine zT rfl rfl ?_ | refine zO rfl ?_ | refine zM ?_); simp only [yq82.down, zA, lemS.down, lemC.down, Int.reduceBEq, Nat.reduceAdd, Nat.reduceLeDiff, reduceIte, Nat.reduceEqDiff, Int.reduceLT, Int.reduceLE, Int.reduceGT, Int.reduceGE, Int.reduceEq, Int.reduceAdd, Int.reduceSub, Int.reduceMul, reduceCtorEq, lemH.down, t0, t5, t6, t7, zAG, ia, ld, d1, d2, d3, w2, ia2, ld2, d4, zAS, w1])))
        exact fin (by simp only [zBd, d1, d2, d3', d4]; rfl) _ (by simp only [yq82.down, zA, lemS.down, lemC.down, Int.reduceBEq, Nat.reduceAdd, Nat.reduceLeDiff, reduceIte, Nat.reduceEqDiff, Int.reduceLT, Int.reduceLE, Int.reduceGT, Int.reduceGE, Int.reduceEq, Int.reduceAdd, Int.reduceSub, Int.reduceMul, reduceCtorEq, t0]) (by simp only [yq82.down, zA, lemS.down, lemC.down, Int.reduceBEq, Nat.reduceAdd, Nat.reduceLeDiff, reduceIte, Nat.reduceEqDiff, Int.reduceLT, Int.reduceLE, Int.reduceGT, Int.reduceGE, Int.reduceEq, Int.reduceAdd, Int.reduceSub, Int.reduceMul, reduceCtorEq, t5]) (by simp only [yq82.down, zA, lemS.down, lemC.down, Int.reduceBEq, Nat.reduceAdd, Nat.reduceLeDiff, reduceIte, Nat.reduceEqDiff, Int.reduceLT, Int.reduceLE, Int.reduceGT, Int.reduceGE, Int.reduceEq, Int.reduceAdd, Int.reduceSub, Int.reduceMul, reduceCtorEq, t6]) (by simp only [yq82.down, zA, lemS.down, lemC.down, Int.reduceBEq, Nat.reduceAdd, Nat.reduceLeDiff, reduceIte, Nat.reduceEqDiff, Int.reduceLT, Int.reduceLE, Int.reduceGT, Int.reduceGE, Int.reduceEq, Int.reduceAdd, Int.reduceSub, Int.reduceMul, reduceCtorEq])
      · (repeat (first | refine zS ?_ | refine zL ?_ | refine zR ?_ | refine zE ?_ | refine zC ?_ | refine zJ ?_ | refine zK ?_ | refine zP ?_ | refine zF ?_ | refine zH ?_ | refine zG ?_ | refine zI (by decide) ?_ | refine zQ ?_ | ((first | refine zD ?_ | refine zN ?_ | refine zT rfl rfl ?_ | refine zO rfl ?_ | refine zM ?_); simp only [yq82.down, zA, lemS.down, lemC.down, Int.reduceBEq, Nat.reduceAdd, Nat.reduceLeDiff, reduceIte, Nat.reduceEqDiff, Int.reduceLT, Int.reduceLE, Int.reduceGT, Int.reduceGE, Int.reduceEq, Int.reduceAdd, Int.reduceSub, Int.reduceMul, reduceCtorEq, lemH.down, t0, t5, t6, t7, zAG, ia, ld, d1, d2, d3, w2, ia2, ld2, d4, zAS])))
        refine ⟨.inr rfl, ?_, Grows.refl _⟩
        rw [zGX hi' (by simp only [zBd, d1, d2, d3', d4]; rfl)]
        simp only [yq82.down, zA, lemS.down, lemC.down, Int.reduceBEq, Nat.reduceAdd, Nat.reduceLeDiff, reduceIte, Nat.reduceEqDiff, Int.reduceLT, Int.reduceLE, Int.reduceGT, Int.reduceGE, Int.reduceEq, Int.reduceAdd, Int.reduceSub, Int.reduceMul, reduceCtorEq]
    · have d3 : decide ((i : Int) > 0) = false := by simp; omega
      have d3' : decide (0 < i) = false := by simpa using c3
      (repeat (first | refine zS ?_ | refine zL ?_ | refine zR ?_ | refine zE ?_ | refine zC ?_ | refine zJ ?_ | refine zK ?_ | refine zP ?_ | refine zF ?_ | refine zH ?_ | refine zG ?_ | refine zI (by decide) ?_ | refine zQ ?_ | ((first | refine zD ?_ | refine zN ?_ | refine zT rfl rfl ?_ | refine zO rfl ?_ | refine zM ?_); simp only [yq82.down, zA, lemS.down, lemC.down, Int.reduceBEq, Nat.reduceAdd, Nat.reduceLeDiff, reduceIte, Nat.reduceEqDiff, Int.reduceLT, Int.reduceLE, Int.reduceGT, Int.reduceGE, Int.reduceEq, Int.reduceAdd, Int.reduceSub, Int.reduceMul, reduceCtorEq, lemH.down, t0, t5, t6, t7, zAG, ia, ld, d1, d2, d3, zAS, w1])))
      exact fin (by simp only [zBd, d1, d2, d3']; rfl) _ (by simp only [yq82.down, zA, lemS.down, lemC.down, Int.reduceBEq, Nat.reduceAdd, Nat.reduceLeDiff, reduceIte, Nat.reduceEqDiff, Int.reduceLT, Int.reduceLE, Int.reduceGT, Int.reduceGE, Int.reduceEq, Int.reduceAdd, Int.reduceSub, Int.reduceMul, reduceCtorEq, t0]) (by simp only [yq82.down, zA, lemS.down, lemC.down, Int.reduceBEq, Nat.reduceAdd, Nat.reduceLeDiff, reduceIte, Nat.reduceEqDiff, Int.reduceLT, Int.reduceLE, Int.reduceGT, Int.reduceGE, Int.reduceEq, Int.reduceAdd, Int.reduceSub, Int.reduceMul, reduceCtorEq, t5]) (by simp only [yq82.down, zA, lemS.down, lemC.down, Int.reduceBEq, Nat.reduceAdd, Nat.reduceLeDiff, reduceIte, Nat.reduceEqDiff, Int.reduceLT, Int.reduceLE, Int.reduceGT, Int.reduceGE, Int.reduceEq, Int.reduceAdd, Int.reduceSub, Int.reduceMul, reduceCtorEq, t6]) (by simp only [yq82.down, zA, lemS.down, lemC.down, Int.reduceBEq, Nat.reduceAdd, Nat.reduceLeDiff, reduceIte, Nat.reduceEqDiff, Int.reduceLT, Int.reduceLE, Int.reduceGT, Int.reduceGE, Int.reduceEq, Int.reduceAdd, Int.reduceSub, Int.reduceMul, reduceCtorEq])
  · obtain rfl : i = l.length := by omega
    have d5 : decide ((l.length : Int) ≥ 1) = decide (1 ≤ l.length) := by rw [Bool.eq_iff_iff]; simp; omega
    (repeat (first | refine zS ?_ | refine zL ?_ | refine zR ?_ | refine zE ?_ | refine zC ?_ | refine zJ ?_ | refine zK ?_ | refine zP ?_ | refine zF ?_ | refine zH ?_ | refine zG ?_ | refine zI (by decide) ?_ | refine zQ ?_ | ((first | refine zD ?_ | refine zN ?_ | refine zT rfl rfl ?_ | refine zO rfl ?_ | refine zM ?_); simp only [yq82.down, zA, lemS.down, lemC.down, Int.reduceBEq, Nat.reduceAdd, Nat.reduceLeDiff, reduceIte, Nat.reduceEqDiff, Int.reduceLT, Int.reduceLE, Int.reduceGT, Int.reduceGE, Int.reduceEq, Int.reduceAdd, Int.reduceSub, Int.reduceMul, reduceCtorEq, lemH.down, t0, t5, t6, t7, d5])))
    refine ⟨.inr rfl, ?_, Grows.refl _⟩
    rw [zWF hall]
    simp only [yq82.down, zA, lemS.down, lemC.down, Int.reduceBEq, Nat.reduceAdd, Nat.reduceLeDiff, reduceIte, Nat.reduceEqDiff, Int.reduceLT, Int.reduceLE, Int.reduceGT, Int.reduceGE, Int.reduceEq, Int.reduceAdd, Int.reduceSub, Int.reduceMul, reduceCtorEq]
end Go.X
end
section
open Go Go.X
namespace Go.X
set_option linter.unusedVariables false
structure Hdr where
  n : Nat
  p : List UInt8
  t : List UInt8
  s : List UInt8
  m : List Int
def zd (x : Hdr) (mv : Value) : List Value := [.int .u64 (x.n : Int), .string (zB x.p), .string (zB x.t), .string (zB x.s), mv]
def HdAt (h : Heap) (x : Hdr) (mv : Value) : Prop := x.n < 18446744073709551616 ∧ zw h mv = some x.m ∧ x.m.length ≤ 1000000 ∧ x.p.length + 10000000 ≤ zU ∧ x.t.length + 10000000 ≤ zU ∧ x.s.length + 10000000 ≤ zU
theorem HdAt.grow {h h' : Heap} {x : Hdr} {mv : Value} (hx : HdAt h x mv) (wf : HWF h) (g : Grows h h') : HdAt h' x mv := ⟨hx.1, zEy wf g hx.2.1, hx.2.2⟩
def hdrL (h : Heap) : List Value → Option (Hdr × Value)
  | [.int .u64 n, .string p, .string t, .string s, mv] => match zw h mv with
    | some m => if 0 ≤ n ∧ n < 18446744073709551616 ∧ m.length ≤ 1000000 ∧ p.data.toList.length + 10000000 ≤ zU ∧ t.data.toList.length + 10000000 ≤ zU ∧ s.data.toList.length + 10000000 ≤ zU then some (⟨n.toNat, p.data.toList, t.data.toList, s.data.toList, m⟩, mv) else none
    | none => none
  | _ => none
theorem hdrL_eq {h : Heap} {l : List Value} {x : Hdr} {mv : Value} (hl : hdrL h l = some (x, mv)) : l = zd x mv ∧ HdAt h x mv := by
  unfold hdrL at hl
  split at hl
  · rename_i n p t s v
    split at hl
    · rename_i m hm
      split at hl
      · rename_i hc
        cases hl
        refine ⟨?_, by show n.toNat < _; omega, hm, hc.2.2.1, hc.2.2.2.1, hc.2.2.2.2.1, hc.2.2.2.2.2⟩
        simp only [zd, zCZ]
        rw [show ((n.toNat : Nat) : Int) = n by omega]
      · cases hl
    · cases hl
  · cases hl
theorem zCp {h : Heap} {x : Hdr} {mv : Value} (hx : HdAt h x mv) : hdrL h (zd x mv) = some (x, mv) := by
  obtain ⟨h1, h2, h3, h4, h5, h6⟩ := hx
  simp only [hdrL, zd, h2, zAh]
  rw [if_pos ⟨by omega, by omega, h3, h4, h5, h6⟩]
  simp
theorem zBw {h : Heap} {c : Array Value} {x : Hdr} {mv : Value} (hl : hdrL h c.toList = some (x, mv)) : Value.agg c = .agg (zd x mv).toArray ∧ HdAt h x mv := by
  obtain ⟨h1, h2⟩ := hdrL_eq hl
  exact ⟨by rw [← h1], h2⟩
theorem zV6 {h : Heap} {v : Value} {l : List Int} (hs : zw h v = some l) : cellsOf v = [v] ∧ oneC v = true := by
  obtain ⟨_, a, cap, rfl, _⟩ := zB3 hs
  exact ⟨rfl, rfl⟩
def zAP (x : Hdr) : Nat := if x.n < 1 ∨ x.p.length ≠ 32 ∨ x.t.length ≠ 32 ∨ x.s.length ≠ 32 ∨ zA0 x.m = false then 80 else 0
def zCK : Prim := fun args h => match args with
  | [.agg c] => match hdrL h c.toList with | some (x, _) => some (.int .i64 (zAP x : Int), h) | none => none
  | _ => none
theorem zGM {h : Heap} {x : Hdr} {mv : Value} (hx : HdAt h x mv) : zCK [.agg (zd x mv).toArray] h = some (.int .i64 (zAP x : Int), h) := by
  simp only [zCK, zCp hx]
theorem zAY {x : Hdr} {mv : Value} : cellsOf (.agg (zd x mv).toArray) = zd x mv := by simp [cellsOf]
theorem zBk {h : Heap} {x : Hdr} {mv : Value} (hx : HdAt h x mv) (wf : HWF h) : ∃ g, h.new (zd x mv) = g ∧ Grows h g ∧ HdAt g x mv ∧ (∀ sp, g.loadN ⟨h.next, 0, sp⟩ 5 = some (zd x mv)) ∧ (∀ sp, g.load ⟨h.next, 0, sp⟩ = some (.int .u64 (x.n : Int))) ∧ (∀ sp, g.load ⟨h.next, 1, sp⟩ = some (.string (zB x.p))) ∧
    (∀ sp, g.load ⟨h.next, 2, sp⟩ = some (.string (zB x.t))) ∧ (∀ sp, g.load ⟨h.next, 3, sp⟩ = some (.string (zB x.s))) ∧ (∀ sp, g.load ⟨h.next, 4, sp⟩ = some mv) := by
  have hv : Var (h.new (zd x mv)) h.next (zd x mv) := Var.new_self
  exact ⟨_, rfl, Grows.new, hx.grow wf Grows.new, fun sp => hv.loadAll rfl, fun sp => hv.load, fun sp => hv.load, fun sp => hv.load, fun sp => hv.load, fun sp => hv.load⟩
theorem zVt (pr : Prog) (hm : pr.prim 82 = some zCu) (h : Heap) (wf : HWF h) (x : Hdr) (mv : Value) (hx : HdAt h x mv) : Comes pr xq75 [.agg (zd x mv).toArray] h (.int .i64 (zAP x : Int)) := by
  apply Comes.of
  unfold xq75
  dsimp only [zc]
  have hr64 : zU = 140737488355328 := rfl
  obtain ⟨g, hg, gg, gx, lN, l0, l1, l2, l3, l4⟩ := zBk hx wf
  have cm := zq hm (zJm gx.2.1 (by have := gx.2.2.1; omega))
  have hne : ∀ {l : List UInt8}, l.length = 32 → ((l.length : Int) == 32) = true := fun {l} h => by rw [h]; rfl
  have hnf : ∀ {l : List UInt8}, ¬ l.length = 32 → ((l.length : Int) == 32) = false := fun {l} h => by rw [beq_eq_false_iff_ne]; omega
  unfold zAP
  by_cases c0 : x.n < 1
  · have d0 : decide ((x.n : Int) < 1) = true := by simp; omega
    rw [if_pos (.inl c0)]
    (repeat (first | refine zS ?_ | refine zL ?_ | refine zR ?_ | refine zE ?_ | refine zC ?_ | refine zJ ?_ | refine zK ?_ | refine zP ?_ | refine zF ?_ | refine zH ?_ | refine zG ?_ | refine zI (by decide) ?_ | refine zQ ?_ | ((first | refine zD ?_ | refine zN ?_ | refine zT rfl rfl ?_ | refine zO rfl ?_ | refine zM ?_); simp only [yq75.down, zA, lemS.down, lemC.down, Int.reduceBEq, Nat.reduceAdd, Nat.reduceLeDiff, reduceIte, Nat.reduceEqDiff, Int.reduceLT, Int.reduceLE, Int.reduceGT, Int.reduceGE, Int.reduceEq, Int.reduceAdd, Int.reduceSub, Int.reduceMul, reduceCtorEq, lemH.down, zAY, hg, l0, l1, l2, l3, l4, d0, zAS])))
    exact ⟨.inr rfl, by (simp only [yq75.down, zA, lemS.down, lemC.down, Int.reduceBEq, Nat.reduceAdd, Nat.reduceLeDiff, reduceIte, Nat.reduceEqDiff, Int.reduceLT, Int.reduceLE, Int.reduceGT, Int.reduceGE, Int.reduceEq, Int.reduceAdd, Int.reduceSub, Int.reduceMul, reduceCtorEq]) <;> rfl, gg⟩
  have d0 : decide ((x.n : Int) < 1) = false := by simp; omega
  by_cases c1 : x.p.length = 32
  · have d1 := hne c1
    by_cases c2 : x.t.length = 32
    · have d2 := hne c2
      by_cases c3 : x.s.length = 32
      · have d3 := hne c3
        cases c4 : zA0 x.m
        · rw [if_pos (.inr (.inr (.inr (.inr rfl))))]
          rw [c4] at cm
          (repeat (first | refine zS ?_ | refine zL ?_ | refine zR ?_ | refine zE ?_ | refine zC ?_ | refine zJ ?_ | refine zK ?_ | refine zP ?_ | refine zF ?_ | refine zH ?_ | refine zG ?_ | refine zI (by decide) ?_ | refine zQ ?_ | ((first | refine zD ?_ | refine zN ?_ | refine zT rfl rfl ?_ | refine zO rfl ?_ | refine zM ?_); simp only [yq75.down, zA, lemS.down, lemC.down, Int.reduceBEq, Nat.reduceAdd, Nat.reduceLeDiff, reduceIte, Nat.reduceEqDiff, Int.reduceLT, Int.reduceLE, Int.reduceGT, Int.reduceGE, Int.reduceEq, Int.reduceAdd, Int.reduceSub, Int.reduceMul, reduceCtorEq, lemH.down, zAY, hg, l0, l1, l2, l3, l4, d0, d1, d2, d3, cm, zAS])))
          exact ⟨.inr rfl, by (simp only [yq75.down, zA, lemS.down, lemC.down, Int.reduceBEq, Nat.reduceAdd, Nat.reduceLeDiff, reduceIte, Nat.reduceEqDiff, Int.reduceLT, Int.reduceLE, Int.reduceGT, Int.reduceGE, Int.reduceEq, Int.reduceAdd, Int.reduceSub, Int.reduceMul, reduceCtorEq]) <;> rfl, gg⟩
        · rw [if_neg (by simp [c0, c1, c2, c3])]
          rw [c4] at cm
          (repeat (first | refine zS ?_ | refine zL ?_ | refine zR ?_ | refine zE ?_ | refine zC ?_ | refine zJ ?_ | refine zK ?_ | refine zP ?_ | refine zF ?_ | refine zH ?_ | refine zG ?_ | refine zI (by decide) ?_ | refine zQ ?_ | ((first | refine zD ?_ | refine zN ?_ | refine zT rfl rfl ?_ | refine zO rfl ?_ | refine zM ?_); simp only [yq75.down, zA, lemS.down, lemC.down, Int.reduceBEq, Nat.reduceAdd, Nat.reduceLeDiff, reduceIte, Nat.reduceEqDiff, Int.reduceLT, Int.reduceLE, Int.reduceGT, Int.reduceGE, Int.reduceEq, Int.reduceAdd, Int.reduceSub, Int.reduceMul, reduceCtorEq, lemH.down, zAY, hg, l0, l1, l2, l3, l4, d0, d1, d2, d3, cm, zAS])))
          exact ⟨.inr rfl, by (simp only [yq75.down, zA, lemS.down, lemC.down, Int.reduceBEq, Nat.reduceAdd, Nat.reduceLeDiff, reduceIte, Nat.reduceEqDiff, Int.reduceLT, Int.reduceLE, Int.reduceGT, Int.reduceGE, Int.reduceEq, Int.reduceAdd, Int.reduceSub, Int.reduceMul, reduceCtorEq]) <;> rfl, gg⟩
      · have d3 := hnf c3
        rw [if_pos (.inr (.inr (.inr (.inl c3))))]
        (repeat (first | refine zS ?_ | refine zL ?_ | refine zR ?_ | refine zE ?_ | refine zC ?_ | refine zJ ?_ | refine zK ?_ | refine zP ?_ | refine zF ?_ | refine zH ?_ | refine zG ?_ | refine zI (by decide) ?_ | refine zQ ?_ | ((first | refine zD ?_ | refine zN ?_ | refine zT rfl rfl ?_ | refine zO rfl ?_ | refine zM ?_); simp only [yq75.down, zA, lemS.down, lemC.down, Int.reduceBEq, Nat.reduceAdd, Nat.reduceLeDiff, reduceIte, Nat.reduceEqDiff, Int.reduceLT, Int.reduceLE, Int.reduceGT, Int.reduceGE, Int.reduceEq, Int.reduceAdd, Int.reduceSub, Int.reduceMul, reduceCtorEq, lemH.down, zAY, hg, l0, l1, l2, l3, l4, d0, d1, d2, d3, zAS])))
        exact ⟨.inr rfl, by (simp only [yq75.down, zA, lemS.down, lemC.down, Int.reduceBEq, Nat.reduceAdd, Nat.reduceLeDiff, reduceIte, Nat.reduceEqDiff, Int.reduceLT, Int.reduceLE, Int.reduceGT, Int.reduceGE, Int.reduceEq, Int.reduceAdd, Int.reduceSub, Int.reduceMul, reduceCtorEq]) <;> rfl, gg⟩
    · have d2 := hnf c2
      rw [if_pos (.inr (.inr (.inl c2)))]
      (repeat (first | refine zS ?_ | refine zL ?_ | refine zR ?_ | refine zE ?_ | refine zC ?_ | refine zJ ?_ | refine zK ?_ | refine zP ?_ | refine zF ?_ | refine zH ?_ | refine zG ?_ | refine zI (by decide) ?_ | refine zQ ?_ | ((first | refine zD ?_ | refine zN ?_ | refine zT rfl rfl ?_ | refine zO rfl ?_ | refine zM ?_); simp only [yq75.down, zA, lemS.down, lemC.down, Int.reduceBEq, Nat.reduceAdd, Nat.reduceLeDiff, reduceIte, Nat.reduceEqDiff, Int.reduceLT, Int.reduceLE, Int.reduceGT, Int.reduceGE, Int.reduceEq, Int.reduceAdd, Int.reduceSub, Int.reduceMul, reduceCtorEq, lemH.down, zAY, hg, l0, l1, l2, l3, l4, d0, d1, d2, zAS])))
      exact ⟨.inr rfl, by (simp only [yq75.down, zA, lemS.down, lemC.down, Int.reduceBEq, Nat.reduceAdd, Nat.reduceLeDiff, reduceIte, Nat.reduceEqDiff, Int.reduceLT, Int.reduceLE, Int.reduceGT, Int.reduceGE, Int.reduceEq, Int.reduceAdd, Int.reduceSub, Int.reduceMul, reduceCtorEq]) <;> rfl, gg⟩
  · have d1 := hnf c1
    rw [if_pos (.inr (.inl c1))]
    (repeat (first | refine zS ?_ | refine zL ?_ | refine zR ?_ | refine zE ?_ | refine zC ?_ | refine zJ ?_ | refine zK ?_ | refine zP ?_ | refine zF ?_ | refine zH ?_ | refine zG ?_ | refine zI (by decide) ?_ | refine zQ ?_ | ((first | refine zD ?_ | refine zN ?_ | refine zT rfl rfl ?_ | refine zO rfl ?_ | refine zM ?_); simp only [yq75.down, zA, lemS.down, lemC.down, Int.reduceBEq, Nat.reduceAdd, Nat.reduceLeDiff, reduceIte, Nat.reduceEqDiff, Int.reduceLT, Int.reduceLE, Int.reduceGT, Int.reduceGE, Int.reduceEq, Int.reduceAdd, Int.reduceSub, Int.reduceMul, reduceCtorEq, lemH.down, zAY, hg, l0, l1, l2, l3, l4, d0, d1, zAS])))
    exact ⟨.inr rfl, by (simp only [yq75.down, zA, lemS.down, lemC.down, Int.reduceBEq, Nat.reduceAdd, Nat.reduceLeDiff, reduceIte, Nat.reduceEqDiff, Int.reduceLT, Int.reduceLE, Int.reduceGT, Int.reduceGE, Int.reduceEq, Int.reduceAdd, Int.reduceSub, Int.reduceMul, reduceCtorEq]) <;> rfl, gg⟩
end Go.X
end
section
open Go Go.X
namespace Go.X
set_option linter.unusedVariables false
def w64 (m : Int) : Nat := (m % 18446744073709551616).toNat
theorem zFW (m : Int) : w64 m < 18446744073709551616 := by unfold w64; omega
theorem zF5 (m : Int) : zAm .u64 (.int .i64 m) = some (uw .u64 (w64 m)) := by
  rw [zA, ← zBP (zFW m)]
  congr 2
  unfold w64
  have : IntKind.u64.wrap m = m % 18446744073709551616 := by
    simp [IntKind.wrap, IntKind.signed, IntKind.bits]
  rw [this]
  omega
def zBN (l : List Int) : List UInt8 := l.flatMap fun m => numB (w64 m) 1
def zBn (l : List Int) : List UInt8 := numB l.length 1 ++ zBN l
theorem zE3 (l : List Int) : (zBN l).length = l.length := by
  induction l with
  | nil => rfl
  | cons x l ih => unfold zBN at ih ⊢; simp only [List.flatMap_cons, List.length_append, zAQ, ih, List.length_cons]; omega
theorem zJn {l : List Int} {i : Nat} (hi : i < l.length) : zBN (l.take (i + 1)) = zBN (l.take i) ++ numB (w64 (l.getD i 0)) 1 := by
  unfold zBN
  rw [List.take_succ_eq_append_getElem hi, List.flatMap_append, List.flatMap_cons, List.flatMap_nil, List.append_nil]
  simp [List.getD_eq_getElem?_getD, List.getElem?_eq_getElem hi]
structure zCc (pr : Prog) : Prop where
  wire : zBi pr
  mem : pr.prim 82 = some zCu
  chk : pr.prim 75 = some zCK
  pm : pr.prim 124 = none
  pmC : pr.code 124 = some xq124
  put : pr.prim 111 = none
  putC : pr.code 111 = some xq111
theorem zUR {pr : Prog} (T : zBi pr) (hp : pr.prim 124 = none) (hc : pr.code 124 = some xq124) {h0 h : Heap} (wf : HWF h0) (hg : Grows h0 h) {W : Nat} {S : Nat → Prop} {b : List UInt8} (hS0 : ∀ A, A < h0.next → ¬ S A) (hw : WrS h W S b) (hS : ∀ A, h.next ≤ A → S A) {mv : Value} {l : List Int} (hs : zw h0 mv = some l) (hl : l.length ≤ 1000000) (hroom : b.length + 2000000 ≤ zU) :
    ∃ h', cfi pr 124 [.pointer (some ⟨W, 0, none⟩), mv] h = some (.tuple #[], h') ∧ WrS h' W S (b ++ zBn l) ∧ Keeps S h h' := by
  have hr64 : zU = 140737488355328 := rfl
  have : ∃ v h', cfi pr 124 [.pointer (some ⟨W, 0, none⟩), mv] h = some (v, h') ∧ v = .tuple #[] ∧ WrS h' W S (b ++ zBn l) ∧ Keeps S h h' := by
    refine zAg hp hc rfl ?_
    unfold xq124
    dsimp only [zc]
    refine wpk.out (k := []) ?_
    obtain ⟨hb, a, cap, rfl, _⟩ := zB3 hs
    have c0 := zBU (k := .u64) (k' := .i64) zC4 (n := l.length)
    obtain ⟨h1, e1, w1, k1⟩ := zDq T hw hS l.length 1 (by omega) (by decide) (by omega)
    have e1 : cfi pr 66 [.pointer (some ⟨W, 0, none⟩), uw .u64 l.length, .int .i64 1] h = some (.tuple #[], h1) := e1
    (repeat (first | refine zS ?_ | refine zL ?_ | refine zR ?_ | refine zE ?_ | refine zC ?_ | refine zJ ?_ | refine zK ?_ | refine zP ?_ | refine zF ?_ | refine zH ?_ | refine zG ?_ | refine zI (by decide) ?_ | refine zQ ?_ | ((first | refine zD ?_ | refine zN ?_ | refine zT rfl rfl ?_ | refine zO rfl ?_ | refine zM ?_); simp only [yq124.down, zA, lemS.down, lemC.down, Int.reduceBEq, Nat.reduceAdd, Nat.reduceLeDiff, reduceIte, Nat.reduceEqDiff, Int.reduceLT, Int.reduceLE, Int.reduceGT, Int.reduceGE, Int.reduceEq, Int.reduceAdd, Int.reduceSub, Int.reduceMul, reduceCtorEq, lemH.down, c0, e1])))
    refine zo (fun m t g => ∃ i, m = l.length - i ∧ i ≤ l.length ∧ WrS g W S (b ++ numB l.length 1 ++ zBN (l.take i)) ∧ Keeps S h g ∧ t.get 0 = .pointer (some ⟨W, 0, none⟩) ∧ t.get 11 = .slice a l.length cap ∧ t.get 12 = .int .i64 (l.length : Int) ∧ t.get 13 = .int .i64 (i : Int)) ?_ l.length _ _ ⟨0, rfl, by omega, by simpa [zBN] using w1, k1, by simp only [yq124.down, zA, lemS.down, lemC.down, Int.reduceBEq, Nat.reduceAdd, Nat.reduceLeDiff, reduceIte, Nat.reduceEqDiff, Int.reduceLT, Int.reduceLE, Int.reduceGT, Int.reduceGE, Int.reduceEq, Int.reduceAdd, Int.reduceSub, Int.reduceMul, reduceCtorEq], by simp only [yq124.down, zA, lemS.down, lemC.down, Int.reduceBEq, Nat.reduceAdd, Nat.reduceLeDiff, reduceIte, Nat.reduceEqDiff, Int.reduceLT, Int.reduceLE, Int.reduceGT, Int.reduceGE, Int.reduceEq, Int.reduceAdd, Int.reduceSub, Int.reduceMul, reduceCtorEq], by simp only [yq124.down, zA, lemS.down, lemC.down, Int.reduceBEq, Nat.reduceAdd, Nat.reduceLeDiff, reduceIte, Nat.reduceEqDiff, Int.reduceLT, Int.reduceLE, Int.reduceGT, Int.reduceGE, Int.reduceEq, Int.reduceAdd, Int.reduceSub, Int.reduceMul, reduceCtorEq], by (simp only [yq124.down, zA, lemS.down, lemC.down, Int.reduceBEq, Nat.reduceAdd, Nat.reduceLeDiff, reduceIte, Nat.reduceEqDiff, Int.reduceLT, Int.reduceLE, Int.reduceGT, Int.reduceGE, Int.reduceEq, Int.reduceAdd, Int.reduceSub, Int.reduceMul, reduceCtorEq]) <;> rfl⟩
    rintro m t g ⟨i, rfl, hi, gw, gk, t0, t11, t12, t13⟩ hnext
    refine xq124_6k ?_
    dsimp only [zHc]
    (repeat (first | refine zS ?_ | refine zL ?_ | refine zR ?_ | refine zE ?_ | refine zC ?_ | refine zJ ?_ | refine zK ?_ | refine zP ?_ | refine zF ?_ | refine zH ?_ | refine zG ?_ | refine zI (by decide) ?_ | refine zQ ?_ | ((first | refine zD ?_ | refine zN ?_ | refine zT rfl rfl ?_ | refine zO rfl ?_ | refine zM ?_); simp only [yq124.down, zA, lemS.down, lemC.down, Int.reduceBEq, Nat.reduceAdd, Nat.reduceLeDiff, reduceIte, Nat.reduceEqDiff, Int.reduceLT, Int.reduceLE, Int.reduceGT, Int.reduceGE, Int.reduceEq, Int.reduceAdd, Int.reduceSub, Int.reduceMul, reduceCtorEq, lemH.down, t0, t11, t12, t13])))
    refine ⟨fun hlt => ?_, fun hge => ?_⟩
    · have hi' : i < l.length := by omega
      have hgg : Grows h0 g := hg.then gk hS0
      obtain ⟨_, a', cap', ea, hel⟩ := zB3 (zEy wf hgg hs)
      obtain ⟨B, o, ia, ld⟩ := hel i hi'
      have ld : ∀ sp, g.load ⟨B, o, sp⟩ = some (.int .i64 (l.getD i 0)) := fun sp => ld
      have ww : IntKind.i64.wrap ((i : Int) + 1) = ((i + 1 : Nat) : Int) := by rw [wrap_i64 (by omega) (by omega)]; omega
      have cm := zF5 (l.getD i 0)
      have hlen : (b ++ numB l.length 1 ++ zBN (l.take i)).length + 8 ≤ zU := by
        simp only [List.length_append, zAQ, zE3, List.length_take]; omega
      obtain ⟨g2, e2, w2, k2⟩ := zDq T gw (fun A hA => hS A (Nat.le_trans gk.next hA)) (w64 (l.getD i 0)) 1 (zFW _) (by decide) hlen
      have e2 : cfi pr 66 [.pointer (some ⟨W, 0, none⟩), uw .u64 (w64 (l.getD i 0)), .int .i64 1] g = some (.tuple #[], g2) := e2
      (repeat (first | refine zS ?_ | refine zL ?_ | refine zR ?_ | refine zE ?_ | refine zC ?_ | refine zJ ?_ | refine zK ?_ | refine zP ?_ | refine zF ?_ | refine zH ?_ | refine zG ?_ | refine zI (by decide) ?_ | refine zQ ?_ | ((first | refine zD ?_ | refine zN ?_ | refine zT rfl rfl ?_ | refine zO rfl ?_ | refine zM ?_); simp only [yq124.down, zA, lemS.down, lemC.down, Int.reduceBEq, Nat.reduceAdd, Nat.reduceLeDiff, reduceIte, Nat.reduceEqDiff, Int.reduceLT, Int.reduceLE, Int.reduceGT, Int.reduceGE, Int.reduceEq, Int.reduceAdd, Int.reduceSub, Int.reduceMul, reduceCtorEq, lemH.down, t0, t11, t12, t13, zAG, ia, ld, cm, e2, ww])))
      exact hnext (l.length - (i + 1)) _ g2 (by omega) ⟨i + 1, rfl, by omega, by rw [zJn hi', ← List.append_assoc]; exact w2, gk.trans k2 (fun _ _ q => q), by simp only [yq124.down, zA, lemS.down, lemC.down, Int.reduceBEq, Nat.reduceAdd, Nat.reduceLeDiff, reduceIte, Nat.reduceEqDiff, Int.reduceLT, Int.reduceLE, Int.reduceGT, Int.reduceGE, Int.reduceEq, Int.reduceAdd, Int.reduceSub, Int.reduceMul, reduceCtorEq, t0], by simp only [yq124.down, zA, lemS.down, lemC.down, Int.reduceBEq, Nat.reduceAdd, Nat.reduceLeDiff, reduceIte, Nat.reduceEqDiff, Int.reduceLT, Int.reduceLE, Int.reduceGT, Int.reduceGE, Int.reduceEq, Int.reduceAdd, Int.reduceSub, Int.reduceMul, reduceCtorEq, t11], by simp only [yq124.down, zA, lemS.down, lemC.down, Int.reduceBEq, Nat.reduceAdd, Nat.reduceLeDiff, reduceIte, Nat.reduceEqDiff, Int.reduceLT, Int.reduceLE, Int.reduceGT, Int.reduceGE, Int.reduceEq, Int.reduceAdd, Int.reduceSub, Int.reduceMul, reduceCtorEq, t12], by simp only [yq124.down, zA, lemS.down, lemC.down, Int.reduceBEq, Nat.reduceAdd, Nat.reduceLeDiff, reduceIte, Nat.reduceEqDiff, Int.reduceLT, Int.reduceLE, Int.reduceGT, Int.reduceGE, Int.reduceEq, Int.reduceAdd, Int.reduceSub, Int.reduceMul, reduceCtorEq]⟩
    · obtain rfl : i = l.length := by omega
      (repeat (first | refine zS ?_ | refine zL ?_ | refine zR ?_ | refine zE ?_ | refine zC ?_ | refine zJ ?_ | refine zK ?_ | refine zP ?_ | refine zF ?_ | refine zH ?_ | refine zG ?_ | refine zI (by decide) ?_ | refine zQ ?_ | ((first | refine zD ?_ | refine zN ?_ | refine zT rfl rfl ?_ | refine zO rfl ?_ | refine zM ?_); simp only [yq124.down, zA, lemS.down, lemC.down, Int.reduceBEq, Nat.reduceAdd, Nat.reduceLeDiff, reduceIte, Nat.reduceEqDiff, Int.reduceLT, Int.reduceLE, Int.reduceGT, Int.reduceGE, Int.reduceEq, Int.reduceAdd, Int.reduceSub, Int.reduceMul, reduceCtorEq, lemH.down, t0, t11, t12, t13])))
      refine ⟨.inl rfl, _, rfl, rfl, ?_, gk⟩
      rw [List.take_length, List.append_assoc] at gw
      exact gw
  obtain ⟨v, h', e, rfl, r⟩ := this
  exact ⟨h', e, r⟩
def zBF (x : Hdr) : List UInt8 := numB x.n 8 ++ zAJ x.p ++ zAJ x.t ++ zAJ x.s ++ zBn x.m
theorem zJU (x : Hdr) : (zBF x).length = 105 + x.m.length := by simp [zBF, zBn, zAQ, zBa, zE3]; omega
theorem PutS {pr : Prog} (T : zCc pr) {h0 h : Heap} (wf : HWF h0) (hg : Grows h0 h) {W : Nat} {S : Nat → Prop} {b : List UInt8} (hS0 : ∀ A, A < h0.next → ¬ S A) (hw : WrS h W S b) (hS : ∀ A, h.next ≤ A → S A) {x : Hdr} {mv : Value} (hx : HdAt h0 x mv) (hroom : b.length + 3000000 ≤ zU) :
    ∃ h', cfi pr 111 [.pointer (some ⟨W, 0, none⟩), .agg (zd x mv).toArray] h = some (.tuple #[], h') ∧ WrS h' W S (b ++ zBF x) ∧ Keeps S h h' := by
  have hr64 : zU = 140737488355328 := rfl
  have : ∃ v h', cfi pr 111 [.pointer (some ⟨W, 0, none⟩), .agg (zd x mv).toArray] h = some (v, h') ∧ v = .tuple #[] ∧ WrS h' W S (b ++ zBF x) ∧ Keeps S h h' := by
    refine zAg T.put T.putC rfl ?_
    unfold xq111
    dsimp only [zc]
    refine wpk.out (k := []) ?_
    obtain ⟨hx1, hx2, hx3, hx4, hx5, hx6⟩ := hx
    have hWlt : W < h.next := by obtain ⟨_, v, h2, _⟩ := hw; exact h2.1
    obtain ⟨g, hgn, v0, gg⟩ : ∃ g, h.new (zd x mv) = g ∧ Var g h.next (zd x mv) ∧ Grows h g := ⟨_, rfl, Var.new_self, Grows.new⟩
    have gnx : g.next = h.next + 1 := by rw [← hgn]; rfl
    have w0 : WrS g W (fun A => S A ∧ A ≠ h.next) b := (hw.mono fun A h1 h2 => ⟨h2, by omega⟩).grow gg
    have hS' : ∀ A, g.next ≤ A → S A ∧ A ≠ h.next := fun A hA => ⟨hS A (by omega), by omega⟩
    have hS0' : ∀ A, A < h0.next → ¬ (S A ∧ A ≠ h.next) := fun A hA q => hS0 A hA q.1
    have hnk : ¬ (S h.next ∧ h.next ≠ h.next) := fun q => q.2 rfl
    have la : ∀ sp, g.load ⟨h.next, 0, sp⟩ = some (.int .u64 (x.n : Int)) := fun sp => v0.load
    obtain ⟨g1, e1, w1, k1⟩ := zDq T.wire w0 hS' x.n 8 hx1 (by decide) (by omega)
    rw [← zBP hx1] at e1
    have e1 : cfi pr 66 [.pointer (some ⟨W, 0, none⟩), .int .u64 (x.n : Int), .int .i64 8] g = some (.tuple #[], g1) := e1
    have v1 := v0.keep k1 hnk
    have lb : ∀ sp, g1.load ⟨h.next, 1, sp⟩ = some (.string (zB x.p)) := fun sp => v1.load
    obtain ⟨g2, e2, w2, k2⟩ := zEi T.wire w1 (fun A hA => hS' A (Nat.le_trans k1.next hA)) x.p (by simp only [List.length_append, zAQ]; omega)
    have k2' := k1.trans k2 (fun _ _ q => q)
    have v2 := v0.keep k2' hnk
    have lc : ∀ sp, g2.load ⟨h.next, 2, sp⟩ = some (.string (zB x.t)) := fun sp => v2.load
    obtain ⟨g3, e3, w3, k3⟩ := zEi T.wire w2 (fun A hA => hS' A (Nat.le_trans k2'.next hA)) x.t (by simp only [List.length_append, zAQ, zBa]; omega)
    have k3' := k2'.trans k3 (fun _ _ q => q)
    have v3 := v0.keep k3' hnk
    have ld : ∀ sp, g3.load ⟨h.next, 3, sp⟩ = some (.string (zB x.s)) := fun sp => v3.load
    obtain ⟨g4, e4, w4, k4⟩ := zEi T.wire w3 (fun A hA => hS' A (Nat.le_trans k3'.next hA)) x.s (by simp only [List.length_append, zAQ, zBa]; omega)
    have k4' := k3'.trans k4 (fun _ _ q => q)
    have v4 := v0.keep k4' hnk
    have le : ∀ sp, g4.load ⟨h.next, 4, sp⟩ = some mv := fun sp => v4.load
    obtain ⟨g5, e5, w5, k5⟩ := zUR T.wire T.pm T.pmC wf ((hg.trans gg).then k4' hS0') hS0' w4 (fun A hA => hS' A (Nat.le_trans k4'.next hA)) hx2 hx3 (by simp only [List.length_append, zAQ, zBa]; omega)
    have k5' := k4'.trans k5 (fun _ _ q => q)
    (repeat (first | refine zS ?_ | refine zL ?_ | refine zR ?_ | refine zE ?_ | refine zC ?_ | refine zJ ?_ | refine zK ?_ | refine zP ?_ | refine zF ?_ | refine zH ?_ | refine zG ?_ | refine zI (by decide) ?_ | refine zQ ?_ | ((first | refine zD ?_ | refine zN ?_ | refine zT rfl rfl ?_ | refine zO rfl ?_ | refine zM ?_); simp only [yq111.down, zA, lemS.down, lemC.down, Int.reduceBEq, Nat.reduceAdd, Nat.reduceLeDiff, reduceIte, Nat.reduceEqDiff, Int.reduceLT, Int.reduceLE, Int.reduceGT, Int.reduceGE, Int.reduceEq, Int.reduceAdd, Int.reduceSub, Int.reduceMul, reduceCtorEq, lemH.down, zAY, hgn, la, e1, lb, e2, lc, e3, ld, e4, le, e5])))
    refine ⟨.inl rfl, _, rfl, rfl, ?_, ?_⟩
    · have := w5.mono (S' := S) (fun A _ q => q.1)
      simp only [List.append_assoc] at this
      unfold zBF
      simp only [List.append_assoc]
      exact this
    · exact Keeps.trans (gg.keeps) (k5'.mono fun A _ q => q.1) (fun _ _ q => q)
  obtain ⟨v, h', e, rfl, r⟩ := this
  exact ⟨h', e, r⟩
def zA8 (x : Hdr) : List UInt8 := tagged 72 [zBF x]
theorem zE8 {h : Heap} {a : List UInt8} : zBA (h.new [.string (zB a)]) (.slice (some ⟨h.next, 0, none⟩) 1 1) = some [a] := by
  have hO := Own.newSlice (h := h) (l := zAX [a]) (n := 1) (esz := 1) (sp := none) rfl (.inl rfl)
  exact hO.strs
theorem zD9 {a : List UInt8} : zt [.string (zB [])] [(0, 1, .string (zB a))] = some [.string (zB a)] := rfl
def zCL : Prim := fun args h => match args with
  | [.agg c] => match hdrL h c.toList with | some (x, _) => some (.string (zB (zA8 x)), h) | none => none
  | _ => none
theorem zJV {h : Heap} {x : Hdr} {mv : Value} (hx : HdAt h x mv) : zCL [.agg (zd x mv).toArray] h = some (.string (zB (zA8 x)), h) := by
  simp only [zCL, zCp hx]
theorem zVu (pr : Prog) (T : zCc pr) (ht : pr.prim 64 = some zBS) (h : Heap) (wf : HWF h) (x : Hdr) (mv : Value) (hx : HdAt h x mv) : Comes pr xq95 [.agg (zd x mv).toArray] h (.string (zB (zA8 x))) := by
  apply Comes.of
  unfold xq95
  dsimp only [zc]
  have hr64 : zU = 140737488355328 := rfl
  obtain ⟨g, hg, gg, gx, lN, _⟩ := zBk hx wf
  have gnx : g.next = h.next + 1 := by rw [← hg]; rfl
  obtain ⟨g1, e1, w1, k1⟩ := zFf T.wire g
  have lN1 : ∀ sp, g1.loadN ⟨h.next, 0, sp⟩ 5 = some (zd x mv) := fun sp => by
    have hv : Var g h.next (zd x mv) := by rw [← hg]; exact Var.new_self
    exact (hv.grow k1).loadAll rfl
  obtain ⟨g2, e2, w2, k2⟩ := PutS T wf (gg.trans k1) (S := fun A => g.next ≤ A) (fun A hA q => by omega) w1 (fun A hA => by have := k1.next; show g.next ≤ A; omega) hx (by simp; omega)
  rw [List.nil_append] at w2
  have e3 := zFg T.wire (N := g.next) w2
  have hl := zJU x
  have hx3 := hx.2.2.1
  have tg := zq ht (zDi (p := 72) (zE8 (h := g2) (a := zBF x)) (by decide) (by simp [zm, zB6, zAV]; omega))
  have tg : cfi pr 64 [.int .u8 72, .slice (some ⟨g2.next, 0, none⟩) 1 1] (g2.new [.string (zB (zBF x))]) = some (.string (zB (zA8 x)), _) := tg
  (repeat (first | refine zS ?_ | refine zL ?_ | refine zR ?_ | refine zE ?_ | refine zC ?_ | refine zJ ?_ | refine zK ?_ | refine zP ?_ | refine zF ?_ | refine zH ?_ | refine zG ?_ | refine zI (by decide) ?_ | refine zQ ?_ | ((first | refine zD ?_ | refine zN ?_ | refine zT rfl rfl ?_ | refine zO rfl ?_ | refine zM ?_); simp only [yq95.down, zA, lemS.down, lemC.down, Int.reduceBEq, Nat.reduceAdd, Nat.reduceLeDiff, reduceIte, Nat.reduceEqDiff, Int.reduceLT, Int.reduceLE, Int.reduceGT, Int.reduceGE, Int.reduceEq, Int.reduceAdd, Int.reduceSub, Int.reduceMul, reduceCtorEq, lemH.down, zAY, hg, e1, lN1, e2, e3, zD9, tg])))
  exact ⟨.inr rfl, by simp only [yq95.down, zA, lemS.down, lemC.down, Int.reduceBEq, Nat.reduceAdd, Nat.reduceLeDiff, reduceIte, Nat.reduceEqDiff, Int.reduceLT, Int.reduceLE, Int.reduceGT, Int.reduceGE, Int.reduceEq, Int.reduceAdd, Int.reduceSub, Int.reduceMul, reduceCtorEq], ((gg.trans k1).then k2 (fun A hA => by omega)).trans Grows.new⟩
end Go.X
end
section
open Go Go.X
namespace Go.X
set_option linter.unusedVariables false
def zDM : List Value → Option Value
  | [.string s] => if s.data.toList.length + 100 ≤ zU then some (.string (zB (zAJ s.data.toList))) else none
  | _ => none
theorem zGK {s : List UInt8} (hs : s.length + 100 ≤ zU) : zDM [.string (zB s)] = some (.string (zB (zAJ s))) := by
  simp only [zDM, zAh]
  rw [if_pos hs]
theorem hash3_ok (pr : Prog) (s : List UInt8) (hs : s.length + 100 ≤ zU) (h : Heap) : Comes pr xq112 [.string (zB s)] h (.string (zB (zAJ s))) := by
  apply Comes.of
  unfold xq112
  dsimp only [zc]
  have hr64 : zU = 140737488355328 := rfl
  (repeat (first | refine zS ?_ | refine zL ?_ | refine zR ?_ | refine zE ?_ | refine zC ?_ | refine zJ ?_ | refine zK ?_ | refine zP ?_ | refine zF ?_ | refine zH ?_ | refine zG ?_ | refine zI (by decide) ?_ | refine zQ ?_ | ((first | refine zD ?_ | refine zN ?_ | refine zT rfl rfl ?_ | refine zO rfl ?_ | refine zM ?_); simp only [yq112.down, zA, lemS.down, lemC.down, Int.reduceBEq, Nat.reduceAdd, Nat.reduceLeDiff, reduceIte, Nat.reduceEqDiff, Int.reduceLT, Int.reduceLE, Int.reduceGT, Int.reduceGE, Int.reduceEq, Int.reduceAdd, Int.reduceSub, Int.reduceMul, reduceCtorEq])))
  refine zo (fun m t g => ∃ i, m = 32 - i ∧ g = h ∧ (i = 0 ∨ s.length + i ≤ 32) ∧ t.get 0 = .string (zB (s ++ List.replicate i 0))) ?_ 32 _ _ ⟨0, rfl, rfl, .inl rfl, by (simp only [yq112.down, zA, lemS.down, lemC.down, Int.reduceBEq, Nat.reduceAdd, Nat.reduceLeDiff, reduceIte, Nat.reduceEqDiff, Int.reduceLT, Int.reduceLE, Int.reduceGT, Int.reduceGE, Int.reduceEq, Int.reduceAdd, Int.reduceSub, Int.reduceMul, reduceCtorEq]) <;> simp⟩
  rintro m t g ⟨i, rfl, rfl, hi, t0⟩ hnext
  refine xq112_3k ?_
  dsimp only [zHW]
  (repeat (first | refine zS ?_ | refine zL ?_ | refine zR ?_ | refine zE ?_ | refine zC ?_ | refine zJ ?_ | refine zK ?_ | refine zP ?_ | refine zF ?_ | refine zH ?_ | refine zG ?_ | refine zI (by decide) ?_ | refine zQ ?_ | ((first | refine zD ?_ | refine zN ?_ | refine zT rfl rfl ?_ | refine zO rfl ?_ | refine zM ?_); simp only [yq112.down, zA, lemS.down, lemC.down, Int.reduceBEq, Nat.reduceAdd, Nat.reduceLeDiff, reduceIte, Nat.reduceEqDiff, Int.reduceLT, Int.reduceLE, Int.reduceGT, Int.reduceGE, Int.reduceEq, Int.reduceAdd, Int.reduceSub, Int.reduceMul, reduceCtorEq, t0])))
  refine ⟨fun hlt => ?_, fun hge => ?_⟩
  · have ad := zA4 (a := s ++ List.replicate i 0) (b := [0]) (by simp at hlt ⊢; omega)
    (repeat (first | refine zS ?_ | refine zL ?_ | refine zR ?_ | refine zE ?_ | refine zC ?_ | refine zJ ?_ | refine zK ?_ | refine zP ?_ | refine zF ?_ | refine zH ?_ | refine zG ?_ | refine zI (by decide) ?_ | refine zQ ?_ | ((first | refine zD ?_ | refine zN ?_ | refine zT rfl rfl ?_ | refine zO rfl ?_ | refine zM ?_); simp only [yq112.down, zA, lemS.down, lemC.down, Int.reduceBEq, Nat.reduceAdd, Nat.reduceLeDiff, reduceIte, Nat.reduceEqDiff, Int.reduceLT, Int.reduceLE, Int.reduceGT, Int.reduceGE, Int.reduceEq, Int.reduceAdd, Int.reduceSub, Int.reduceMul, reduceCtorEq, t0, ad])))
    refine hnext (32 - (i + 1)) _ g (by simp at hlt; omega) ⟨i + 1, rfl, rfl, .inr (by simp at hlt; omega), ?_⟩
    simp only [yq112.down, zA, lemS.down, lemC.down, Int.reduceBEq, Nat.reduceAdd, Nat.reduceLeDiff, reduceIte, Nat.reduceEqDiff, Int.reduceLT, Int.reduceLE, Int.reduceGT, Int.reduceGE, Int.reduceEq, Int.reduceAdd, Int.reduceSub, Int.reduceMul, reduceCtorEq]
    rw [List.append_assoc, show List.replicate i (0 : UInt8) ++ [0] = List.replicate (i + 1) 0 by rw [List.replicate_succ']]
  · have ct := cut_toL (s := s ++ List.replicate i 0) (n := 32) (k := .i64) (by simp at hge ⊢; omega)
    (repeat (first | refine zS ?_ | refine zL ?_ | refine zR ?_ | refine zE ?_ | refine zC ?_ | refine zJ ?_ | refine zK ?_ | refine zP ?_ | refine zF ?_ | refine zH ?_ | refine zG ?_ | refine zI (by decide) ?_ | refine zQ ?_ | ((first | refine zD ?_ | refine zN ?_ | refine zT rfl rfl ?_ | refine zO rfl ?_ | refine zM ?_); simp only [yq112.down, zA, lemS.down, lemC.down, Int.reduceBEq, Nat.reduceAdd, Nat.reduceLeDiff, reduceIte, Nat.reduceEqDiff, Int.reduceLT, Int.reduceLE, Int.reduceGT, Int.reduceGE, Int.reduceEq, Int.reduceAdd, Int.reduceSub, Int.reduceMul, reduceCtorEq, t0, ct])))
    refine ⟨.inr rfl, ?_, Grows.refl _⟩
    simp only [yq112.down, zA, lemS.down, lemC.down, Int.reduceBEq, Nat.reduceAdd, Nat.reduceLeDiff, reduceIte, Nat.reduceEqDiff, Int.reduceLT, Int.reduceLE, Int.reduceGT, Int.reduceGE, Int.reduceEq, Int.reduceAdd, Int.reduceSub, Int.reduceMul, reduceCtorEq]
    congr 2
    unfold zAJ
    simp at hge
    rcases hi with rfl | hi
    · rw [List.replicate_zero, List.append_nil, List.take_append_of_le_length (by omega)]
    · rw [List.take_of_length_le (by simp; omega)]
      rw [List.take_append, List.take_of_length_le (by omega), List.take_replicate]
      congr 2
      omega
theorem zGL {args : List Value} {v : Value} (h : zDM args = some v) : args.length = 1 ∧ zr v = true ∧ ∀ pr h, Comes pr xq112 args h v := by
  unfold zDM at h
  split at h
  · rename_i s
    split at h
    · rename_i hc
      cases h
      refine ⟨rfl, rfl, fun pr h => ?_⟩
      have := hash3_ok pr s.data.toList hc h
      rw [zCZ] at this
      exact this
    · cases h
  · cases h
def zEJ : Prim := fun args h => match args with
  | [v] => match zw h v with | some l => if l.length ≤ 1000000 then some (.string (zB (zBn l)), h) else none | none => none
  | _ => none
theorem zWH {h : Heap} {v : Value} {l : List Int} (hs : zw h v = some l) (hl : l.length ≤ 1000000) : zEJ [v] h = some (.string (zB (zBn l)), h) := by simp only [zEJ, hs, if_pos hl]
theorem zWE (l : List Int) : (zBn l).length = l.length + 1 := by simp [zBn, zAQ, zE3]; omega
theorem zWI (pr : Prog) (hn : pr.prim 40 = some (za zBK)) (h : Heap) (v : Value) (l : List Int) (hs : zw h v = some l) (hl : l.length ≤ 1000000) : Comes pr xq113 [v] h (.string (zB (zBn l))) := by
  apply Comes.of
  unfold xq113
  dsimp only [zc]
  have hr64 : zU = 140737488355328 := rfl
  obtain ⟨hb, a, cap, rfl, hel⟩ := zB3 hs
  have c0 := zBU (k := .u64) (k' := .i64) zC4 (n := l.length)
  have n0 := zf (h := h) hn (zEf (n := l.length) (k := 1) (by omega) (by decide))
  have n0 : cfi pr 40 [uw .u64 l.length, .int .i64 1] h = _ := n0
  (repeat (first | refine zS ?_ | refine zL ?_ | refine zR ?_ | refine zE ?_ | refine zC ?_ | refine zJ ?_ | refine zK ?_ | refine zP ?_ | refine zF ?_ | refine zH ?_ | refine zG ?_ | refine zI (by decide) ?_ | refine zQ ?_ | ((first | refine zD ?_ | refine zN ?_ | refine zT rfl rfl ?_ | refine zO rfl ?_ | refine zM ?_); simp only [yq113.down, zA, lemS.down, lemC.down, Int.reduceBEq, Nat.reduceAdd, Nat.reduceLeDiff, reduceIte, Nat.reduceEqDiff, Int.reduceLT, Int.reduceLE, Int.reduceGT, Int.reduceGE, Int.reduceEq, Int.reduceAdd, Int.reduceSub, Int.reduceMul, reduceCtorEq, lemH.down, c0, n0])))
  refine zo (fun m t g => ∃ i, m = l.length - i ∧ i ≤ l.length ∧ g = h ∧ t.get 0 = .slice a l.length cap ∧ t.get 3 = .string (zB (numB l.length 1 ++ zBN (l.take i))) ∧ t.get 4 = .int .i64 (i : Int)) ?_ l.length _ _ ⟨0, rfl, by omega, rfl, by simp only [yq113.down, zA, lemS.down, lemC.down, Int.reduceBEq, Nat.reduceAdd, Nat.reduceLeDiff, reduceIte, Nat.reduceEqDiff, Int.reduceLT, Int.reduceLE, Int.reduceGT, Int.reduceGE, Int.reduceEq, Int.reduceAdd, Int.reduceSub, Int.reduceMul, reduceCtorEq], by (simp only [yq113.down, zA, lemS.down, lemC.down, Int.reduceBEq, Nat.reduceAdd, Nat.reduceLeDiff, reduceIte, Nat.reduceEqDiff, Int.reduceLT, Int.reduceLE, Int.reduceGT, Int.reduceGE, Int.reduceEq, Int.reduceAdd, Int.reduceSub, Int.reduceMul, reduceCtorEq]) <;> simp [zBN], by (simp only [yq113.down, zA, lemS.down, lemC.down, Int.reduceBEq, Nat.reduceAdd, Nat.reduceLeDiff, reduceIte, Nat.reduceEqDiff, Int.reduceLT, Int.reduceLE, Int.reduceGT, Int.reduceGE, Int.reduceEq, Int.reduceAdd, Int.reduceSub, Int.reduceMul, reduceCtorEq]) <;> rfl⟩
  rintro m t g ⟨i, rfl, hi, rfl, t0, t3, t4⟩ hnext
  refine xq113_6k ?_
  dsimp only [zHX]
  (repeat (first | refine zS ?_ | refine zL ?_ | refine zR ?_ | refine zE ?_ | refine zC ?_ | refine zJ ?_ | refine zK ?_ | refine zP ?_ | refine zF ?_ | refine zH ?_ | refine zG ?_ | refine zI (by decide) ?_ | refine zQ ?_ | ((first | refine zD ?_ | refine zN ?_ | refine zT rfl rfl ?_ | refine zO rfl ?_ | refine zM ?_); simp only [yq113.down, zA, lemS.down, lemC.down, Int.reduceBEq, Nat.reduceAdd, Nat.reduceLeDiff, reduceIte, Nat.reduceEqDiff, Int.reduceLT, Int.reduceLE, Int.reduceGT, Int.reduceGE, Int.reduceEq, Int.reduceAdd, Int.reduceSub, Int.reduceMul, reduceCtorEq, lemH.down, t0, t3, t4])))
  refine ⟨fun hlt => ?_, fun hge => ?_⟩
  · have hi' : i < l.length := by omega
    obtain ⟨B, o, ia, ld⟩ := hel i hi'
    have ld : ∀ sp, g.load ⟨B, o, sp⟩ = some (.int .i64 (l.getD i 0)) := fun sp => ld
    have ww : IntKind.i64.wrap ((i : Int) + 1) = ((i + 1 : Nat) : Int) := by rw [wrap_i64 (by omega) (by omega)]; omega
    have cm := zF5 (l.getD i 0)
    have n1 := zf (h := g) hn (zEf (n := w64 (l.getD i 0)) (k := 1) (zFW _) (by decide))
    have n1 : cfi pr 40 [uw .u64 (w64 (l.getD i 0)), .int .i64 1] g = _ := n1
    have ad := zA4 (a := numB l.length 1 ++ zBN (l.take i)) (b := numB (w64 (l.getD i 0)) 1) (by simp only [List.length_append, zAQ, zE3, List.length_take]; omega)
    (repeat (first | refine zS ?_ | refine zL ?_ | refine zR ?_ | refine zE ?_ | refine zC ?_ | refine zJ ?_ | refine zK ?_ | refine zP ?_ | refine zF ?_ | refine zH ?_ | refine zG ?_ | refine zI (by decide) ?_ | refine zQ ?_ | ((first | refine zD ?_ | refine zN ?_ | refine zT rfl rfl ?_ | refine zO rfl ?_ | refine zM ?_); simp only [yq113.down, zA, lemS.down, lemC.down, Int.reduceBEq, Nat.reduceAdd, Nat.reduceLeDiff, reduceIte, Nat.reduceEqDiff, Int.reduceLT, Int.reduceLE, Int.reduceGT, Int.reduceGE, Int.reduceEq, Int.reduceAdd, Int.reduceSub, Int.reduceMul, reduceCtorEq, lemH.down, t0, t3, t4, zAG, ia, ld, cm, n1, ad, ww])))
    exact hnext (l.length - (i + 1)) _ g (by omega) ⟨i + 1, rfl, by omega, rfl, by simp only [yq113.down, zA, lemS.down, lemC.down, Int.reduceBEq, Nat.reduceAdd, Nat.reduceLeDiff, reduceIte, Nat.reduceEqDiff, Int.reduceLT, Int.reduceLE, Int.reduceGT, Int.reduceGE, Int.reduceEq, Int.reduceAdd, Int.reduceSub, Int.reduceMul, reduceCtorEq, t0], by rw [zJn hi', ← List.append_assoc]; simp only [yq113.down, zA, lemS.down, lemC.down, Int.reduceBEq, Nat.reduceAdd, Nat.reduceLeDiff, reduceIte, Nat.reduceEqDiff, Int.reduceLT, Int.reduceLE, Int.reduceGT, Int.reduceGE, Int.reduceEq, Int.reduceAdd, Int.reduceSub, Int.reduceMul, reduceCtorEq], by simp only [yq113.down, zA, lemS.down, lemC.down, Int.reduceBEq, Nat.reduceAdd, Nat.reduceLeDiff, reduceIte, Nat.reduceEqDiff, Int.reduceLT, Int.reduceLE, Int.reduceGT, Int.reduceGE, Int.reduceEq, Int.reduceAdd, Int.reduceSub, Int.reduceMul, reduceCtorEq]⟩
  · obtain rfl : i = l.length := by omega
    (repeat (first | refine zS ?_ | refine zL ?_ | refine zR ?_ | refine zE ?_ | refine zC ?_ | refine zJ ?_ | refine zK ?_ | refine zP ?_ | refine zF ?_ | refine zH ?_ | refine zG ?_ | refine zI (by decide) ?_ | refine zQ ?_ | ((first | refine zD ?_ | refine zN ?_ | refine zT rfl rfl ?_ | refine zO rfl ?_ | refine zM ?_); simp only [yq113.down, zA, lemS.down, lemC.down, Int.reduceBEq, Nat.reduceAdd, Nat.reduceLeDiff, reduceIte, Nat.reduceEqDiff, Int.reduceLT, Int.reduceLE, Int.reduceGT, Int.reduceGE, Int.reduceEq, Int.reduceAdd, Int.reduceSub, Int.reduceMul, reduceCtorEq, lemH.down, t0, t3, t4])))
    refine ⟨.inr rfl, ?_, Grows.refl _⟩
    rw [List.take_length]
    simp only [yq113.down, zA, lemS.down, lemC.down, Int.reduceBEq, Nat.reduceAdd, Nat.reduceLeDiff, reduceIte, Nat.reduceEqDiff, Int.reduceLT, Int.reduceLE, Int.reduceGT, Int.reduceGE, Int.reduceEq, Int.reduceAdd, Int.reduceSub, Int.reduceMul, reduceCtorEq]
    rfl
def zEG : Prim := fun args h => match args with
  | [.agg c] => match hdrL h c.toList with | some (x, _) => some (.string (zB (zBF x)), h) | none => none
  | _ => none
theorem zVr {h : Heap} {x : Hdr} {mv : Value} (hx : HdAt h x mv) : zEG [.agg (zd x mv).toArray] h = some (.string (zB (zBF x)), h) := by
  simp only [zEG, zCp hx]
theorem zVs (pr : Prog) (hn : pr.prim 40 = some (za zBK)) (hh : pr.prim 112 = some (za zDM)) (hm : pr.prim 113 = some zEJ) (h : Heap) (wf : HWF h) (x : Hdr) (mv : Value) (hx : HdAt h x mv) : Comes pr xq96 [.agg (zd x mv).toArray] h (.string (zB (zBF x))) := by
  apply Comes.of
  unfold xq96
  dsimp only [zc]
  have hr64 : zU = 140737488355328 := rfl
  obtain ⟨g, hg, gg, gx, lN, l0, l1, l2, l3, l4⟩ := zBk hx wf
  obtain ⟨hx1, hx2, hx3, hx4, hx5, hx6⟩ := gx
  have n0 := zf (h := g) hn (zEf (n := x.n) (k := 8) hx1 (by decide))
  rw [← zBP hx1] at n0
  have n0 : cfi pr 40 [.int .u64 (x.n : Int), .int .i64 8] g = _ := n0
  have p1 := zf (h := g) hh (zGK (s := x.p) (by omega))
  have p2 := zf (h := g) hh (zGK (s := x.t) (by omega))
  have p3 := zf (h := g) hh (zGK (s := x.s) (by omega))
  have p4 := zq hm (zWH hx2 hx3)
  have a1 := zA4 (a := numB x.n 8) (b := zAJ x.p) (by simp only [zAQ, zBa]; omega)
  have a2 := zA4 (a := numB x.n 8 ++ zAJ x.p) (b := zAJ x.t) (by simp only [List.length_append, zAQ, zBa]; omega)
  have a3 := zA4 (a := numB x.n 8 ++ zAJ x.p ++ zAJ x.t) (b := zAJ x.s) (by simp only [List.length_append, zAQ, zBa]; omega)
  have a4 := zA4 (a := numB x.n 8 ++ zAJ x.p ++ zAJ x.t ++ zAJ x.s) (b := zBn x.m) (by simp only [List.length_append, zAQ, zBa, zWE]; omega)
  (repeat (first | refine zS ?_ | refine zL ?_ | refine zR ?_ | refine zE ?_ | refine zC ?_ | refine zJ ?_ | refine zK ?_ | refine zP ?_ | refine zF ?_ | refine zH ?_ | refine zG ?_ | refine zI (by decide) ?_ | refine zQ ?_ | ((first | refine zD ?_ | refine zN ?_ | refine zT rfl rfl ?_ | refine zO rfl ?_ | refine zM ?_); simp only [yq96.down, zA, lemS.down, lemC.down, Int.reduceBEq, Nat.reduceAdd, Nat.reduceLeDiff, reduceIte, Nat.reduceEqDiff, Int.reduceLT, Int.reduceLE, Int.reduceGT, Int.reduceGE, Int.reduceEq, Int.reduceAdd, Int.reduceSub, Int.reduceMul, reduceCtorEq, lemH.down, zAY, hg, l0, l1, l2, l3, l4, n0, p1, a1, p2, a2, p3, a3, p4, a4])))
  exact ⟨.inr rfl, by simp only [yq96.down, zA, lemS.down, lemC.down, Int.reduceBEq, Nat.reduceAdd, Nat.reduceLeDiff, reduceIte, Nat.reduceEqDiff, Int.reduceLT, Int.reduceLE, Int.reduceGT, Int.reduceGE, Int.reduceEq, Int.reduceAdd, Int.reduceSub, Int.reduceMul, reduceCtorEq] <;> rfl, gg⟩
end Go.X
end
