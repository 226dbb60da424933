/- The reader of the document. -/
import Derived.Test.YtmhkcnibbodjnaaProg
import Derived.KernelRfl
import Derived.Test.YtmhkcnibbodjnaaXC
import Derived.Test.YtmhkcnibbodjnaaXJ
import Derived.Test.YtmhkcnibbodjnaaXK
set_option linter.unusedSimpArgs false
set_option linter.unusedVariables false
set_option maxHeartbeats 2000000
section
/-
  The functions of the seat as the interpreter has them: made by a program out of the loaded program itself; each is held against it by the kernel.
-/
namespace Go.X
open Go.Proofs
/- muniment/munimentref03.Number -/
abbrev x_ref03_Number_0l : List XO := [
  ⟨some 4, .p (.mov (C (.string (strOf [])))), none⟩]
def x_ref03_Number_0 : List XO := x_ref03_Number_0l
theorem x_ref03_Number_0e : E3 x_ref03_Number_0 x_ref03_Number_0l := E3.rfl
abbrev x_ref03_Number_1l : List XO := [
  ⟨some 5, .p (.mov (T 1)), none⟩,
  ⟨some 6, .p (.bin .gtr (T 5) (C (.int .i64 8))), none⟩]
def x_ref03_Number_1 : List XO := x_ref03_Number_1l
theorem x_ref03_Number_1e : E3 x_ref03_Number_1 x_ref03_Number_1l := E3.rfl
abbrev x_ref03_Number_2l : List XO := [
  ⟨some 1, .p (.mov (C (.int .i64 8))), none⟩]
def x_ref03_Number_2 : List XO := x_ref03_Number_2l
theorem x_ref03_Number_2e : E3 x_ref03_Number_2 x_ref03_Number_2l := E3.rfl
abbrev x_ref03_Number_3l : List XO := [
  ⟨some 7, .p (.mov (T 1)), none⟩,
  ⟨some 8, .p (.bin .leq (T 7) (C (.int .i64 0))), none⟩]
def x_ref03_Number_3 : List XO := x_ref03_Number_3l
theorem x_ref03_Number_3e : E3 x_ref03_Number_3 x_ref03_Number_3l := E3.rfl
abbrev x_ref03_Number_4l : List XO := [
  ⟨some 4, .p (.mov (C (.string (strOf [])))), none⟩]
def x_ref03_Number_4 : List XO := x_ref03_Number_4l
theorem x_ref03_Number_4e : E3 x_ref03_Number_4 x_ref03_Number_4l := E3.rfl
abbrev x_ref03_Number_5l : List XO := [
  ⟨some 9, .p (.mov (T 0)), none⟩,
  ⟨some 10, .p (.bin .quo (T 9) (C (.int .u64 256))), none⟩,
  ⟨some 11, .p (.mov (T 1)), none⟩,
  ⟨some 12, .p (.bin .sub (T 11) (C (.int .i64 1))), none⟩,
  ⟨some 13, .call (.func 40) [(T 10), (T 12)], none⟩,
  ⟨some 14, .p (.mov (T 0)), none⟩,
  ⟨some 15, .p (.bin .rem (T 14) (C (.int .u64 256))), none⟩,
  ⟨some 16, .p (.cint .u8 (T 15)), none⟩,
  ⟨some 17, .a (.bslice [(.int .u8 0)] 1 [(0, 1, (T 16))]), none⟩,
  ⟨some 18, .r (.cb2s (T 17)), none⟩,
  ⟨some 19, .p (.bin .add (T 13) (T 18)), none⟩,
  ⟨some 4, .p (.mov (T 19)), none⟩]
def x_ref03_Number_5 : List XO := x_ref03_Number_5l
theorem x_ref03_Number_5e : E3 x_ref03_Number_5 x_ref03_Number_5l := E3.rfl
def x_ref03_Number : XF := ⟨2, [.tmp 4],
  .seq (.ops x_ref03_Number_0) (.seq (.seq (.ops x_ref03_Number_1) (.cond (T 6) (.ops x_ref03_Number_2) (.skip))) (.seq (.seq (.ops x_ref03_Number_3) (.cond (T 8) (.seq (.ops x_ref03_Number_4) (.ret)) (.skip))) (.seq (.draw x_ref03_Number_5 [(9, (4, [8]))]) (.ret))))⟩
def y_ref03_Number := PLift.up (And.intro (And.intro (@x_ref03_Number_0e) (And.intro (@x_ref03_Number_1e) (@x_ref03_Number_2e))) (And.intro (@x_ref03_Number_3e) (And.intro (@x_ref03_Number_4e) (@x_ref03_Number_5e))))
theorem c_ref03_Number : funcC Try.prog Try.f40 = some x_ref03_Number := by kernel_rfl
/- muniment/munimentref03.Text -/
abbrev x_ref03_Text_0l : List XO := [
  ⟨some 2, .p (.mov (C (.string (strOf [])))), none⟩]
def x_ref03_Text_0 : List XO := x_ref03_Text_0l
theorem x_ref03_Text_0e : E3 x_ref03_Text_0 x_ref03_Text_0l := E3.rfl
abbrev x_ref03_Text_1l : List XO := [
  ⟨some 3, .p (.mov (T 0)), none⟩,
  ⟨some 4, .p (.lenS (T 3)), none⟩,
  ⟨some 5, .p (.cint .u64 (T 4)), none⟩,
  ⟨some 6, .call (.func 40) [(T 5), (C (.int .i64 4))], none⟩,
  ⟨some 7, .p (.mov (T 0)), none⟩,
  ⟨some 8, .p (.bin .add (T 6) (T 7)), none⟩,
  ⟨some 2, .p (.mov (T 8)), none⟩]
def x_ref03_Text_1 : List XO := x_ref03_Text_1l
theorem x_ref03_Text_1e : E3 x_ref03_Text_1 x_ref03_Text_1l := E3.rfl
def x_ref03_Text : XF := ⟨1, [.tmp 2],
  .seq (.ops x_ref03_Text_0) (.seq (.ops x_ref03_Text_1) (.ret))⟩
def y_ref03_Text := PLift.up (And.intro (@x_ref03_Text_0e) (@x_ref03_Text_1e))
theorem c_ref03_Text : funcC Try.prog Try.f73 = some x_ref03_Text := by kernel_rfl
/- (muniment/munimentref03.Reader).Number -/
abbrev x_ref03_Reader_Number_0l : List XO := [
  ⟨some 2, .a (.box (T 0)), none⟩,
  ⟨some 4, .a (.alloc [(.string (strOf [])), (.int .i64 0), (.int .i64 0)]), none⟩,
  ⟨some 5, .p (.mov (C (.int .u64 0))), none⟩]
def x_ref03_Reader_Number_0 : List XO := x_ref03_Reader_Number_0l
theorem x_ref03_Reader_Number_0e : E3 x_ref03_Reader_Number_0 x_ref03_Reader_Number_0l := E3.rfl
abbrev x_ref03_Reader_Number_1l : List XO := [
  ⟨some 9, .p (.faddr 2 (T 2)), none⟩,
  ⟨some 10, .r (.load1 (T 9)), none⟩,
  ⟨some 11, .p (.eql false .int (T 10) (C (.int .i64 0))), none⟩,
  ⟨some 12, .p (.mov (T 11)), none⟩,
  ⟨some 13, .p (.mov (T 1)), some (12, true)⟩,
  ⟨some 14, .p (.bin .gtr (T 13) (C (.int .i64 8))), some (12, true)⟩,
  ⟨some 15, .p (.pick (T 12) (T 14) (C (.bool false))), none⟩]
def x_ref03_Reader_Number_1 : List XO := x_ref03_Reader_Number_1l
theorem x_ref03_Reader_Number_1e : E3 x_ref03_Reader_Number_1 x_ref03_Reader_Number_1l := E3.rfl
abbrev x_ref03_Reader_Number_2l : List XO := [
  ⟨some 16, .p (.faddr 2 (T 2)), none⟩,
  ⟨none, .e (.store 1 (T 16) (C (.int .i64 1))), none⟩]
def x_ref03_Reader_Number_2 : List XO := x_ref03_Reader_Number_2l
theorem x_ref03_Reader_Number_2e : E3 x_ref03_Reader_Number_2 x_ref03_Reader_Number_2l := E3.rfl
abbrev x_ref03_Reader_Number_3l : List XO := [
  ⟨some 18, .r (.loadN 3 (T 2)), none⟩,
  ⟨some 19, .p (.mov (T 1)), none⟩,
  ⟨some 20, .call (.func 37) [(T 18), (T 19)], none⟩,
  ⟨some 17, .p (.mov (T 20)), none⟩,
  ⟨some 21, .p (.ext (T 17) 0), none⟩,
  ⟨some 22, .p (.ext (T 17) 1), none⟩,
  ⟨none, .e (.store 3 (T 2) (T 21)), none⟩,
  ⟨some 6, .p (.mov (T 22)), none⟩]
def x_ref03_Reader_Number_3 : List XO := x_ref03_Reader_Number_3l
theorem x_ref03_Reader_Number_3e : E3 x_ref03_Reader_Number_3 x_ref03_Reader_Number_3l := E3.rfl
abbrev x_ref03_Reader_Number_4l : List XO := [
  ⟨some 7, .p (.mov (C (.int .u64 0))), none⟩]
def x_ref03_Reader_Number_4 : List XO := x_ref03_Reader_Number_4l
theorem x_ref03_Reader_Number_4e : E3 x_ref03_Reader_Number_4 x_ref03_Reader_Number_4l := E3.rfl
abbrev x_ref03_Reader_Number_5l : List XO := [
  ⟨some 8, .p (.mov (C (.int .i64 0))), none⟩]
def x_ref03_Reader_Number_5 : List XO := x_ref03_Reader_Number_5l
theorem x_ref03_Reader_Number_5e : E3 x_ref03_Reader_Number_5 x_ref03_Reader_Number_5l := E3.rfl
abbrev x_ref03_Reader_Number_6l : List XO := [
  ⟨some 23, .p (.mov (T 8)), none⟩,
  ⟨some 24, .p (.mov (T 6)), none⟩,
  ⟨some 25, .p (.lenS (T 24)), none⟩,
  ⟨some 26, .p (.bin .lss (T 23) (T 25)), none⟩]
def x_ref03_Reader_Number_6 : List XO := x_ref03_Reader_Number_6l
theorem x_ref03_Reader_Number_6e : E3 x_ref03_Reader_Number_6 x_ref03_Reader_Number_6l := E3.rfl
abbrev x_ref03_Reader_Number_7l : List XO := [
  ⟨some 29, .p (.mov (T 7)), none⟩,
  ⟨some 30, .p (.bin .mul (T 29) (C (.int .u64 256))), none⟩,
  ⟨some 31, .p (.mov (T 6)), none⟩,
  ⟨some 32, .p (.mov (T 8)), none⟩,
  ⟨some 33, .p (.idxS (T 31) (T 32)), none⟩,
  ⟨some 34, .p (.cint .u64 (T 33)), none⟩,
  ⟨some 35, .p (.bin .add (T 30) (T 34)), none⟩,
  ⟨some 7, .p (.mov (T 35)), none⟩]
def x_ref03_Reader_Number_7 : List XO := x_ref03_Reader_Number_7l
theorem x_ref03_Reader_Number_7e : E3 x_ref03_Reader_Number_7 x_ref03_Reader_Number_7l := E3.rfl
abbrev x_ref03_Reader_Number_8l : List XO := [
  ⟨some 27, .p (.mov (T 8)), none⟩,
  ⟨some 28, .p (.bin .add (T 27) (C (.int .i64 1))), none⟩,
  ⟨some 8, .p (.mov (T 28)), none⟩]
def x_ref03_Reader_Number_8 : List XO := x_ref03_Reader_Number_8l
theorem x_ref03_Reader_Number_8e : E3 x_ref03_Reader_Number_8 x_ref03_Reader_Number_8l := E3.rfl
def x_ref03_Reader_Number_9b : XC :=
  .seq (.seq (.ops x_ref03_Reader_Number_6) (.cond (T 26) (.skip) (.exit 0))) (.seq (.block 1 (.ops x_ref03_Reader_Number_7)) (.ops x_ref03_Reader_Number_8))
def x_ref03_Reader_Number_9 : XC := x_ref03_Reader_Number_9b
theorem x_ref03_Reader_Number_9k {pr : Prog} {k : List KI} {Q : XE → Fr → Heap → Prop} {t : Fr} {h : Heap} (hw : wpk pr x_ref03_Reader_Number_9b k Q t h) : wpk pr x_ref03_Reader_Number_9 k Q t h := hw
abbrev x_ref03_Reader_Number_10l : List XO := [
  ⟨some 36, .r (.loadN 3 (T 2)), none⟩,
  ⟨some 37, .p (.mov (T 7)), none⟩,
  ⟨none, .e (.store 3 (T 4) (T 36)), none⟩,
  ⟨some 5, .p (.mov (T 37)), none⟩]
def x_ref03_Reader_Number_10 : List XO := x_ref03_Reader_Number_10l
theorem x_ref03_Reader_Number_10e : E3 x_ref03_Reader_Number_10 x_ref03_Reader_Number_10l := E3.rfl
def x_ref03_Reader_Number : XF := ⟨2, [.cellN 4 3, .tmp 5],
  .seq (.ops x_ref03_Reader_Number_0) (.seq (.seq (.ops x_ref03_Reader_Number_1) (.cond (T 15) (.ops x_ref03_Reader_Number_2) (.skip))) (.seq (.ops x_ref03_Reader_Number_3) (.seq (.ops x_ref03_Reader_Number_4) (.seq (.seq (.ops x_ref03_Reader_Number_5) (.block 0 (.loop x_ref03_Reader_Number_9))) (.seq (.ops x_ref03_Reader_Number_10) (.ret))))))⟩
def y_ref03_Reader_Number := PLift.up (And.intro (And.intro (And.intro (@x_ref03_Reader_Number_0e) (@x_ref03_Reader_Number_1e)) (And.intro (@x_ref03_Reader_Number_2e) (And.intro (@x_ref03_Reader_Number_3e) (@x_ref03_Reader_Number_4e)))) (And.intro (And.intro (@x_ref03_Reader_Number_5e) (@x_ref03_Reader_Number_6e)) (And.intro (@x_ref03_Reader_Number_7e) (And.intro (@x_ref03_Reader_Number_8e) (@x_ref03_Reader_Number_10e)))))
theorem c_ref03_Reader_Number : funcC Try.prog Try.f35 = some x_ref03_Reader_Number := by kernel_rfl
/- (muniment/munimentref03.Reader).Bytes -/
abbrev x_ref03_Reader_Bytes_0l : List XO := [
  ⟨some 2, .a (.box (T 0)), none⟩,
  ⟨some 4, .a (.alloc [(.string (strOf [])), (.int .i64 0), (.int .i64 0)]), none⟩,
  ⟨some 5, .p (.mov (C (.string (strOf [])))), none⟩]
def x_ref03_Reader_Bytes_0 : List XO := x_ref03_Reader_Bytes_0l
theorem x_ref03_Reader_Bytes_0e : E3 x_ref03_Reader_Bytes_0 x_ref03_Reader_Bytes_0l := E3.rfl
abbrev x_ref03_Reader_Bytes_1l : List XO := [
  ⟨some 7, .p (.faddr 2 (T 2)), none⟩,
  ⟨some 8, .r (.load1 (T 7)), none⟩,
  ⟨some 9, .p (.eql true .int (T 8) (C (.int .i64 0))), none⟩,
  ⟨some 6, .p (.mov (T 9)), none⟩]
def x_ref03_Reader_Bytes_1 : List XO := x_ref03_Reader_Bytes_1l
theorem x_ref03_Reader_Bytes_1e : E3 x_ref03_Reader_Bytes_1 x_ref03_Reader_Bytes_1l := E3.rfl
abbrev x_ref03_Reader_Bytes_2l : List XO := [
  ⟨some 10, .r (.loadN 3 (T 2)), none⟩,
  ⟨none, .e (.store 3 (T 4) (T 10)), none⟩,
  ⟨some 5, .p (.mov (C (.string (strOf [])))), none⟩]
def x_ref03_Reader_Bytes_2 : List XO := x_ref03_Reader_Bytes_2l
theorem x_ref03_Reader_Bytes_2e : E3 x_ref03_Reader_Bytes_2 x_ref03_Reader_Bytes_2l := E3.rfl
abbrev x_ref03_Reader_Bytes_3l : List XO := [
  ⟨some 12, .p (.mov (T 1)), none⟩,
  ⟨some 13, .p (.bin .lss (T 12) (C (.int .i64 0))), none⟩,
  ⟨some 11, .p (.mov (T 13)), none⟩]
def x_ref03_Reader_Bytes_3 : List XO := x_ref03_Reader_Bytes_3l
theorem x_ref03_Reader_Bytes_3e : E3 x_ref03_Reader_Bytes_3 x_ref03_Reader_Bytes_3l := E3.rfl
abbrev x_ref03_Reader_Bytes_4l : List XO := [
  ⟨some 14, .p (.faddr 2 (T 2)), none⟩,
  ⟨none, .e (.store 1 (T 14) (C (.int .i64 1))), none⟩]
def x_ref03_Reader_Bytes_4 : List XO := x_ref03_Reader_Bytes_4l
theorem x_ref03_Reader_Bytes_4e : E3 x_ref03_Reader_Bytes_4 x_ref03_Reader_Bytes_4l := E3.rfl
abbrev x_ref03_Reader_Bytes_5l : List XO := [
  ⟨some 15, .r (.loadN 3 (T 2)), none⟩,
  ⟨none, .e (.store 3 (T 4) (T 15)), none⟩,
  ⟨some 5, .p (.mov (C (.string (strOf [])))), none⟩]
def x_ref03_Reader_Bytes_5 : List XO := x_ref03_Reader_Bytes_5l
theorem x_ref03_Reader_Bytes_5e : E3 x_ref03_Reader_Bytes_5 x_ref03_Reader_Bytes_5l := E3.rfl
abbrev x_ref03_Reader_Bytes_6l : List XO := [
  ⟨some 17, .p (.mov (T 1)), none⟩,
  ⟨some 18, .p (.faddr 0 (T 2)), none⟩,
  ⟨some 19, .r (.load1 (T 18)), none⟩,
  ⟨some 20, .p (.lenS (T 19)), none⟩,
  ⟨some 21, .p (.faddr 1 (T 2)), none⟩,
  ⟨some 22, .r (.load1 (T 21)), none⟩,
  ⟨some 23, .p (.bin .sub (T 20) (T 22)), none⟩,
  ⟨some 24, .p (.bin .gtr (T 17) (T 23)), none⟩,
  ⟨some 16, .p (.mov (T 24)), none⟩]
def x_ref03_Reader_Bytes_6 : List XO := x_ref03_Reader_Bytes_6l
theorem x_ref03_Reader_Bytes_6e : E3 x_ref03_Reader_Bytes_6 x_ref03_Reader_Bytes_6l := E3.rfl
abbrev x_ref03_Reader_Bytes_7l : List XO := [
  ⟨some 25, .p (.faddr 2 (T 2)), none⟩,
  ⟨none, .e (.store 1 (T 25) (C (.int .i64 4))), none⟩]
def x_ref03_Reader_Bytes_7 : List XO := x_ref03_Reader_Bytes_7l
theorem x_ref03_Reader_Bytes_7e : E3 x_ref03_Reader_Bytes_7 x_ref03_Reader_Bytes_7l := E3.rfl
abbrev x_ref03_Reader_Bytes_8l : List XO := [
  ⟨some 26, .r (.loadN 3 (T 2)), none⟩,
  ⟨none, .e (.store 3 (T 4) (T 26)), none⟩,
  ⟨some 5, .p (.mov (C (.string (strOf [])))), none⟩]
def x_ref03_Reader_Bytes_8 : List XO := x_ref03_Reader_Bytes_8l
theorem x_ref03_Reader_Bytes_8e : E3 x_ref03_Reader_Bytes_8 x_ref03_Reader_Bytes_8l := E3.rfl
abbrev x_ref03_Reader_Bytes_9l : List XO := [
  ⟨some 27, .p (.faddr 1 (T 2)), none⟩,
  ⟨some 28, .r (.load1 (T 27)), none⟩,
  ⟨some 29, .p (.mov (T 1)), none⟩,
  ⟨some 30, .p (.bin .add (T 28) (T 29)), none⟩,
  ⟨some 31, .p (.faddr 1 (T 2)), none⟩,
  ⟨none, .e (.store 1 (T 31) (T 30)), none⟩]
def x_ref03_Reader_Bytes_9 : List XO := x_ref03_Reader_Bytes_9l
theorem x_ref03_Reader_Bytes_9e : E3 x_ref03_Reader_Bytes_9 x_ref03_Reader_Bytes_9l := E3.rfl
abbrev x_ref03_Reader_Bytes_10l : List XO := [
  ⟨some 32, .r (.loadN 3 (T 2)), none⟩,
  ⟨some 33, .p (.faddr 0 (T 2)), none⟩,
  ⟨some 34, .r (.load1 (T 33)), none⟩,
  ⟨some 35, .p (.faddr 1 (T 2)), none⟩,
  ⟨some 36, .r (.load1 (T 35)), none⟩,
  ⟨some 37, .p (.mov (T 1)), none⟩,
  ⟨some 38, .p (.bin .sub (T 36) (T 37)), none⟩,
  ⟨some 39, .p (.faddr 1 (T 2)), none⟩,
  ⟨some 40, .r (.load1 (T 39)), none⟩,
  ⟨some 41, .p (.slcS (T 34) (some (T 38)) (some (T 40))), none⟩,
  ⟨none, .e (.store 3 (T 4) (T 32)), none⟩,
  ⟨some 5, .p (.mov (T 41)), none⟩]
def x_ref03_Reader_Bytes_10 : List XO := x_ref03_Reader_Bytes_10l
theorem x_ref03_Reader_Bytes_10e : E3 x_ref03_Reader_Bytes_10 x_ref03_Reader_Bytes_10l := E3.rfl
def x_ref03_Reader_Bytes : XF := ⟨2, [.cellN 4 3, .tmp 5],
  .seq (.ops x_ref03_Reader_Bytes_0) (.seq (.block 0 (.seq (.ops x_ref03_Reader_Bytes_1) (.cond (T 6) (.seq (.ops x_ref03_Reader_Bytes_2) (.ret)) (.seq (.ops x_ref03_Reader_Bytes_3) (.cond (T 11) (.seq (.ops x_ref03_Reader_Bytes_4) (.seq (.ops x_ref03_Reader_Bytes_5) (.ret))) (.seq (.ops x_ref03_Reader_Bytes_6) (.cond (T 16) (.seq (.ops x_ref03_Reader_Bytes_7) (.seq (.ops x_ref03_Reader_Bytes_8) (.ret))) (.skip)))))))) (.seq (.ops x_ref03_Reader_Bytes_9) (.seq (.draw x_ref03_Reader_Bytes_10 [(2, 12, []), (4, 12, []), (8, 12, [])]) (.ret))))⟩
def y_ref03_Reader_Bytes := PLift.up (And.intro (And.intro (And.intro (@x_ref03_Reader_Bytes_0e) (@x_ref03_Reader_Bytes_1e)) (And.intro (@x_ref03_Reader_Bytes_2e) (And.intro (@x_ref03_Reader_Bytes_3e) (@x_ref03_Reader_Bytes_4e)))) (And.intro (And.intro (@x_ref03_Reader_Bytes_5e) (And.intro (@x_ref03_Reader_Bytes_6e) (@x_ref03_Reader_Bytes_7e))) (And.intro (@x_ref03_Reader_Bytes_8e) (And.intro (@x_ref03_Reader_Bytes_9e) (@x_ref03_Reader_Bytes_10e)))))
theorem c_ref03_Reader_Bytes : funcC Try.prog Try.f37 = some x_ref03_Reader_Bytes := by kernel_rfl
/- (muniment/munimentref03.Reader).Count -/
abbrev x_ref03_Reader_Count_0l : List XO := [
  ⟨some 2, .a (.box (T 0)), none⟩,
  ⟨some 4, .a (.alloc [(.string (strOf [])), (.int .i64 0), (.int .i64 0)]), none⟩,
  ⟨some 5, .p (.mov (C (.int .i64 0))), none⟩]
def x_ref03_Reader_Count_0 : List XO := x_ref03_Reader_Count_0l
theorem x_ref03_Reader_Count_0e : E3 x_ref03_Reader_Count_0 x_ref03_Reader_Count_0l := E3.rfl
abbrev x_ref03_Reader_Count_1l : List XO := [
  ⟨some 9, .r (.loadN 3 (T 2)), none⟩,
  ⟨some 10, .call (.func 35) [(T 9), (C (.int .i64 4))], none⟩,
  ⟨some 8, .p (.mov (T 10)), none⟩,
  ⟨some 11, .p (.ext (T 8) 0), none⟩,
  ⟨some 12, .p (.ext (T 8) 1), none⟩,
  ⟨some 6, .a (.alloc [(.string (strOf [])), (.int .i64 0), (.int .i64 0)]), none⟩,
  ⟨none, .e (.store 3 (T 6) (T 11)), none⟩,
  ⟨some 7, .p (.mov (T 12)), none⟩]
def x_ref03_Reader_Count_1 : List XO := x_ref03_Reader_Count_1l
theorem x_ref03_Reader_Count_1e : E3 x_ref03_Reader_Count_1 x_ref03_Reader_Count_1l := E3.rfl
abbrev x_ref03_Reader_Count_2l : List XO := [
  ⟨some 13, .p (.faddr 2 (T 6)), none⟩,
  ⟨some 14, .r (.load1 (T 13)), none⟩,
  ⟨some 15, .p (.eql false .int (T 14) (C (.int .i64 0))), none⟩,
  ⟨some 16, .p (.mov (T 15)), none⟩,
  ⟨some 17, .p (.mov (T 1)), some (16, true)⟩,
  ⟨some 18, .p (.bin .lss (T 17) (C (.int .i64 0))), some (16, true)⟩,
  ⟨some 19, .p (.mov (T 18)), some (16, true)⟩,
  ⟨some 20, .p (.mov (T 7)), some (19, false)⟩,
  ⟨some 21, .p (.mov (T 1)), some (19, false)⟩,
  ⟨some 22, .p (.cint .u64 (T 21)), some (19, false)⟩,
  ⟨some 23, .p (.bin .gtr (T 20) (T 22)), some (19, false)⟩,
  ⟨some 24, .p (.pick (T 19) (C (.bool true)) (T 23)), some (16, true)⟩,
  ⟨some 25, .p (.pick (T 16) (T 24) (C (.bool false))), none⟩]
def x_ref03_Reader_Count_2 : List XO := x_ref03_Reader_Count_2l
theorem x_ref03_Reader_Count_2e : E3 x_ref03_Reader_Count_2 x_ref03_Reader_Count_2l := E3.rfl
abbrev x_ref03_Reader_Count_3l : List XO := [
  ⟨some 26, .p (.faddr 2 (T 2)), none⟩,
  ⟨none, .e (.store 1 (T 26) (C (.int .i64 3))), none⟩]
def x_ref03_Reader_Count_3 : List XO := x_ref03_Reader_Count_3l
theorem x_ref03_Reader_Count_3e : E3 x_ref03_Reader_Count_3 x_ref03_Reader_Count_3l := E3.rfl
abbrev x_ref03_Reader_Count_4l : List XO := [
  ⟨some 27, .r (.loadN 3 (T 2)), none⟩,
  ⟨none, .e (.store 3 (T 4) (T 27)), none⟩,
  ⟨some 5, .p (.mov (C (.int .i64 0))), none⟩]
def x_ref03_Reader_Count_4 : List XO := x_ref03_Reader_Count_4l
theorem x_ref03_Reader_Count_4e : E3 x_ref03_Reader_Count_4 x_ref03_Reader_Count_4l := E3.rfl
abbrev x_ref03_Reader_Count_5l : List XO := [
  ⟨some 28, .r (.loadN 3 (T 6)), none⟩,
  ⟨some 29, .p (.mov (T 7)), none⟩,
  ⟨some 30, .p (.cint .i64 (T 29)), none⟩,
  ⟨none, .e (.store 3 (T 4) (T 28)), none⟩,
  ⟨some 5, .p (.mov (T 30)), none⟩]
def x_ref03_Reader_Count_5 : List XO := x_ref03_Reader_Count_5l
theorem x_ref03_Reader_Count_5e : E3 x_ref03_Reader_Count_5 x_ref03_Reader_Count_5l := E3.rfl
def x_ref03_Reader_Count : XF := ⟨2, [.cellN 4 3, .tmp 5],
  .seq (.ops x_ref03_Reader_Count_0) (.seq (.ops x_ref03_Reader_Count_1) (.seq (.seq (.ops x_ref03_Reader_Count_2) (.cond (T 25) (.seq (.ops x_ref03_Reader_Count_3) (.seq (.ops x_ref03_Reader_Count_4) (.ret))) (.skip))) (.seq (.ops x_ref03_Reader_Count_5) (.ret))))⟩
def y_ref03_Reader_Count := PLift.up (And.intro (And.intro (@x_ref03_Reader_Count_0e) (And.intro (@x_ref03_Reader_Count_1e) (@x_ref03_Reader_Count_2e))) (And.intro (@x_ref03_Reader_Count_3e) (And.intro (@x_ref03_Reader_Count_4e) (@x_ref03_Reader_Count_5e))))
theorem c_ref03_Reader_Count : funcC Try.prog Try.f74 = some x_ref03_Reader_Count := by kernel_rfl
/- (muniment/munimentref03.Reader).Text -/
abbrev x_ref03_Reader_Text_0l : List XO := [
  ⟨some 2, .a (.box (T 0)), none⟩,
  ⟨some 4, .a (.alloc [(.string (strOf [])), (.int .i64 0), (.int .i64 0)]), none⟩,
  ⟨some 5, .p (.mov (C (.string (strOf [])))), none⟩]
def x_ref03_Reader_Text_0 : List XO := x_ref03_Reader_Text_0l
theorem x_ref03_Reader_Text_0e : E3 x_ref03_Reader_Text_0 x_ref03_Reader_Text_0l := E3.rfl
abbrev x_ref03_Reader_Text_1l : List XO := [
  ⟨some 10, .r (.loadN 3 (T 2)), none⟩,
  ⟨some 11, .p (.mov (T 1)), none⟩,
  ⟨some 12, .call (.func 74) [(T 10), (T 11)], none⟩,
  ⟨some 9, .p (.mov (T 12)), none⟩,
  ⟨some 13, .p (.ext (T 9) 0), none⟩,
  ⟨some 14, .p (.ext (T 9) 1), none⟩,
  ⟨some 6, .a (.alloc [(.string (strOf [])), (.int .i64 0), (.int .i64 0)]), none⟩,
  ⟨none, .e (.store 3 (T 6) (T 13)), none⟩,
  ⟨some 7, .p (.mov (T 14)), none⟩]
def x_ref03_Reader_Text_1 : List XO := x_ref03_Reader_Text_1l
theorem x_ref03_Reader_Text_1e : E3 x_ref03_Reader_Text_1 x_ref03_Reader_Text_1l := E3.rfl
abbrev x_ref03_Reader_Text_2l : List XO := [
  ⟨some 16, .r (.loadN 3 (T 6)), none⟩,
  ⟨some 17, .p (.mov (T 7)), none⟩,
  ⟨some 18, .call (.func 37) [(T 16), (T 17)], none⟩,
  ⟨some 15, .p (.mov (T 18)), none⟩,
  ⟨some 19, .p (.ext (T 15) 0), none⟩,
  ⟨some 20, .p (.ext (T 15) 1), none⟩,
  ⟨none, .e (.store 3 (T 6) (T 19)), none⟩,
  ⟨some 8, .p (.mov (T 20)), none⟩]
def x_ref03_Reader_Text_2 : List XO := x_ref03_Reader_Text_2l
theorem x_ref03_Reader_Text_2e : E3 x_ref03_Reader_Text_2 x_ref03_Reader_Text_2l := E3.rfl
abbrev x_ref03_Reader_Text_3l : List XO := [
  ⟨some 21, .p (.faddr 2 (T 6)), none⟩,
  ⟨some 22, .r (.load1 (T 21)), none⟩,
  ⟨some 23, .p (.eql true .int (T 22) (C (.int .i64 0))), none⟩]
def x_ref03_Reader_Text_3 : List XO := x_ref03_Reader_Text_3l
theorem x_ref03_Reader_Text_3e : E3 x_ref03_Reader_Text_3 x_ref03_Reader_Text_3l := E3.rfl
abbrev x_ref03_Reader_Text_4l : List XO := [
  ⟨some 24, .p (.faddr 2 (T 2)), none⟩,
  ⟨some 25, .r (.load1 (T 24)), none⟩,
  ⟨some 26, .p (.eql false .int (T 25) (C (.int .i64 0))), none⟩]
def x_ref03_Reader_Text_4 : List XO := x_ref03_Reader_Text_4l
theorem x_ref03_Reader_Text_4e : E3 x_ref03_Reader_Text_4 x_ref03_Reader_Text_4l := E3.rfl
abbrev x_ref03_Reader_Text_5l : List XO := [
  ⟨some 27, .p (.faddr 2 (T 6)), none⟩,
  ⟨some 28, .r (.load1 (T 27)), none⟩,
  ⟨some 29, .p (.faddr 2 (T 2)), none⟩,
  ⟨none, .e (.store 1 (T 29) (T 28)), none⟩]
def x_ref03_Reader_Text_5 : List XO := x_ref03_Reader_Text_5l
theorem x_ref03_Reader_Text_5e : E3 x_ref03_Reader_Text_5 x_ref03_Reader_Text_5l := E3.rfl
abbrev x_ref03_Reader_Text_6l : List XO := [
  ⟨some 30, .r (.loadN 3 (T 2)), none⟩,
  ⟨none, .e (.store 3 (T 4) (T 30)), none⟩,
  ⟨some 5, .p (.mov (C (.string (strOf [])))), none⟩]
def x_ref03_Reader_Text_6 : List XO := x_ref03_Reader_Text_6l
theorem x_ref03_Reader_Text_6e : E3 x_ref03_Reader_Text_6 x_ref03_Reader_Text_6l := E3.rfl
abbrev x_ref03_Reader_Text_7l : List XO := [
  ⟨some 31, .r (.loadN 3 (T 6)), none⟩,
  ⟨some 32, .p (.mov (T 8)), none⟩,
  ⟨none, .e (.store 3 (T 4) (T 31)), none⟩,
  ⟨some 5, .p (.mov (T 32)), none⟩]
def x_ref03_Reader_Text_7 : List XO := x_ref03_Reader_Text_7l
theorem x_ref03_Reader_Text_7e : E3 x_ref03_Reader_Text_7 x_ref03_Reader_Text_7l := E3.rfl
def x_ref03_Reader_Text : XF := ⟨2, [.cellN 4 3, .tmp 5],
  .seq (.ops x_ref03_Reader_Text_0) (.seq (.ops x_ref03_Reader_Text_1) (.seq (.ops x_ref03_Reader_Text_2) (.seq (.seq (.ops x_ref03_Reader_Text_3) (.cond (T 23) (.seq (.seq (.ops x_ref03_Reader_Text_4) (.cond (T 26) (.ops x_ref03_Reader_Text_5) (.skip))) (.seq (.ops x_ref03_Reader_Text_6) (.ret))) (.skip))) (.seq (.ops x_ref03_Reader_Text_7) (.ret)))))⟩
def y_ref03_Reader_Text := PLift.up (And.intro (And.intro (And.intro (@x_ref03_Reader_Text_0e) (@x_ref03_Reader_Text_1e)) (And.intro (@x_ref03_Reader_Text_2e) (@x_ref03_Reader_Text_3e))) (And.intro (And.intro (@x_ref03_Reader_Text_4e) (@x_ref03_Reader_Text_5e)) (And.intro (@x_ref03_Reader_Text_6e) (@x_ref03_Reader_Text_7e))))
theorem c_ref03_Reader_Text : funcC Try.prog Try.f36 = some x_ref03_Reader_Text := by kernel_rfl
/- (muniment/munimentref03.Reader).End -/
abbrev x_ref03_Reader_End_0l : List XO := [
  ⟨some 1, .a (.box (T 0)), none⟩,
  ⟨some 2, .a (.alloc [(.string (strOf [])), (.int .i64 0), (.int .i64 0)]), none⟩]
def x_ref03_Reader_End_0 : List XO := x_ref03_Reader_End_0l
theorem x_ref03_Reader_End_0e : E3 x_ref03_Reader_End_0 x_ref03_Reader_End_0l := E3.rfl
abbrev x_ref03_Reader_End_1l : List XO := [
  ⟨some 3, .p (.faddr 2 (T 1)), none⟩,
  ⟨some 4, .r (.load1 (T 3)), none⟩,
  ⟨some 5, .p (.eql false .int (T 4) (C (.int .i64 0))), none⟩,
  ⟨some 6, .p (.mov (T 5)), none⟩,
  ⟨some 7, .p (.faddr 1 (T 1)), some (6, true)⟩,
  ⟨some 8, .r (.load1 (T 7)), some (6, true)⟩,
  ⟨some 9, .p (.faddr 0 (T 1)), some (6, true)⟩,
  ⟨some 10, .r (.load1 (T 9)), some (6, true)⟩,
  ⟨some 11, .p (.lenS (T 10)), some (6, true)⟩,
  ⟨some 12, .p (.bin .lss (T 8) (T 11)), some (6, true)⟩,
  ⟨some 13, .p (.pick (T 6) (T 12) (C (.bool false))), none⟩]
def x_ref03_Reader_End_1 : List XO := x_ref03_Reader_End_1l
theorem x_ref03_Reader_End_1e : E3 x_ref03_Reader_End_1 x_ref03_Reader_End_1l := E3.rfl
abbrev x_ref03_Reader_End_2l : List XO := [
  ⟨some 14, .p (.faddr 2 (T 1)), none⟩,
  ⟨none, .e (.store 1 (T 14) (C (.int .i64 5))), none⟩]
def x_ref03_Reader_End_2 : List XO := x_ref03_Reader_End_2l
theorem x_ref03_Reader_End_2e : E3 x_ref03_Reader_End_2 x_ref03_Reader_End_2l := E3.rfl
abbrev x_ref03_Reader_End_3l : List XO := [
  ⟨some 15, .r (.loadN 3 (T 1)), none⟩,
  ⟨none, .e (.store 3 (T 2) (T 15)), none⟩]
def x_ref03_Reader_End_3 : List XO := x_ref03_Reader_End_3l
theorem x_ref03_Reader_End_3e : E3 x_ref03_Reader_End_3 x_ref03_Reader_End_3l := E3.rfl
def x_ref03_Reader_End : XF := ⟨1, [.cellN 2 3],
  .seq (.ops x_ref03_Reader_End_0) (.seq (.seq (.ops x_ref03_Reader_End_1) (.cond (T 13) (.ops x_ref03_Reader_End_2) (.skip))) (.seq (.ops x_ref03_Reader_End_3) (.ret)))⟩
def y_ref03_Reader_End := PLift.up (And.intro (And.intro (@x_ref03_Reader_End_0e) (@x_ref03_Reader_End_1e)) (And.intro (@x_ref03_Reader_End_2e) (@x_ref03_Reader_End_3e)))
theorem c_ref03_Reader_End : funcC Try.prog Try.f38 = some x_ref03_Reader_End := by kernel_rfl
/- muniment/munimentlaw16.few -/
abbrev x_law16_few_0l : List XO := [
  ⟨some 2, .p (.mov (C (.string (strOf [])))), none⟩]
def x_law16_few_0 : List XO := x_law16_few_0l
theorem x_law16_few_0e : E3 x_law16_few_0 x_law16_few_0l := E3.rfl
abbrev x_law16_few_1l : List XO := [
  ⟨some 3, .p (.mov (T 0)), none⟩,
  ⟨some 4, .p (.lenS (T 3)), none⟩,
  ⟨some 5, .p (.bin .gtr (T 4) (C (.int .i64 1000))), none⟩]
def x_law16_few_1 : List XO := x_law16_few_1l
theorem x_law16_few_1e : E3 x_law16_few_1 x_law16_few_1l := E3.rfl
abbrev x_law16_few_2l : List XO := [
  ⟨some 6, .p (.mov (T 0)), none⟩,
  ⟨some 7, .p (.slcS (T 6) none (some (C (.int .i64 1000)))), none⟩,
  ⟨some 2, .p (.mov (T 7)), none⟩]
def x_law16_few_2 : List XO := x_law16_few_2l
theorem x_law16_few_2e : E3 x_law16_few_2 x_law16_few_2l := E3.rfl
abbrev x_law16_few_3l : List XO := [
  ⟨some 8, .p (.mov (T 0)), none⟩,
  ⟨some 2, .p (.mov (T 8)), none⟩]
def x_law16_few_3 : List XO := x_law16_few_3l
theorem x_law16_few_3e : E3 x_law16_few_3 x_law16_few_3l := E3.rfl
def x_law16_few : XF := ⟨1, [.tmp 2],
  .seq (.ops x_law16_few_0) (.seq (.seq (.ops x_law16_few_1) (.cond (T 5) (.seq (.ops x_law16_few_2) (.ret)) (.skip))) (.seq (.ops x_law16_few_3) (.ret)))⟩
def y_law16_few := PLift.up (And.intro (And.intro (@x_law16_few_0e) (@x_law16_few_1e)) (And.intro (@x_law16_few_2e) (@x_law16_few_3e)))
theorem c_law16_few : funcC Try.prog Try.f29 = some x_law16_few := by kernel_rfl
/- muniment/munimentlaw16.ring -/
abbrev x_law16_ring_0l : List XO := [
  ⟨some 2, .p (.mov (C (.pointer none))), none⟩]
def x_law16_ring_0 : List XO := x_law16_ring_0l
theorem x_law16_ring_0e : E3 x_law16_ring_0 x_law16_ring_0l := E3.rfl
abbrev x_law16_ring_1l : List XO := [
  ⟨some 6, .p (.mov (T 0)), none⟩,
  ⟨some 7, .call (.func 27) [(C (.string (strOf [115, 101, 101, 100]))), (T 6)], none⟩,
  ⟨some 5, .p (.mov (T 7)), none⟩,
  ⟨some 8, .p (.ext (T 5) 0), none⟩,
  ⟨some 9, .p (.ext (T 5) 1), none⟩,
  ⟨some 3, .p (.mov (T 8)), none⟩,
  ⟨some 4, .p (.mov (T 9)), none⟩]
def x_law16_ring_1 : List XO := x_law16_ring_1l
theorem x_law16_ring_1e : E3 x_law16_ring_1 x_law16_ring_1l := E3.rfl
abbrev x_law16_ring_2l : List XO := [
  ⟨some 10, .p (.mov (T 3)), none⟩,
  ⟨some 2, .p (.mov (T 10)), none⟩]
def x_law16_ring_2 : List XO := x_law16_ring_2l
theorem x_law16_ring_2e : E3 x_law16_ring_2 x_law16_ring_2l := E3.rfl
def x_law16_ring : XF := ⟨1, [.tmp 2],
  .seq (.ops x_law16_ring_0) (.seq (.ops x_law16_ring_1) (.seq (.ops x_law16_ring_2) (.ret)))⟩
def y_law16_ring := PLift.up (And.intro (@x_law16_ring_0e) (And.intro (@x_law16_ring_1e) (@x_law16_ring_2e)))
theorem c_law16_ring : funcC Try.prog Try.f31 = some x_law16_ring := by kernel_rfl
/- muniment/munimentlaw16.key -/
abbrev x_law16_key_0l : List XO := [
  ⟨some 2, .p (.mov (C (.string (strOf [])))), none⟩]
def x_law16_key_0 : List XO := x_law16_key_0l
theorem x_law16_key_0e : E3 x_law16_key_0 x_law16_key_0l := E3.rfl
abbrev x_law16_key_1l : List XO := [
  ⟨some 3, .p (.mov (T 0)), none⟩,
  ⟨some 4, .p (.cint .u8 (T 3)), none⟩,
  ⟨some 5, .a (.bslice [(.int .u8 0)] 1 [(0, 1, (T 4))]), none⟩,
  ⟨some 6, .r (.cb2s (T 5)), none⟩,
  ⟨some 7, .a (.bslice [(.string (strOf [])), (.string (strOf []))] 2 [(0, 1, (C (.string (strOf [115, 101, 101, 100])))), (1, 1, (T 6))]), none⟩,
  ⟨some 8, .call (.func 28) [(C (.int .u8 75)), (T 7)], none⟩,
  ⟨some 2, .p (.mov (T 8)), none⟩]
def x_law16_key_1 : List XO := x_law16_key_1l
theorem x_law16_key_1e : E3 x_law16_key_1 x_law16_key_1l := E3.rfl
def x_law16_key : XF := ⟨1, [.tmp 2],
  .seq (.ops x_law16_key_0) (.seq (.ops x_law16_key_1) (.ret))⟩
def y_law16_key := PLift.up (And.intro (@x_law16_key_0e) (@x_law16_key_1e))
theorem c_law16_key : funcC Try.prog Try.f39 = some x_law16_key := by kernel_rfl
/- muniment/munimentlaw16.sealed -/
abbrev x_law16_sealed_0l : List XO := [
  ⟨some 6, .p (.mov (C (.string (strOf [])))), none⟩]
def x_law16_sealed_0 : List XO := x_law16_sealed_0l
theorem x_law16_sealed_0e : E3 x_law16_sealed_0 x_law16_sealed_0l := E3.rfl
abbrev x_law16_sealed_1l : List XO := [
  ⟨some 9, .p (.mov (T 0)), none⟩,
  ⟨some 10, .p (.cint .u64 (T 9)), none⟩,
  ⟨some 11, .call (.func 40) [(T 10), (C (.int .i64 1))], none⟩,
  ⟨some 12, .p (.mov (T 1)), none⟩,
  ⟨some 13, .p (.cint .u64 (T 12)), none⟩,
  ⟨some 14, .call (.func 40) [(T 13), (C (.int .i64 1))], none⟩,
  ⟨some 7, .p (.mov (T 11)), none⟩,
  ⟨some 8, .p (.mov (T 14)), none⟩]
def x_law16_sealed_1 : List XO := x_law16_sealed_1l
theorem x_law16_sealed_1e : E3 x_law16_sealed_1 x_law16_sealed_1l := E3.rfl
abbrev x_law16_sealed_2l : List XO := [
  ⟨some 15, .p (.mov (T 7)), none⟩,
  ⟨some 16, .p (.mov (T 8)), none⟩,
  ⟨some 17, .p (.bin .add (T 15) (T 16)), none⟩,
  ⟨some 18, .p (.mov (T 2)), none⟩,
  ⟨some 19, .call (.func 73) [(T 18)], none⟩,
  ⟨some 20, .p (.bin .add (T 17) (T 19)), none⟩,
  ⟨some 21, .p (.mov (T 0)), none⟩,
  ⟨some 22, .call (.func 39) [(T 21)], none⟩,
  ⟨some 23, .p (.mov (T 7)), none⟩,
  ⟨some 24, .p (.mov (T 8)), none⟩,
  ⟨some 25, .p (.mov (T 2)), none⟩,
  ⟨some 26, .a (.bslice [(.string (strOf [])), (.string (strOf [])), (.string (strOf []))] 3 [(0, 1, (T 23)), (1, 1, (T 24)), (2, 1, (T 25))]), none⟩,
  ⟨some 27, .call (.func 28) [(C (.int .u8 77)), (T 26)], none⟩,
  ⟨some 28, .call (.func 19) [(T 22), (T 27)], none⟩,
  ⟨some 29, .p (.bin .add (T 20) (T 28)), none⟩,
  ⟨some 6, .p (.mov (T 29)), none⟩]
def x_law16_sealed_2 : List XO := x_law16_sealed_2l
theorem x_law16_sealed_2e : E3 x_law16_sealed_2 x_law16_sealed_2l := E3.rfl
def x_law16_sealed : XF := ⟨3, [.tmp 6],
  .seq (.ops x_law16_sealed_0) (.seq (.ops x_law16_sealed_1) (.seq (.ops x_law16_sealed_2) (.ret)))⟩
def y_law16_sealed := PLift.up (And.intro (@x_law16_sealed_0e) (And.intro (@x_law16_sealed_1e) (@x_law16_sealed_2e)))
theorem c_law16_sealed : funcC Try.prog Try.f34 = some x_law16_sealed := by kernel_rfl
/- muniment/munimentlaw16.awake -/
abbrev x_law16_awake_0l : List XO := [
  ⟨some 0, .p (.mov (C (.bool false))), none⟩]
def x_law16_awake_0 : List XO := x_law16_awake_0l
theorem x_law16_awake_0e : E3 x_law16_awake_0 x_law16_awake_0l := E3.rfl
abbrev x_law16_awake_1l : List XO := [
  ⟨some 7, .call (.func 31) [(C (.int .i64 3))], none⟩,
  ⟨some 8, .call (.func 30) [(T 7), (C (.int .i64 0)), (C (.int .i64 2)), (C (.string (strOf [120])))], none⟩,
  ⟨some 6, .p (.mov (T 8)), none⟩,
  ⟨some 9, .p (.ext (T 6) 0), none⟩,
  ⟨some 10, .p (.ext (T 6) 1), none⟩,
  ⟨some 1, .p (.mov (T 9)), none⟩,
  ⟨some 2, .p (.mov (T 10)), none⟩]
def x_law16_awake_1 : List XO := x_law16_awake_1l
theorem x_law16_awake_1e : E3 x_law16_awake_1 x_law16_awake_1l := E3.rfl
abbrev x_law16_awake_2l : List XO := [
  ⟨some 12, .call (.func 31) [(C (.int .i64 3))], none⟩,
  ⟨some 13, .p (.mov (T 1)), none⟩,
  ⟨some 14, .call (.func 33) [(T 12), (C (.int .i64 2)), (T 13)], none⟩,
  ⟨some 11, .p (.mov (T 14)), none⟩,
  ⟨some 15, .p (.ext (T 11) 0), none⟩,
  ⟨some 16, .p (.ext (T 11) 1), none⟩,
  ⟨some 17, .p (.ext (T 11) 2), none⟩,
  ⟨some 3, .p (.mov (T 15)), none⟩,
  ⟨some 4, .p (.mov (T 16)), none⟩,
  ⟨some 5, .p (.mov (T 17)), none⟩]
def x_law16_awake_2 : List XO := x_law16_awake_2l
theorem x_law16_awake_2e : E3 x_law16_awake_2 x_law16_awake_2l := E3.rfl
abbrev x_law16_awake_3l : List XO := [
  ⟨some 18, .p (.mov (T 2)), none⟩,
  ⟨some 19, .p (.eql false .int (T 18) (C (.int .i64 0))), none⟩,
  ⟨some 20, .p (.mov (T 19)), none⟩,
  ⟨some 21, .p (.mov (T 5)), some (20, true)⟩,
  ⟨some 22, .p (.eql false .int (T 21) (C (.int .i64 0))), some (20, true)⟩,
  ⟨some 23, .p (.pick (T 20) (T 22) (C (.bool false))), none⟩,
  ⟨some 24, .p (.mov (T 23)), none⟩,
  ⟨some 25, .p (.mov (T 3)), some (24, true)⟩,
  ⟨some 26, .p (.eql false .int (T 25) (C (.int .i64 0))), some (24, true)⟩,
  ⟨some 27, .p (.pick (T 24) (T 26) (C (.bool false))), none⟩,
  ⟨some 28, .p (.mov (T 27)), none⟩,
  ⟨some 29, .p (.mov (T 4)), some (28, true)⟩,
  ⟨some 30, .p (.eql false .str (T 29) (C (.string (strOf [120])))), some (28, true)⟩,
  ⟨some 31, .p (.pick (T 28) (T 30) (C (.bool false))), none⟩,
  ⟨some 0, .p (.mov (T 31)), none⟩]
def x_law16_awake_3 : List XO := x_law16_awake_3l
theorem x_law16_awake_3e : E3 x_law16_awake_3 x_law16_awake_3l := E3.rfl
def x_law16_awake : XF := ⟨0, [.tmp 0],
  .seq (.ops x_law16_awake_0) (.seq (.ops x_law16_awake_1) (.seq (.ops x_law16_awake_2) (.seq (.ops x_law16_awake_3) (.ret))))⟩
def y_law16_awake := PLift.up (And.intro (And.intro (@x_law16_awake_0e) (@x_law16_awake_1e)) (And.intro (@x_law16_awake_2e) (@x_law16_awake_3e)))
theorem c_law16_awake : funcC Try.prog Try.f32 = some x_law16_awake := by kernel_rfl
/- muniment/munimentlaw16.SealWrong -/
abbrev x_law16_SealWrong_0l : List XO := [
  ⟨some 3, .a (.box (T 0)), none⟩,
  ⟨some 6, .p (.mov (C (.bool false))), none⟩]
def x_law16_SealWrong_0 : List XO := x_law16_SealWrong_0l
theorem x_law16_SealWrong_0e : E3 x_law16_SealWrong_0 x_law16_SealWrong_0l := E3.rfl
abbrev x_law16_SealWrong_1l : List XO := [
  ⟨some 17, .p (.iaddrA 2 1 (T 3) (C (.int .i64 0))), none⟩,
  ⟨some 18, .r (.load1 (T 17)), none⟩,
  ⟨some 19, .p (.bin .rem (T 18) (C (.int .i64 5))), none⟩,
  ⟨some 20, .p (.bin .add (T 19) (C (.int .i64 5))), none⟩,
  ⟨some 21, .p (.bin .rem (T 20) (C (.int .i64 5))), none⟩,
  ⟨some 22, .p (.iaddrA 2 1 (T 3) (C (.int .i64 1))), none⟩,
  ⟨some 23, .r (.load1 (T 22)), none⟩,
  ⟨some 24, .p (.bin .rem (T 23) (C (.int .i64 16))), none⟩,
  ⟨some 25, .p (.bin .add (T 24) (C (.int .i64 16))), none⟩,
  ⟨some 26, .p (.bin .rem (T 25) (C (.int .i64 16))), none⟩,
  ⟨some 27, .p (.mov (T 1)), none⟩,
  ⟨some 28, .call (.func 29) [(T 27)], none⟩,
  ⟨some 7, .p (.mov (T 21)), none⟩,
  ⟨some 8, .p (.mov (T 26)), none⟩,
  ⟨some 9, .p (.mov (T 28)), none⟩]
def x_law16_SealWrong_1 : List XO := x_law16_SealWrong_1l
theorem x_law16_SealWrong_1e : E3 x_law16_SealWrong_1 x_law16_SealWrong_1l := E3.rfl
abbrev x_law16_SealWrong_2l : List XO := [
  ⟨some 30, .call (.func 31) [(C (.int .i64 5))], none⟩,
  ⟨some 31, .p (.mov (T 7)), none⟩,
  ⟨some 32, .p (.mov (T 8)), none⟩,
  ⟨some 33, .p (.mov (T 9)), none⟩,
  ⟨some 34, .call (.func 30) [(T 30), (T 31), (T 32), (T 33)], none⟩,
  ⟨some 29, .p (.mov (T 34)), none⟩,
  ⟨some 35, .p (.ext (T 29) 0), none⟩,
  ⟨some 36, .p (.ext (T 29) 1), none⟩,
  ⟨some 10, .p (.mov (T 35)), none⟩,
  ⟨some 11, .p (.mov (T 36)), none⟩]
def x_law16_SealWrong_2 : List XO := x_law16_SealWrong_2l
theorem x_law16_SealWrong_2e : E3 x_law16_SealWrong_2 x_law16_SealWrong_2l := E3.rfl
abbrev x_law16_SealWrong_3l : List XO := [
  ⟨some 37, .call (.func 32) [], none⟩,
  ⟨some 38, .p (.un .not (T 37)), none⟩,
  ⟨some 39, .p (.mov (T 38)), none⟩,
  ⟨some 40, .p (.mov (T 11)), some (39, false)⟩,
  ⟨some 41, .p (.eql true .int (T 40) (C (.int .i64 0))), some (39, false)⟩,
  ⟨some 42, .p (.pick (T 39) (C (.bool true)) (T 41)), none⟩]
def x_law16_SealWrong_3 : List XO := x_law16_SealWrong_3l
theorem x_law16_SealWrong_3e : E3 x_law16_SealWrong_3 x_law16_SealWrong_3l := E3.rfl
abbrev x_law16_SealWrong_4l : List XO := [
  ⟨some 6, .p (.mov (C (.bool false))), none⟩]
def x_law16_SealWrong_4 : List XO := x_law16_SealWrong_4l
theorem x_law16_SealWrong_4e : E3 x_law16_SealWrong_4 x_law16_SealWrong_4l := E3.rfl
abbrev x_law16_SealWrong_5l : List XO := [
  ⟨some 43, .p (.mov (T 2)), none⟩,
  ⟨some 44, .p (.mov (T 10)), none⟩,
  ⟨some 45, .p (.lenS (T 44)), none⟩,
  ⟨some 46, .p (.bin .rem (T 43) (T 45)), none⟩,
  ⟨some 47, .p (.mov (T 10)), none⟩,
  ⟨some 48, .p (.lenS (T 47)), none⟩,
  ⟨some 49, .p (.bin .add (T 46) (T 48)), none⟩,
  ⟨some 50, .p (.mov (T 10)), none⟩,
  ⟨some 51, .p (.lenS (T 50)), none⟩,
  ⟨some 52, .p (.bin .rem (T 49) (T 51)), none⟩,
  ⟨some 12, .p (.mov (T 52)), none⟩]
def x_law16_SealWrong_5 : List XO := x_law16_SealWrong_5l
theorem x_law16_SealWrong_5e : E3 x_law16_SealWrong_5 x_law16_SealWrong_5l := E3.rfl
abbrev x_law16_SealWrong_6l : List XO := [
  ⟨some 53, .p (.mov (T 10)), none⟩,
  ⟨some 54, .p (.mov (T 12)), none⟩,
  ⟨some 55, .p (.slcS (T 53) none (some (T 54))), none⟩,
  ⟨some 56, .p (.mov (T 10)), none⟩,
  ⟨some 57, .p (.mov (T 12)), none⟩,
  ⟨some 58, .p (.idxS (T 56) (T 57)), none⟩,
  ⟨some 59, .p (.bin .xor (T 58) (C (.int .u8 64))), none⟩,
  ⟨some 60, .a (.bslice [(.int .u8 0)] 1 [(0, 1, (T 59))]), none⟩,
  ⟨some 61, .r (.cb2s (T 60)), none⟩,
  ⟨some 62, .p (.bin .add (T 55) (T 61)), none⟩,
  ⟨some 63, .p (.mov (T 10)), none⟩,
  ⟨some 64, .p (.mov (T 12)), none⟩,
  ⟨some 65, .p (.bin .add (T 64) (C (.int .i64 1))), none⟩,
  ⟨some 66, .p (.slcS (T 63) (some (T 65)) none), none⟩,
  ⟨some 67, .p (.bin .add (T 62) (T 66)), none⟩,
  ⟨some 13, .p (.mov (T 67)), none⟩]
def x_law16_SealWrong_6 : List XO := x_law16_SealWrong_6l
theorem x_law16_SealWrong_6e : E3 x_law16_SealWrong_6 x_law16_SealWrong_6l := E3.rfl
abbrev x_law16_SealWrong_7l : List XO := [
  ⟨some 69, .call (.func 31) [(C (.int .i64 5))], none⟩,
  ⟨some 70, .p (.mov (T 8)), none⟩,
  ⟨some 71, .p (.mov (T 13)), none⟩,
  ⟨some 72, .call (.func 33) [(T 69), (T 70), (T 71)], none⟩,
  ⟨some 68, .p (.mov (T 72)), none⟩,
  ⟨some 73, .p (.ext (T 68) 0), none⟩,
  ⟨some 74, .p (.ext (T 68) 1), none⟩,
  ⟨some 75, .p (.ext (T 68) 2), none⟩,
  ⟨some 14, .p (.mov (T 73)), none⟩,
  ⟨some 15, .p (.mov (T 74)), none⟩,
  ⟨some 16, .p (.mov (T 75)), none⟩]
def x_law16_SealWrong_7 : List XO := x_law16_SealWrong_7l
theorem x_law16_SealWrong_7e : E3 x_law16_SealWrong_7 x_law16_SealWrong_7l := E3.rfl
abbrev x_law16_SealWrong_8l : List XO := [
  ⟨some 76, .p (.mov (T 16)), none⟩,
  ⟨some 77, .p (.eql true .int (T 76) (C (.int .i64 0))), none⟩,
  ⟨some 78, .p (.mov (T 77)), none⟩,
  ⟨some 79, .p (.mov (T 15)), some (78, true)⟩,
  ⟨some 80, .p (.eql false .str (T 79) (C (.string (strOf [])))), some (78, true)⟩,
  ⟨some 81, .p (.pick (T 78) (T 80) (C (.bool false))), none⟩,
  ⟨some 82, .p (.mov (T 81)), none⟩,
  ⟨some 83, .p (.mov (T 16)), some (82, false)⟩,
  ⟨some 84, .p (.eql false .int (T 83) (C (.int .i64 0))), some (82, false)⟩,
  ⟨some 85, .p (.mov (T 84)), some (82, false)⟩,
  ⟨some 86, .p (.mov (T 13)), some (85, true)⟩,
  ⟨some 87, .p (.mov (T 14)), some (85, true)⟩,
  ⟨some 88, .p (.mov (T 8)), some (85, true)⟩,
  ⟨some 89, .p (.mov (T 15)), some (85, true)⟩,
  ⟨some 90, .call (.func 34) [(T 87), (T 88), (T 89)], some (85, true)⟩,
  ⟨some 91, .p (.eql false .str (T 86) (T 90)), some (85, true)⟩,
  ⟨some 92, .p (.pick (T 85) (T 91) (C (.bool false))), some (82, false)⟩,
  ⟨some 93, .p (.pick (T 82) (C (.bool true)) (T 92)), none⟩,
  ⟨some 6, .p (.mov (T 93)), none⟩]
def x_law16_SealWrong_8 : List XO := x_law16_SealWrong_8l
theorem x_law16_SealWrong_8e : E3 x_law16_SealWrong_8 x_law16_SealWrong_8l := E3.rfl
def x_law16_SealWrong : XF := ⟨3, [.tmp 6],
  .seq (.ops x_law16_SealWrong_0) (.seq (.draw x_law16_SealWrong_1 [(1, (15, [])), (6, (15, []))]) (.seq (.ops x_law16_SealWrong_2) (.seq (.seq (.ops x_law16_SealWrong_3) (.cond (T 42) (.seq (.ops x_law16_SealWrong_4) (.ret)) (.skip))) (.seq (.ops x_law16_SealWrong_5) (.seq (.draw x_law16_SealWrong_6 []) (.seq (.ops x_law16_SealWrong_7) (.seq (.ops x_law16_SealWrong_8) (.ret))))))))⟩
def y_law16_SealWrong := PLift.up (And.intro (And.intro (And.intro (@x_law16_SealWrong_0e) (@x_law16_SealWrong_1e)) (And.intro (@x_law16_SealWrong_2e) (@x_law16_SealWrong_3e))) (And.intro (And.intro (@x_law16_SealWrong_4e) (@x_law16_SealWrong_5e)) (And.intro (@x_law16_SealWrong_6e) (And.intro (@x_law16_SealWrong_7e) (@x_law16_SealWrong_8e)))))
theorem c_law16_SealWrong : funcC Try.prog Try.f10 = some x_law16_SealWrong := by kernel_rfl
end Go.X
end

section
open Go Go.X
namespace Go.X
set_option linter.unusedVariables false
theorem numB_succ (n k : Nat) : numB n (k + 1) = numB (n / 256) k ++ [UInt8.ofNat n] := by
  unfold numB
  rw [List.range_succ, List.map_append]
  congr 1
  · apply List.map_congr_left
    intro i hi
    have hi : i < k := by simpa using hi
    congr 1
    rw [Nat.shiftRight_eq_div_pow, Nat.shiftRight_eq_div_pow, Nat.div_div_eq_div_mul]
    congr 1
    have : 8 * (k + 1 - 1 - i) = 8 + 8 * (k - 1 - i) := by omega
    rw [this, Nat.pow_add]
  · simp
theorem cfi_comes {pr : Prog} {f : Nat} {F : XF} {args : List Value} {h : Heap} {v : Value} (hp : pr.prim f = none) (hF : pr.code f = some F) (hn : args.length = F.nargs) (hc : Comes pr F args h v) : ∃ h1, cfi pr f args h = some (v, h1) ∧ Grows h h1 := by
  obtain ⟨e, t', h1, hr, he, hres, hg⟩ := hc
  exact ⟨h1, cfi_code hp hF hn ⟨e, t', h1, hr, he, hres, rfl⟩, hg⟩
theorem quo_u64 {n : Nat} (hn : n < 18446744073709551616) : binX .quo (uw .u64 n) (.int .u64 256) = some (uw .u64 (n / 256)) := by
  rw [← nat_u64 hn, show (256 : Int) = ((256 : Nat) : Int) from rfl, quo_nat (by decide), ← nat_u64 (by omega)]
  congr 2
  unfold IntKind.wrap
  simp only [IntKind.signed, IntKind.bits, Bool.false_and, Bool.false_eq_true, if_false]
  rw [show (2 : Int) ^ 64 = 18446744073709551616 from rfl]
  omega
theorem rem_u64 {n : Nat} (hn : n < 18446744073709551616) : binX .rem (uw .u64 n) (.int .u64 256) = some (uw .u64 (n % 256)) := by
  rw [← nat_u64 hn, show (256 : Int) = ((256 : Nat) : Int) from rfl, rem_nat (by decide), ← nat_u64 (by omega)]
theorem num3_ok (pr : Prog) (hp : pr.prim 40 = none) (hc : pr.code 40 = some x_ref03_Number) : ∀ (k n : Nat) (h : Heap), n < 18446744073709551616 → k ≤ 8 → Comes pr x_ref03_Number [uw .u64 n, .int .i64 (k : Int)] h (.string (strOf (numB n k)))
  | 0, n, h, hn, hk => by
    apply Comes.of
    unfold x_ref03_Number
    dsimp only [initFr]
    (repeat (first | refine wpk_seq ?_ | refine wpk_block ?_ | refine wpk_scope ?_ | refine wpk_skip ?_ | refine kont_code ?_ | refine kont_blk ?_ | refine kont_nil ?_ | refine wpk_exit ?_ | refine exit_code ?_ | refine exit_lp ?_ | refine exit_here ?_ | refine exit_there (by decide) ?_ | refine wpk_ret ?_ | ((first | refine wpk_ops ?_ | refine wpk_draw0 ?_ | refine wpk_drawS rfl rfl ?_ | refine wpk_drawC rfl ?_ | refine wpk_condE ?_); simp only [y_ref03_Number.down, cintV_i, lemS.down, lemC.down, Int.reduceBEq, Nat.reduceAdd, Nat.reduceLeDiff, reduceIte, Nat.reduceEqDiff, Int.reduceLT, Int.reduceLE, Int.reduceGT, Int.reduceGE, Int.reduceEq, Int.reduceAdd, Int.reduceSub, Int.reduceMul, reduceCtorEq])))
    exact ⟨.inr rfl, by (simp only [y_ref03_Number.down, cintV_i, lemS.down, lemC.down, Int.reduceBEq, Nat.reduceAdd, Nat.reduceLeDiff, reduceIte, Nat.reduceEqDiff, Int.reduceLT, Int.reduceLE, Int.reduceGT, Int.reduceGE, Int.reduceEq, Int.reduceAdd, Int.reduceSub, Int.reduceMul, reduceCtorEq, numB]) <;> rfl, Grows.refl h⟩
  | k + 1, n, h, hn, hk => by
    have ih := num3_ok pr hp hc k (n / 256) h (by omega) (by omega)
    apply Comes.of
    unfold x_ref03_Number
    dsimp only [initFr]
    have d1 : decide (((k + 1 : Nat) : Int) > 8) = false := by simp; omega
    have d2 : decide (((k + 1 : Nat) : Int) ≤ 0) = false := by rw [decide_eq_false_iff_not]; omega
    obtain ⟨h1, e1, g1⟩ := cfi_comes hp hc rfl ih
    have e1 : cfi pr 40 [uw .u64 (n / 256), .int .i64 (k : Int)] h = _ := e1
    have q1 := quo_u64 hn
    have q2 := rem_u64 hn
    have w1 : IntKind.i64.wrap (((k + 1 : Nat) : Int) - 1) = (k : Int) := by rw [wrap_i64 (by omega) (by omega)]; omega
    (repeat (first | refine wpk_seq ?_ | refine wpk_block ?_ | refine wpk_scope ?_ | refine wpk_skip ?_ | refine kont_code ?_ | refine kont_blk ?_ | refine kont_nil ?_ | refine wpk_exit ?_ | refine exit_code ?_ | refine exit_lp ?_ | refine exit_here ?_ | refine exit_there (by decide) ?_ | refine wpk_ret ?_ | ((first | refine wpk_ops ?_ | refine wpk_draw0 ?_ | refine wpk_drawS rfl rfl ?_ | refine wpk_drawC rfl ?_ | refine wpk_condE ?_); simp only [y_ref03_Number.down, cintV_i, lemS.down, lemC.down, Int.reduceBEq, Nat.reduceAdd, Nat.reduceLeDiff, reduceIte, Nat.reduceEqDiff, Int.reduceLT, Int.reduceLE, Int.reduceGT, Int.reduceGE, Int.reduceEq, Int.reduceAdd, Int.reduceSub, Int.reduceMul, reduceCtorEq, d1, d2])))
    refine wpk_drawP rfl ?_
    have ad := bin_cat (a := numB (n / 256) k) (b := [UInt8.ofNat (n % 256)]) (by rw [numB_len]; unfold roomX; simp; omega)
    have um : UInt8.ofNat (n % 256) = UInt8.ofNat n := by apply UInt8.toNat.inj; simp
    have bc := byte_cell (p := n % 256) (by omega) (h := h1)
    simp only [y_ref03_Number.down, cintV_i, lemS.down, lemC.down, Int.reduceBEq, Nat.reduceAdd, Nat.reduceLeDiff, reduceIte, Nat.reduceEqDiff, Int.reduceLT, Int.reduceLE, Int.reduceGT, Int.reduceGE, Int.reduceEq, Int.reduceAdd, Int.reduceSub, Int.reduceMul, reduceCtorEq, d1, d2, lemH.down, lemW.down, q1, q2, w1, e1, bc]
    refine ⟨?_, ?_⟩
    · refine checkAt_one rfl rfl rfl rfl rfl (b := .cells [uw .u8 (n % 256)]) (mk := .slice 1 1 none) (v := .string (strOf [UInt8.ofNat (n % 256)])) ?_ ?_ ?_
      · simp only [y_ref03_Number.down, cintV_i, lemS.down, lemC.down, Int.reduceBEq, Nat.reduceAdd, Nat.reduceLeDiff, reduceIte, Nat.reduceEqDiff, Int.reduceLT, Int.reduceLE, Int.reduceGT, Int.reduceGE, Int.reduceEq, Int.reduceAdd, Int.reduceSub, Int.reduceMul, reduceCtorEq, lemH.down]
      · simp only [y_ref03_Number.down, cintV_i, lemS.down, lemC.down, Int.reduceBEq, Nat.reduceAdd, Nat.reduceLeDiff, reduceIte, Nat.reduceEqDiff, Int.reduceLT, Int.reduceLE, Int.reduceGT, Int.reduceGE, Int.reduceEq, Int.reduceAdd, Int.reduceSub, Int.reduceMul, reduceCtorEq, lemH.down]
        exact bc
      · simp only [y_ref03_Number.down, cintV_i, lemS.down, lemC.down, Int.reduceBEq, Nat.reduceAdd, Nat.reduceLeDiff, reduceIte, Nat.reduceEqDiff, Int.reduceLT, Int.reduceLE, Int.reduceGT, Int.reduceGE, Int.reduceEq, Int.reduceAdd, Int.reduceSub, Int.reduceMul, reduceCtorEq, lemH.down]
        exact cb2sV_at.trans (byte_cell (p := n % 256) (by omega) (h := h.at h1.next))
    · simp only [y_ref03_Number.down, cintV_i, lemS.down, lemC.down, Int.reduceBEq, Nat.reduceAdd, Nat.reduceLeDiff, reduceIte, Nat.reduceEqDiff, Int.reduceLT, Int.reduceLE, Int.reduceGT, Int.reduceGE, Int.reduceEq, Int.reduceAdd, Int.reduceSub, Int.reduceMul, reduceCtorEq, ad]
      (repeat (first | refine wpk_seq ?_ | refine wpk_block ?_ | refine wpk_scope ?_ | refine wpk_skip ?_ | refine kont_code ?_ | refine kont_blk ?_ | refine kont_nil ?_ | refine wpk_exit ?_ | refine exit_code ?_ | refine exit_lp ?_ | refine exit_here ?_ | refine exit_there (by decide) ?_ | refine wpk_ret ?_ | ((first | refine wpk_ops ?_ | refine wpk_draw0 ?_ | refine wpk_drawS rfl rfl ?_ | refine wpk_drawC rfl ?_ | refine wpk_condE ?_); simp only [y_ref03_Number.down, cintV_i, lemS.down, lemC.down, Int.reduceBEq, Nat.reduceAdd, Nat.reduceLeDiff, reduceIte, Nat.reduceEqDiff, Int.reduceLT, Int.reduceLE, Int.reduceGT, Int.reduceGE, Int.reduceEq, Int.reduceAdd, Int.reduceSub, Int.reduceMul, reduceCtorEq])))
      refine ⟨.inr rfl, ?_, g1.trans Grows.new⟩
      simp only [y_ref03_Number.down, cintV_i, lemS.down, lemC.down, Int.reduceBEq, Nat.reduceAdd, Nat.reduceLeDiff, reduceIte, Nat.reduceEqDiff, Int.reduceLT, Int.reduceLE, Int.reduceGT, Int.reduceGE, Int.reduceEq, Int.reduceAdd, Int.reduceSub, Int.reduceMul, reduceCtorEq, numB_succ, um]
end Go.X
end

section
open Go Go.X
namespace Go.X
set_option linter.unusedVariables false
/-- a reader by value at A, a result at B -/
def RV (g : Heap) (A B : Nat) (r : RS) : Prop := Rd g A r ∧ (∃ l, Var g B l ∧ l.length = 3) ∧ A ≠ B
abbrev RSv (r : RS) : Value := .agg (rcells r).toArray
theorem cellsOf_RS {r : RS} : cellsOf (.agg (rcells r).toArray) = rcells r := by simp [cellsOf]
theorem RV.begin {r : RS} (ok : r.ok) (h : Heap) (z : List Value) (hz : z.length = 3) : ∃ g, (h.new (rcells r)).new z = g ∧ RV g h.next (h.next + 1) r ∧ Grows h g :=
  ⟨_, rfl, ⟨⟨ok, Var.new_self.new_old⟩, ⟨z, Var.new_self, hz⟩, by omega⟩, Grows.new.trans Grows.new⟩
section
variable {g : Heap} {A B : Nat} {r : RS}
theorem RV.lN (hr : RV g A B r) : ∀ sp, g.loadN ⟨A, 0, sp⟩ 3 = some (rcells r) := fun sp => hr.1.2.loadAll rfl
theorem RV.st (hr : RV g A B r) (q : RS) : storeV g 3 (.pointer (some ⟨B, 0, none⟩)) (.agg (rcells q).toArray) = some (.tuple #[], g.wr B (rcells q)) := by
  obtain ⟨l, hl, hn⟩ := hr.2.1
  exact hl.storeAll rfl hn (by decide) rfl
theorem RV.out (hr : RV g A B r) (q : RS) : ∀ sp, (g.wr B (rcells q)).loadN ⟨B, 0, sp⟩ 3 = some (rcells q) := fun sp => by
  obtain ⟨l, hl, hn⟩ := hr.2.1
  exact hl.wr.loadAll rfl
theorem RV.wr (hr : RV g A B r) {q : RS} (hq : q.ok) : RV (g.wr A (rcells q)) A B q := by
  obtain ⟨l, hl, hn⟩ := hr.2.1
  exact ⟨hr.1.wr hq, ⟨l, hl.wr_ne (fun h => hr.2.2 h.symm), hn⟩, hr.2.2⟩
theorem RV.far (hr : RV g A B r) (m : List Value) : Rd (g.wr B m) A r := ⟨hr.1.1, hr.1.2.wr_ne hr.2.2⟩
end
theorem res_cellN_tmp {t : Fr} {h : Heap} {i n j : Nat} {a : Addr} {vs : List Value} {v : Value} (ht : t.get i = .pointer (some a)) (hl : h.loadN a n = some vs) (hv : t.get j = v) : resultX t h [.cellN i n, .tmp j] = some (.tuple #[.agg vs.toArray, v]) := by
  simp [resultX, resAll, resX, ht, hl, hv, tupleOf]
theorem rBytes_ok (pr : Prog) (r : RS) (ok : r.ok) (n : Int) (hn : -9223372036854775808 ≤ n ∧ n < 9223372036854775808) (h : Heap) :
    Comes pr x_ref03_Reader_Bytes [RSv r, .int .i64 n] h (.tuple #[RSv (bytesR r n).1, .string (strOf (bytesR r n).2)]) := by
  apply Comes.of
  unfold x_ref03_Reader_Bytes RSv
  dsimp only [initFr]
  have hr64 : roomX = 140737488355328 := rfl
  have ok' := ok
  unfold RS.ok at ok'
  obtain ⟨g, hg, hr, gg⟩ := RV.begin ok h [.string (strOf []), .int .i64 0, .int .i64 0] rfl
  have w : IntKind.i64.wrap ((r.s.length : Int) - r.pos) = (r.s.length : Int) - r.pos := wrap_i64 (by omega) (by omega)
  have hgA : ∀ m q, Grows h ((g.wr h.next m).wr (h.next + 1) q) := fun m q => (gg.then (Keeps.wr (A := h.next) (l := m)) (fun A hA => by omega)).then (Keeps.wr (A := h.next + 1) (l := q)) (fun A hA => by omega)
  have hgB : ∀ q, Grows h (g.wr (h.next + 1) q) := fun q => gg.then (Keeps.wr (A := h.next + 1) (l := q)) (fun A hA => by omega)
  by_cases h0 : r.err = 0
  · have b0 : ((r.err : Int) == 0) = true := by rw [h0]; rfl
    by_cases h1 : n < 0
    · have d1 : decide (n < 0) = true := by simpa using h1
      have hq : RS.ok ⟨r.s, r.pos, 1⟩ := ok
      (repeat (first | refine wpk_seq ?_ | refine wpk_block ?_ | refine wpk_scope ?_ | refine wpk_skip ?_ | refine kont_code ?_ | refine kont_blk ?_ | refine kont_nil ?_ | refine wpk_exit ?_ | refine exit_code ?_ | refine exit_lp ?_ | refine exit_here ?_ | refine exit_there (by decide) ?_ | refine wpk_ret ?_ | ((first | refine wpk_ops ?_ | refine wpk_draw0 ?_ | refine wpk_drawS rfl rfl ?_ | refine wpk_drawC rfl ?_ | refine wpk_condE ?_); simp only [y_ref03_Reader_Bytes.down, cintV_i, lemS.down, lemC.down, Int.reduceBEq, Nat.reduceAdd, Nat.reduceLeDiff, reduceIte, Nat.reduceEqDiff, Int.reduceLT, Int.reduceLE, Int.reduceGT, Int.reduceGE, Int.reduceEq, Int.reduceAdd, Int.reduceSub, Int.reduceMul, reduceCtorEq, cellsOf_RS, lemH.down, hg, hr.1.l2, b0, d1, hr.1.s2L, (hr.wr hq).lN, (hr.wr hq).st])))
      refine ⟨.inr rfl, ?_, hgA _ _⟩
      unfold bytesR
      rw [if_neg (by omega), if_pos h1]
      exact res_cellN_tmp (by simp only [y_ref03_Reader_Bytes.down, cintV_i, lemS.down, lemC.down, Int.reduceBEq, Nat.reduceAdd, Nat.reduceLeDiff, reduceIte, Nat.reduceEqDiff, Int.reduceLT, Int.reduceLE, Int.reduceGT, Int.reduceGE, Int.reduceEq, Int.reduceAdd, Int.reduceSub, Int.reduceMul, reduceCtorEq]) ((hr.wr hq).out _ none) (by simp only [y_ref03_Reader_Bytes.down, cintV_i, lemS.down, lemC.down, Int.reduceBEq, Nat.reduceAdd, Nat.reduceLeDiff, reduceIte, Nat.reduceEqDiff, Int.reduceLT, Int.reduceLE, Int.reduceGT, Int.reduceGE, Int.reduceEq, Int.reduceAdd, Int.reduceSub, Int.reduceMul, reduceCtorEq])
    · have d1 : decide (n < 0) = false := by simpa using h1
      by_cases h2 : (r.s.length : Int) - r.pos < n
      · have d2 : decide (n > (r.s.length : Int) - r.pos) = true := by simpa using h2
        have hq : RS.ok ⟨r.s, r.pos, 4⟩ := ok
        (repeat (first | refine wpk_seq ?_ | refine wpk_block ?_ | refine wpk_scope ?_ | refine wpk_skip ?_ | refine kont_code ?_ | refine kont_blk ?_ | refine kont_nil ?_ | refine wpk_exit ?_ | refine exit_code ?_ | refine exit_lp ?_ | refine exit_here ?_ | refine exit_there (by decide) ?_ | refine wpk_ret ?_ | ((first | refine wpk_ops ?_ | refine wpk_draw0 ?_ | refine wpk_drawS rfl rfl ?_ | refine wpk_drawC rfl ?_ | refine wpk_condE ?_); simp only [y_ref03_Reader_Bytes.down, cintV_i, lemS.down, lemC.down, Int.reduceBEq, Nat.reduceAdd, Nat.reduceLeDiff, reduceIte, Nat.reduceEqDiff, Int.reduceLT, Int.reduceLE, Int.reduceGT, Int.reduceGE, Int.reduceEq, Int.reduceAdd, Int.reduceSub, Int.reduceMul, reduceCtorEq, cellsOf_RS, lemH.down, hg, hr.1.l2, hr.1.l1, hr.1.l0, b0, d1, w, d2, hr.1.s2L, (hr.wr hq).lN, (hr.wr hq).st])))
        refine ⟨.inr rfl, ?_, hgA _ _⟩
        unfold bytesR
        rw [if_neg (by omega), if_neg h1, if_pos h2]
        exact res_cellN_tmp (by simp only [y_ref03_Reader_Bytes.down, cintV_i, lemS.down, lemC.down, Int.reduceBEq, Nat.reduceAdd, Nat.reduceLeDiff, reduceIte, Nat.reduceEqDiff, Int.reduceLT, Int.reduceLE, Int.reduceGT, Int.reduceGE, Int.reduceEq, Int.reduceAdd, Int.reduceSub, Int.reduceMul, reduceCtorEq]) ((hr.wr hq).out _ none) (by simp only [y_ref03_Reader_Bytes.down, cintV_i, lemS.down, lemC.down, Int.reduceBEq, Nat.reduceAdd, Nat.reduceLeDiff, reduceIte, Nat.reduceEqDiff, Int.reduceLT, Int.reduceLE, Int.reduceGT, Int.reduceGE, Int.reduceEq, Int.reduceAdd, Int.reduceSub, Int.reduceMul, reduceCtorEq])
      · have d2 : decide (n > (r.s.length : Int) - r.pos) = false := by simp only [gt_iff_lt, decide_eq_false_iff_not]; exact h2
        obtain ⟨m, rfl⟩ : ∃ m : Nat, n = (m : Int) := ⟨n.toNat, by omega⟩
        have w2 : IntKind.i64.wrap ((r.pos : Int) + (m : Int)) = ((r.pos + m : Nat) : Int) := by rw [wrap_i64 (by omega) (by omega)]; omega
        have w3 : IntKind.i64.wrap (((r.pos + m : Nat) : Int) - (m : Int)) = (r.pos : Int) := by rw [wrap_i64 (by omega) (by omega)]; omega
        have hq : RS.ok ⟨r.s, r.pos + m, r.err⟩ := ⟨by show r.pos + m ≤ r.s.length; omega, ok'.2⟩
        have h2r := hr.wr hq
        have ct := cut_both (s := r.s) (n := r.pos) (m := r.pos + m) (k := .i64) (k' := .i64) (by omega) (by omega)
        (repeat (first | refine wpk_seq ?_ | refine wpk_block ?_ | refine wpk_scope ?_ | refine wpk_skip ?_ | refine kont_code ?_ | refine kont_blk ?_ | refine kont_nil ?_ | refine wpk_exit ?_ | refine exit_code ?_ | refine exit_lp ?_ | refine exit_here ?_ | refine exit_there (by decide) ?_ | refine wpk_ret ?_ | ((first | refine wpk_ops ?_ | refine wpk_draw0 ?_ | refine wpk_drawC rfl ?_ | refine wpk_condE ?_); simp only [y_ref03_Reader_Bytes.down, cintV_i, lemS.down, lemC.down, Int.reduceBEq, Nat.reduceAdd, Nat.reduceLeDiff, reduceIte, Nat.reduceEqDiff, Int.reduceLT, Int.reduceLE, Int.reduceGT, Int.reduceGE, Int.reduceEq, Int.reduceAdd, Int.reduceSub, Int.reduceMul, reduceCtorEq, cellsOf_RS, lemH.down, hg, hr.1.l2, hr.1.l1, hr.1.l0, b0, d1, w, d2, w2, hr.1.s1, h2r.1.l0, h2r.1.l1, h2r.lN, h2r.st, w3, ct])))
        have fr := h2r.far (rcells ⟨r.s, r.pos + m, r.err⟩)
        refine ⟨⟨?_, ?_, ?_⟩, ?_⟩
        · (refine checkAt_eq rfl rfl rfl ?_ ?_ <;> simp only [y_ref03_Reader_Bytes.down, cintV_i, lemS.down, lemC.down, Int.reduceBEq, Nat.reduceAdd, Nat.reduceLeDiff, reduceIte, Nat.reduceEqDiff, Int.reduceLT, Int.reduceLE, Int.reduceGT, Int.reduceGE, Int.reduceEq, Int.reduceAdd, Int.reduceSub, Int.reduceMul, reduceCtorEq, fr.l0, h2r.1.l0, r_load1V, load1V_p, r_loadNV, loadNV_p, aggV_some, Option.isSome_some])
        · (refine checkAt_eq rfl rfl rfl ?_ ?_ <;> simp only [y_ref03_Reader_Bytes.down, cintV_i, lemS.down, lemC.down, Int.reduceBEq, Nat.reduceAdd, Nat.reduceLeDiff, reduceIte, Nat.reduceEqDiff, Int.reduceLT, Int.reduceLE, Int.reduceGT, Int.reduceGE, Int.reduceEq, Int.reduceAdd, Int.reduceSub, Int.reduceMul, reduceCtorEq, fr.l1, h2r.1.l1, r_load1V, load1V_p, r_loadNV, loadNV_p, aggV_some, Option.isSome_some])
        · (refine checkAt_eq rfl rfl rfl ?_ ?_ <;> simp only [y_ref03_Reader_Bytes.down, cintV_i, lemS.down, lemC.down, Int.reduceBEq, Nat.reduceAdd, Nat.reduceLeDiff, reduceIte, Nat.reduceEqDiff, Int.reduceLT, Int.reduceLE, Int.reduceGT, Int.reduceGE, Int.reduceEq, Int.reduceAdd, Int.reduceSub, Int.reduceMul, reduceCtorEq, fr.l1, h2r.1.l1, r_load1V, load1V_p, r_loadNV, loadNV_p, aggV_some, Option.isSome_some])
        · (repeat (first | refine wpk_seq ?_ | refine wpk_block ?_ | refine wpk_scope ?_ | refine wpk_skip ?_ | refine kont_code ?_ | refine kont_blk ?_ | refine kont_nil ?_ | refine wpk_exit ?_ | refine exit_code ?_ | refine exit_lp ?_ | refine exit_here ?_ | refine exit_there (by decide) ?_ | refine wpk_ret ?_ | ((first | refine wpk_ops ?_ | refine wpk_draw0 ?_ | refine wpk_drawS rfl rfl ?_ | refine wpk_drawC rfl ?_ | refine wpk_condE ?_); simp only [y_ref03_Reader_Bytes.down, cintV_i, lemS.down, lemC.down, Int.reduceBEq, Nat.reduceAdd, Nat.reduceLeDiff, reduceIte, Nat.reduceEqDiff, Int.reduceLT, Int.reduceLE, Int.reduceGT, Int.reduceGE, Int.reduceEq, Int.reduceAdd, Int.reduceSub, Int.reduceMul, reduceCtorEq])))
          refine ⟨.inr rfl, ?_, hgA _ _⟩
          unfold bytesR
          rw [if_neg (by omega), if_neg h1, if_neg h2]
          exact res_cellN_tmp (by simp only [y_ref03_Reader_Bytes.down, cintV_i, lemS.down, lemC.down, Int.reduceBEq, Nat.reduceAdd, Nat.reduceLeDiff, reduceIte, Nat.reduceEqDiff, Int.reduceLT, Int.reduceLE, Int.reduceGT, Int.reduceGE, Int.reduceEq, Int.reduceAdd, Int.reduceSub, Int.reduceMul, reduceCtorEq]) (h2r.out _ none) (by (simp only [y_ref03_Reader_Bytes.down, cintV_i, lemS.down, lemC.down, Int.reduceBEq, Nat.reduceAdd, Nat.reduceLeDiff, reduceIte, Nat.reduceEqDiff, Int.reduceLT, Int.reduceLE, Int.reduceGT, Int.reduceGE, Int.reduceEq, Int.reduceAdd, Int.reduceSub, Int.reduceMul, reduceCtorEq]) <;> simp)
  · have b0 : ((r.err : Int) == 0) = false := by rw [beq_eq_false_iff_ne]; omega
    (repeat (first | refine wpk_seq ?_ | refine wpk_block ?_ | refine wpk_scope ?_ | refine wpk_skip ?_ | refine kont_code ?_ | refine kont_blk ?_ | refine kont_nil ?_ | refine wpk_exit ?_ | refine exit_code ?_ | refine exit_lp ?_ | refine exit_here ?_ | refine exit_there (by decide) ?_ | refine wpk_ret ?_ | ((first | refine wpk_ops ?_ | refine wpk_draw0 ?_ | refine wpk_drawS rfl rfl ?_ | refine wpk_drawC rfl ?_ | refine wpk_condE ?_); simp only [y_ref03_Reader_Bytes.down, cintV_i, lemS.down, lemC.down, Int.reduceBEq, Nat.reduceAdd, Nat.reduceLeDiff, reduceIte, Nat.reduceEqDiff, Int.reduceLT, Int.reduceLE, Int.reduceGT, Int.reduceGE, Int.reduceEq, Int.reduceAdd, Int.reduceSub, Int.reduceMul, reduceCtorEq, cellsOf_RS, lemH.down, hg, hr.1.l2, b0, hr.lN, hr.st])))
    refine ⟨.inr rfl, ?_, hgB _⟩
    unfold bytesR
    rw [if_pos h0]
    exact res_cellN_tmp (by simp only [y_ref03_Reader_Bytes.down, cintV_i, lemS.down, lemC.down, Int.reduceBEq, Nat.reduceAdd, Nat.reduceLeDiff, reduceIte, Nat.reduceEqDiff, Int.reduceLT, Int.reduceLE, Int.reduceGT, Int.reduceGE, Int.reduceEq, Int.reduceAdd, Int.reduceSub, Int.reduceMul, reduceCtorEq]) (hr.out _ none) (by simp only [y_ref03_Reader_Bytes.down, cintV_i, lemS.down, lemC.down, Int.reduceBEq, Nat.reduceAdd, Nat.reduceLeDiff, reduceIte, Nat.reduceEqDiff, Int.reduceLT, Int.reduceLE, Int.reduceGT, Int.reduceGE, Int.reduceEq, Int.reduceAdd, Int.reduceSub, Int.reduceMul, reduceCtorEq])
end Go.X
end

section
open Go Go.X
namespace Go.X
set_option linter.unusedVariables false
def rsL : List Value → Option RS
  | [.string s, .int .i64 p, .int .i64 e] => if 0 ≤ p ∧ 0 ≤ e ∧ p.toNat ≤ s.data.toList.length ∧ s.data.toList.length ≤ roomX then some ⟨s.data.toList, p.toNat, e.toNat⟩ else none
  | _ => none
theorem rsL_eq {l : List Value} {r : RS} (h : rsL l = some r) : l = rcells r ∧ r.ok := by
  unfold rsL at h
  split at h
  · rename_i s p e
    split at h
    · rename_i hc
      cases h
      refine ⟨?_, hc.2.2.1, hc.2.2.2⟩
      simp only [rcells]
      rw [strOf_data, show ((p.toNat : Nat) : Int) = p by omega, show ((e.toNat : Nat) : Int) = e by omega]
    · cases h
  · cases h
theorem rsL_at {r : RS} (ok : r.ok) : rsL (rcells r) = some r := by
  simp only [rcells, rsL, data_strOf, Int.toNat_natCast]
  rw [if_pos ⟨by omega, by omega, ok.1, ok.2⟩]
def rbytesS : List Value → Option Value
  | [.agg c, .int .i64 n] => match rsL c.toList with
    | some r => if -9223372036854775808 ≤ n ∧ n < 9223372036854775808 then some (.tuple #[RSv (bytesR r n).1, .string (strOf (bytesR r n).2)]) else none
    | none => none
  | _ => none
theorem flat_RS {r : RS} {v : Value} (hv : flatA v = true) : flatV (.tuple #[RSv r, v]) = true := by
  show (flatA (RSv r) && (flatA v && true)) = true
  rw [hv]
  rfl
theorem agg_rs {c : Array Value} {r : RS} (h : rsL c.toList = some r) : Value.agg c = RSv r ∧ r.ok := by
  obtain ⟨h1, h2⟩ := rsL_eq h
  refine ⟨?_, h2⟩
  unfold RSv
  rw [← h1]
theorem rbytesS_ok {args : List Value} {v : Value} (h : rbytesS args = some v) : args.length = 2 ∧ flatV v = true ∧ ∀ pr h, Comes pr x_ref03_Reader_Bytes args h v := by
  unfold rbytesS at h
  split at h
  · rename_i c n
    split at h
    · rename_i r hr
      split at h
      · rename_i hc
        cases h
        rw [(agg_rs hr).1]
        exact ⟨rfl, flat_RS rfl, fun pr h => rBytes_ok pr r (agg_rs hr).2 n hc h⟩
      · cases h
    · cases h
  · cases h
theorem rbytesS_at {r : RS} (ok : r.ok) {n : Int} (hn : -9223372036854775808 ≤ n ∧ n < 9223372036854775808) : rbytesS [.agg (rcells r).toArray, .int .i64 n] = some (.tuple #[.agg (rcells (bytesR r n).1).toArray, .string (strOf (bytesR r n).2)]) := by
  simp only [rbytesS, rsL_at ok]
  rw [if_pos hn]
theorem RV.stA {g : Heap} {A B : Nat} {r : RS} (hr : RV g A B r) (q : RS) : storeV g 3 (.pointer (some ⟨A, 0, none⟩)) (.agg (rcells q).toArray) = some (.tuple #[], g.wr A (rcells q)) := hr.1.2.storeAll rfl rfl (by decide) rfl
theorem rNumber_ok (pr : Prog) (hb : pr.prim 37 = some (pureG rbytesS)) (r : RS) (ok : r.ok) (k : Nat) (hk : k ≤ 8) (h : Heap) :
    Comes pr x_ref03_Reader_Number [RSv r, .int .i64 (k : Int)] h (.tuple #[RSv (numberR r k).1, uw .u64 (numberR r k).2]) := by
  apply Comes.of
  unfold x_ref03_Reader_Number RSv
  dsimp only [initFr]
  have hr64 : roomX = 140737488355328 := rfl
  have ok' := ok
  unfold RS.ok at ok'
  obtain ⟨g, hg, hr, gg⟩ := RV.begin ok h [.string (strOf []), .int .i64 0, .int .i64 0] rfl
  have d1 : decide ((k : Int) > 8) = false := by simp; omega
  have e2 := cfi_pure (h := g) hb (rbytesS_at ok (n := (k : Int)) (by omega))
  have okb := bytesR_ok ok (k : Int)
  have hlen := bytesR_len r k
  have hw := hr.wr okb
  have hgA : ∀ m q, Grows h ((g.wr h.next m).wr (h.next + 1) q) := fun m q => (gg.then (Keeps.wr (A := h.next) (l := m)) (fun A hA => by omega)).then (Keeps.wr (A := h.next + 1) (l := q)) (fun A hA => by omega)
  have tail : ∀ t : Fr, t.get 2 = .pointer (some ⟨h.next, 0, none⟩) → t.get 4 = .pointer (some ⟨h.next + 1, 0, none⟩) → t.get 6 = .string (strOf (bytesR r (k : Int)).2) → t.get 7 = uw .u64 0 → t.get 8 = .int .i64 0 →
      wpk pr (.loop x_ref03_Reader_Number_9) [KI.blk 0, KI.code ((XC.ops x_ref03_Reader_Number_10).seq XC.ret)] (fun e t h' => (e = XE.normal ∨ e = XE.ret) ∧ resultX t h' [XR.cellN 4 3, XR.tmp 5] = some (.tuple #[.agg (rcells (numberR r k).1).toArray, uw .u64 (numberR r k).2]) ∧ Grows h h') t (g.wr h.next (rcells (bytesR r (k : Int)).1)) := by
    intro t t2 t4 t6 t7 t8
    have hnum : numberR r k = ((bytesR r (k : Int)).1, numV (bytesR r (k : Int)).2) := rfl
    rw [hnum]
    clear e2
    generalize (bytesR r (k : Int)).2 = b at *
    generalize (bytesR r (k : Int)).1 = r' at *
    have hB := fun m => hgA (rcells r') m
    generalize g.wr h.next (rcells r') = g3 at *
    refine wpk_loop_inv (fun m t g => ∃ i, m = b.length - i ∧ i ≤ b.length ∧ g = g3 ∧ t.get 2 = .pointer (some ⟨h.next, 0, none⟩) ∧ t.get 4 = .pointer (some ⟨h.next + 1, 0, none⟩) ∧ t.get 6 = .string (strOf b) ∧ t.get 7 = uw .u64 (numV (b.take i)) ∧ t.get 8 = .int .i64 (i : Int)) ?_ b.length _ _ ⟨0, rfl, by omega, rfl, t2, t4, t6, t7, t8⟩
    rintro m t _ ⟨i, rfl, hi, rfl, t2, t4, t6, t7, t8⟩ hnext
    refine x_ref03_Reader_Number_9k ?_
    dsimp only [x_ref03_Reader_Number_9b]
    (repeat (first | refine wpk_seq ?_ | refine wpk_block ?_ | refine wpk_scope ?_ | refine wpk_skip ?_ | refine kont_code ?_ | refine kont_blk ?_ | refine kont_nil ?_ | refine wpk_exit ?_ | refine exit_code ?_ | refine exit_lp ?_ | refine exit_here ?_ | refine exit_there (by decide) ?_ | refine wpk_ret ?_ | ((first | refine wpk_ops ?_ | refine wpk_draw0 ?_ | refine wpk_drawS rfl rfl ?_ | refine wpk_drawC rfl ?_ | refine wpk_condE ?_); simp only [y_ref03_Reader_Number.down, cintV_i, lemS.down, lemC.down, Int.reduceBEq, Nat.reduceAdd, Nat.reduceLeDiff, reduceIte, Nat.reduceEqDiff, Int.reduceLT, Int.reduceLE, Int.reduceGT, Int.reduceGE, Int.reduceEq, Int.reduceAdd, Int.reduceSub, Int.reduceMul, reduceCtorEq, lemH.down, lemW.down, t2, t4, t6, t7, t8])))
    refine ⟨fun hlt => ?_, fun hge => ?_⟩
    · have hi' : i < b.length := by omega
      have ww : IntKind.i64.wrap ((i : Int) + 1) = ((i + 1 : Nat) : Int) := by rw [wrap_i64 (by omega) (by omega)]; omega
      have mu : binX .mul (uw .u64 (numV (b.take i))) (.int .u64 256) = some (uw .u64 (numV (b.take i) * 256)) := mul_u64 (y := 256)
      (repeat (first | refine wpk_seq ?_ | refine wpk_block ?_ | refine wpk_scope ?_ | refine wpk_skip ?_ | refine kont_code ?_ | refine kont_blk ?_ | refine kont_nil ?_ | refine wpk_exit ?_ | refine exit_code ?_ | refine exit_lp ?_ | refine exit_here ?_ | refine exit_there (by decide) ?_ | refine wpk_ret ?_ | ((first | refine wpk_ops ?_ | refine wpk_draw0 ?_ | refine wpk_drawS rfl rfl ?_ | refine wpk_drawC rfl ?_ | refine wpk_condE ?_); simp only [y_ref03_Reader_Number.down, cintV_i, lemS.down, lemC.down, Int.reduceBEq, Nat.reduceAdd, Nat.reduceLeDiff, reduceIte, Nat.reduceEqDiff, Int.reduceLT, Int.reduceLE, Int.reduceGT, Int.reduceGE, Int.reduceEq, Int.reduceAdd, Int.reduceSub, Int.reduceMul, reduceCtorEq, lemH.down, lemW.down, t2, t4, t6, t7, t8, ww, mu, idxSV_at hi'])))
      refine hnext (b.length - (i + 1)) _ _ (by omega) ⟨i + 1, rfl, by omega, rfl, by simp only [y_ref03_Reader_Number.down, cintV_i, lemS.down, lemC.down, Int.reduceBEq, Nat.reduceAdd, Nat.reduceLeDiff, reduceIte, Nat.reduceEqDiff, Int.reduceLT, Int.reduceLE, Int.reduceGT, Int.reduceGE, Int.reduceEq, Int.reduceAdd, Int.reduceSub, Int.reduceMul, reduceCtorEq, t2], by simp only [y_ref03_Reader_Number.down, cintV_i, lemS.down, lemC.down, Int.reduceBEq, Nat.reduceAdd, Nat.reduceLeDiff, reduceIte, Nat.reduceEqDiff, Int.reduceLT, Int.reduceLE, Int.reduceGT, Int.reduceGE, Int.reduceEq, Int.reduceAdd, Int.reduceSub, Int.reduceMul, reduceCtorEq, t4], by simp only [y_ref03_Reader_Number.down, cintV_i, lemS.down, lemC.down, Int.reduceBEq, Nat.reduceAdd, Nat.reduceLeDiff, reduceIte, Nat.reduceEqDiff, Int.reduceLT, Int.reduceLE, Int.reduceGT, Int.reduceGE, Int.reduceEq, Int.reduceAdd, Int.reduceSub, Int.reduceMul, reduceCtorEq, t6], ?_, by simp only [y_ref03_Reader_Number.down, cintV_i, lemS.down, lemC.down, Int.reduceBEq, Nat.reduceAdd, Nat.reduceLeDiff, reduceIte, Nat.reduceEqDiff, Int.reduceLT, Int.reduceLE, Int.reduceGT, Int.reduceGE, Int.reduceEq, Int.reduceAdd, Int.reduceSub, Int.reduceMul, reduceCtorEq]⟩
      simp only [y_ref03_Reader_Number.down, cintV_i, lemS.down, lemC.down, Int.reduceBEq, Nat.reduceAdd, Nat.reduceLeDiff, reduceIte, Nat.reduceEqDiff, Int.reduceLT, Int.reduceLE, Int.reduceGT, Int.reduceGE, Int.reduceEq, Int.reduceAdd, Int.reduceSub, Int.reduceMul, reduceCtorEq]
      rw [List.take_succ_eq_append_getElem hi', numV_snoc]
      have hx := (b[i]).toNat_lt
      have e1 : b.getD i 0 = b[i] := by simp [List.getD_eq_getElem?_getD, List.getElem?_eq_getElem hi']
      rw [e1, Nat.mod_eq_of_lt (by simpa using hx)]
    · obtain rfl : i = b.length := by omega
      rw [List.take_length] at t7
      (repeat (first | refine wpk_seq ?_ | refine wpk_block ?_ | refine wpk_scope ?_ | refine wpk_skip ?_ | refine kont_code ?_ | refine kont_blk ?_ | refine kont_nil ?_ | refine wpk_exit ?_ | refine exit_code ?_ | refine exit_lp ?_ | refine exit_here ?_ | refine exit_there (by decide) ?_ | refine wpk_ret ?_ | ((first | refine wpk_ops ?_ | refine wpk_draw0 ?_ | refine wpk_drawS rfl rfl ?_ | refine wpk_drawC rfl ?_ | refine wpk_condE ?_); simp only [y_ref03_Reader_Number.down, cintV_i, lemS.down, lemC.down, Int.reduceBEq, Nat.reduceAdd, Nat.reduceLeDiff, reduceIte, Nat.reduceEqDiff, Int.reduceLT, Int.reduceLE, Int.reduceGT, Int.reduceGE, Int.reduceEq, Int.reduceAdd, Int.reduceSub, Int.reduceMul, reduceCtorEq, lemH.down, lemW.down, t2, t4, t6, t7, t8, hw.lN, hw.st])))
      refine ⟨.inr rfl, ?_, hB _⟩
      exact res_cellN_tmp (by simp only [y_ref03_Reader_Number.down, cintV_i, lemS.down, lemC.down, Int.reduceBEq, Nat.reduceAdd, Nat.reduceLeDiff, reduceIte, Nat.reduceEqDiff, Int.reduceLT, Int.reduceLE, Int.reduceGT, Int.reduceGE, Int.reduceEq, Int.reduceAdd, Int.reduceSub, Int.reduceMul, reduceCtorEq, t4]) (hw.out _ none) (by simp only [y_ref03_Reader_Number.down, cintV_i, lemS.down, lemC.down, Int.reduceBEq, Nat.reduceAdd, Nat.reduceLeDiff, reduceIte, Nat.reduceEqDiff, Int.reduceLT, Int.reduceLE, Int.reduceGT, Int.reduceGE, Int.reduceEq, Int.reduceAdd, Int.reduceSub, Int.reduceMul, reduceCtorEq])
  by_cases h0 : r.err = 0
  · have b0 : ((r.err : Int) == 0) = true := by rw [h0]; rfl
    (repeat (first | refine wpk_seq ?_ | refine wpk_block ?_ | refine wpk_scope ?_ | refine wpk_skip ?_ | refine kont_code ?_ | refine kont_blk ?_ | refine kont_nil ?_ | refine wpk_exit ?_ | refine exit_code ?_ | refine exit_lp ?_ | refine exit_here ?_ | refine exit_there (by decide) ?_ | refine wpk_ret ?_ | ((first | refine wpk_ops ?_ | refine wpk_draw0 ?_ | refine wpk_drawS rfl rfl ?_ | refine wpk_drawC rfl ?_ | refine wpk_condE ?_); simp only [y_ref03_Reader_Number.down, cintV_i, lemS.down, lemC.down, Int.reduceBEq, Nat.reduceAdd, Nat.reduceLeDiff, reduceIte, Nat.reduceEqDiff, Int.reduceLT, Int.reduceLE, Int.reduceGT, Int.reduceGE, Int.reduceEq, Int.reduceAdd, Int.reduceSub, Int.reduceMul, reduceCtorEq, cellsOf_RS, lemH.down, hg, hr.1.l2, b0, d1, hr.lN, e2, hr.stA])))
    exact tail _ (by simp only [y_ref03_Reader_Number.down, cintV_i, lemS.down, lemC.down, Int.reduceBEq, Nat.reduceAdd, Nat.reduceLeDiff, reduceIte, Nat.reduceEqDiff, Int.reduceLT, Int.reduceLE, Int.reduceGT, Int.reduceGE, Int.reduceEq, Int.reduceAdd, Int.reduceSub, Int.reduceMul, reduceCtorEq]) (by simp only [y_ref03_Reader_Number.down, cintV_i, lemS.down, lemC.down, Int.reduceBEq, Nat.reduceAdd, Nat.reduceLeDiff, reduceIte, Nat.reduceEqDiff, Int.reduceLT, Int.reduceLE, Int.reduceGT, Int.reduceGE, Int.reduceEq, Int.reduceAdd, Int.reduceSub, Int.reduceMul, reduceCtorEq]) (by simp only [y_ref03_Reader_Number.down, cintV_i, lemS.down, lemC.down, Int.reduceBEq, Nat.reduceAdd, Nat.reduceLeDiff, reduceIte, Nat.reduceEqDiff, Int.reduceLT, Int.reduceLE, Int.reduceGT, Int.reduceGE, Int.reduceEq, Int.reduceAdd, Int.reduceSub, Int.reduceMul, reduceCtorEq]) (by (simp only [y_ref03_Reader_Number.down, cintV_i, lemS.down, lemC.down, Int.reduceBEq, Nat.reduceAdd, Nat.reduceLeDiff, reduceIte, Nat.reduceEqDiff, Int.reduceLT, Int.reduceLE, Int.reduceGT, Int.reduceGE, Int.reduceEq, Int.reduceAdd, Int.reduceSub, Int.reduceMul, reduceCtorEq]) <;> rfl) (by simp only [y_ref03_Reader_Number.down, cintV_i, lemS.down, lemC.down, Int.reduceBEq, Nat.reduceAdd, Nat.reduceLeDiff, reduceIte, Nat.reduceEqDiff, Int.reduceLT, Int.reduceLE, Int.reduceGT, Int.reduceGE, Int.reduceEq, Int.reduceAdd, Int.reduceSub, Int.reduceMul, reduceCtorEq])
  · have b0 : ((r.err : Int) == 0) = false := by rw [beq_eq_false_iff_ne]; omega
    (repeat (first | refine wpk_seq ?_ | refine wpk_block ?_ | refine wpk_scope ?_ | refine wpk_skip ?_ | refine kont_code ?_ | refine kont_blk ?_ | refine kont_nil ?_ | refine wpk_exit ?_ | refine exit_code ?_ | refine exit_lp ?_ | refine exit_here ?_ | refine exit_there (by decide) ?_ | refine wpk_ret ?_ | ((first | refine wpk_ops ?_ | refine wpk_draw0 ?_ | refine wpk_drawS rfl rfl ?_ | refine wpk_drawC rfl ?_ | refine wpk_condE ?_); simp only [y_ref03_Reader_Number.down, cintV_i, lemS.down, lemC.down, Int.reduceBEq, Nat.reduceAdd, Nat.reduceLeDiff, reduceIte, Nat.reduceEqDiff, Int.reduceLT, Int.reduceLE, Int.reduceGT, Int.reduceGE, Int.reduceEq, Int.reduceAdd, Int.reduceSub, Int.reduceMul, reduceCtorEq, cellsOf_RS, lemH.down, hg, hr.1.l2, b0, d1, hr.lN, e2, hr.stA])))
    exact tail _ (by simp only [y_ref03_Reader_Number.down, cintV_i, lemS.down, lemC.down, Int.reduceBEq, Nat.reduceAdd, Nat.reduceLeDiff, reduceIte, Nat.reduceEqDiff, Int.reduceLT, Int.reduceLE, Int.reduceGT, Int.reduceGE, Int.reduceEq, Int.reduceAdd, Int.reduceSub, Int.reduceMul, reduceCtorEq]) (by simp only [y_ref03_Reader_Number.down, cintV_i, lemS.down, lemC.down, Int.reduceBEq, Nat.reduceAdd, Nat.reduceLeDiff, reduceIte, Nat.reduceEqDiff, Int.reduceLT, Int.reduceLE, Int.reduceGT, Int.reduceGE, Int.reduceEq, Int.reduceAdd, Int.reduceSub, Int.reduceMul, reduceCtorEq]) (by simp only [y_ref03_Reader_Number.down, cintV_i, lemS.down, lemC.down, Int.reduceBEq, Nat.reduceAdd, Nat.reduceLeDiff, reduceIte, Nat.reduceEqDiff, Int.reduceLT, Int.reduceLE, Int.reduceGT, Int.reduceGE, Int.reduceEq, Int.reduceAdd, Int.reduceSub, Int.reduceMul, reduceCtorEq]) (by (simp only [y_ref03_Reader_Number.down, cintV_i, lemS.down, lemC.down, Int.reduceBEq, Nat.reduceAdd, Nat.reduceLeDiff, reduceIte, Nat.reduceEqDiff, Int.reduceLT, Int.reduceLE, Int.reduceGT, Int.reduceGE, Int.reduceEq, Int.reduceAdd, Int.reduceSub, Int.reduceMul, reduceCtorEq]) <;> rfl) (by simp only [y_ref03_Reader_Number.down, cintV_i, lemS.down, lemC.down, Int.reduceBEq, Nat.reduceAdd, Nat.reduceLeDiff, reduceIte, Nat.reduceEqDiff, Int.reduceLT, Int.reduceLE, Int.reduceGT, Int.reduceGE, Int.reduceEq, Int.reduceAdd, Int.reduceSub, Int.reduceMul, reduceCtorEq])
end Go.X
end

section
open Go Go.X
namespace Go.X
set_option linter.unusedVariables false
def rnumberS : List Value → Option Value
  | [.agg c, .int .i64 k] => match rsL c.toList with
    | some r => if 0 ≤ k ∧ k ≤ 8 then some (.tuple #[RSv (numberR r k.toNat).1, uw .u64 (numberR r k.toNat).2]) else none
    | none => none
  | _ => none
theorem rnumberS_ok {args : List Value} {v : Value} (h : rnumberS args = some v) : args.length = 2 ∧ flatV v = true ∧ ∀ pr h, pr.prim 37 = some (pureG rbytesS) → Comes pr x_ref03_Reader_Number args h v := by
  unfold rnumberS at h
  split at h
  · rename_i c n
    split at h
    · rename_i r hr
      split at h
      · rename_i hc
        cases h
        rw [(agg_rs hr).1]
        refine ⟨rfl, flat_RS rfl, fun pr h hb => ?_⟩
        have := rNumber_ok pr hb r (agg_rs hr).2 n.toNat (by omega) h
        rw [show ((n.toNat : Nat) : Int) = n by omega] at this
        exact this
      · cases h
    · cases h
  · cases h
theorem rnumberS_at {r : RS} (ok : r.ok) {k : Nat} (hk : k ≤ 8) : rnumberS [.agg (rcells r).toArray, .int .i64 (OfNat.ofNat k)] = some (.tuple #[.agg (rcells (numberR r k).1).toArray, uw .u64 (numberR r k).2]) := by
  have e : (OfNat.ofNat k : Int) = (k : Int) := rfl
  rw [e]
  simp only [rnumberS, rsL_at ok]
  rw [if_pos (by omega), Int.toNat_natCast]
theorem bytesR_err {r : RS} {n : Int} (h : (bytesR r n).1.err ≠ 0) : (bytesR r n).2 = [] := by
  unfold bytesR at h ⊢
  split
  · rfl
  · rename_i h0
    rw [if_neg h0] at h
    split
    · rfl
    · rename_i h1
      rw [if_neg h1] at h
      split
      · rfl
      · rename_i h2
        rw [if_neg h2] at h
        exact absurd h h0
theorem wantV_none {b : Bool} : wantV (.tuple #[]) b = false := rfl
theorem RV.third {g : Heap} {A B : Nat} {r : RS} (hr : RV g A B r) {z : List Value} (hz : z.length = 3) {q : RS} (hq : q.ok) : ∃ g3, storeV (g.new z) 3 (.pointer (some ⟨g.next, 0, none⟩)) (.agg (rcells q).toArray) = some (.tuple #[], g3) ∧ RV g3 A B r ∧ RV g3 g.next B q ∧ Grows g g3 := by
  obtain ⟨l, hl, hn⟩ := hr.2.1
  have hA := hr.1.2.1
  have hB := hl.1
  have hC := Var.new_self (h := g) (l := z)
  refine ⟨_, hC.storeAll rfl hz (by decide) rfl, ⟨⟨hr.1.1, hr.1.2.new_old.wr_ne (by omega)⟩, ⟨l, hl.new_old.wr_ne (by omega), hn⟩, hr.2.2⟩, ⟨⟨hq, hC.wr⟩, ⟨l, hl.new_old.wr_ne (by omega), hn⟩, by omega⟩, ?_⟩
  exact Grows.new.then Keeps.wr (fun A hA => by omega)
theorem rCount_ok (pr : Prog) (hb : pr.prim 35 = some (pureG rnumberS)) (r : RS) (ok : r.ok) (m : Nat) (hm : m < 9223372036854775808) (h : Heap) :
    Comes pr x_ref03_Reader_Count [RSv r, .int .i64 (m : Int)] h (.tuple #[RSv (countR r m).1, .int .i64 ((countR r m).2 : Int)]) := by
  apply Comes.of
  unfold x_ref03_Reader_Count RSv
  dsimp only [initFr]
  have hr64 : roomX = 140737488355328 := rfl
  obtain ⟨g, hg, hr, gg⟩ := RV.begin ok h [.string (strOf []), .int .i64 0, .int .i64 0] rfl
  have e2 := cfi_pure (h := g) hb (rnumberS_at ok (k := 4) (by decide))
  have e2 : cfi pr 35 [.agg (rcells r).toArray, .int .i64 4] g = _ := e2
  have okb := numberR_ok ok 4
  have hlt := numberR_lt r (k := 4) (by decide)
  have e4 : uw .u64 (numberR r 4).2 = .int .u64 ((numberR r 4).2 : Int) := (nat_u64 (by omega)).symm
  rw [e4] at e2
  obtain ⟨g3, es, hr3, hk3, gg3⟩ := hr.third (z := [.string (strOf []), .int .i64 0, .int .i64 0]) rfl okb
  have hgg := gg.trans gg3
  have c := uw_cint (k := .u64) (k' := .i64) u64_signed (n := m)
  rw [← nat_u64 (by omega)] at c
  have d1 : decide ((m : Int) < 0) = false := by simp
  have ci : IntKind.i64.wrap ((numberR r 4).2 : Int) = ((numberR r 4).2 : Int) := wrap_i64 (by omega) (by omega)
  have hgA : ∀ m q, Grows h ((g3.wr h.next m).wr (h.next + 1) q) := fun m q => (hgg.then (Keeps.wr (A := h.next) (l := m)) (fun A hA => by omega)).then (Keeps.wr (A := h.next + 1) (l := q)) (fun A hA => by omega)
  have hgB : ∀ q, Grows h (g3.wr (h.next + 1) q) := fun q => hgg.then (Keeps.wr (A := h.next + 1) (l := q)) (fun A hA => by omega)
  unfold countR
  by_cases h0 : (numberR r 4).1.err = 0
  · have b0 : (((numberR r 4).1.err : Int) == 0) = true := by rw [h0]; rfl
    rw [if_neg (by omega)]
    by_cases h1 : m < (numberR r 4).2
    · rw [if_pos h1]
      have d2 : decide (((numberR r 4).2 : Int) > (m : Int)) = true := by simp; omega
      have hq : RS.ok ⟨r.s, r.pos, 3⟩ := ok
      (repeat (first | refine wpk_seq ?_ | refine wpk_block ?_ | refine wpk_scope ?_ | refine wpk_skip ?_ | refine kont_code ?_ | refine kont_blk ?_ | refine kont_nil ?_ | refine wpk_exit ?_ | refine exit_code ?_ | refine exit_lp ?_ | refine exit_here ?_ | refine exit_there (by decide) ?_ | refine wpk_ret ?_ | ((first | refine wpk_ops ?_ | refine wpk_draw0 ?_ | refine wpk_drawC rfl ?_ | refine wpk_condE ?_); simp only [y_ref03_Reader_Count.down, cintV_i, lemS.down, lemC.down, Int.reduceBEq, Nat.reduceAdd, Nat.reduceLeDiff, reduceIte, Nat.reduceEqDiff, Int.reduceLT, Int.reduceLE, Int.reduceGT, Int.reduceGE, Int.reduceEq, Int.reduceAdd, Int.reduceSub, Int.reduceMul, reduceCtorEq, cellsOf_RS, lemH.down, hg, hr.lN, e2, es, hk3.1.l2, b0, d1, c, d2, hr3.1.s2L, (hr3.wr hq).lN, (hr3.wr hq).st])))
      exact ⟨.inr rfl, res_cellN_tmp (by simp only [y_ref03_Reader_Count.down, cintV_i, lemS.down, lemC.down, Int.reduceBEq, Nat.reduceAdd, Nat.reduceLeDiff, reduceIte, Nat.reduceEqDiff, Int.reduceLT, Int.reduceLE, Int.reduceGT, Int.reduceGE, Int.reduceEq, Int.reduceAdd, Int.reduceSub, Int.reduceMul, reduceCtorEq]) ((hr3.wr hq).out _ none) (by (simp only [y_ref03_Reader_Count.down, cintV_i, lemS.down, lemC.down, Int.reduceBEq, Nat.reduceAdd, Nat.reduceLeDiff, reduceIte, Nat.reduceEqDiff, Int.reduceLT, Int.reduceLE, Int.reduceGT, Int.reduceGE, Int.reduceEq, Int.reduceAdd, Int.reduceSub, Int.reduceMul, reduceCtorEq]) <;> rfl), hgA _ _⟩
    · rw [if_neg h1]
      have d2 : decide (((numberR r 4).2 : Int) > (m : Int)) = false := by simp; omega
      (repeat (first | refine wpk_seq ?_ | refine wpk_block ?_ | refine wpk_scope ?_ | refine wpk_skip ?_ | refine kont_code ?_ | refine kont_blk ?_ | refine kont_nil ?_ | refine wpk_exit ?_ | refine exit_code ?_ | refine exit_lp ?_ | refine exit_here ?_ | refine exit_there (by decide) ?_ | refine wpk_ret ?_ | ((first | refine wpk_ops ?_ | refine wpk_draw0 ?_ | refine wpk_drawC rfl ?_ | refine wpk_condE ?_); simp only [y_ref03_Reader_Count.down, cintV_i, lemS.down, lemC.down, Int.reduceBEq, Nat.reduceAdd, Nat.reduceLeDiff, reduceIte, Nat.reduceEqDiff, Int.reduceLT, Int.reduceLE, Int.reduceGT, Int.reduceGE, Int.reduceEq, Int.reduceAdd, Int.reduceSub, Int.reduceMul, reduceCtorEq, cellsOf_RS, lemH.down, hg, hr.lN, e2, es, hk3.1.l2, b0, d1, c, d2, hk3.lN, hk3.st, ci])))
      exact ⟨.inr rfl, res_cellN_tmp (by simp only [y_ref03_Reader_Count.down, cintV_i, lemS.down, lemC.down, Int.reduceBEq, Nat.reduceAdd, Nat.reduceLeDiff, reduceIte, Nat.reduceEqDiff, Int.reduceLT, Int.reduceLE, Int.reduceGT, Int.reduceGE, Int.reduceEq, Int.reduceAdd, Int.reduceSub, Int.reduceMul, reduceCtorEq]) (hk3.out _ none) (by (simp only [y_ref03_Reader_Count.down, cintV_i, lemS.down, lemC.down, Int.reduceBEq, Nat.reduceAdd, Nat.reduceLeDiff, reduceIte, Nat.reduceEqDiff, Int.reduceLT, Int.reduceLE, Int.reduceGT, Int.reduceGE, Int.reduceEq, Int.reduceAdd, Int.reduceSub, Int.reduceMul, reduceCtorEq]) <;> rfl), hgB _⟩
  · have b0 : (((numberR r 4).1.err : Int) == 0) = false := by rw [beq_eq_false_iff_ne]; omega
    rw [if_pos h0]
    have hz : (numberR r 4).2 = 0 := by
      show numV (bytesR r ((4 : Nat) : Int)).2 = 0
      rw [bytesR_err h0]; rfl
    (repeat (first | refine wpk_seq ?_ | refine wpk_block ?_ | refine wpk_scope ?_ | refine wpk_skip ?_ | refine kont_code ?_ | refine kont_blk ?_ | refine kont_nil ?_ | refine wpk_exit ?_ | refine exit_code ?_ | refine exit_lp ?_ | refine exit_here ?_ | refine exit_there (by decide) ?_ | refine wpk_ret ?_ | ((first | refine wpk_ops ?_ | refine wpk_draw0 ?_ | refine wpk_drawC rfl ?_ | refine wpk_condE ?_); simp only [y_ref03_Reader_Count.down, cintV_i, lemS.down, lemC.down, Int.reduceBEq, Nat.reduceAdd, Nat.reduceLeDiff, reduceIte, Nat.reduceEqDiff, Int.reduceLT, Int.reduceLE, Int.reduceGT, Int.reduceGE, Int.reduceEq, Int.reduceAdd, Int.reduceSub, Int.reduceMul, reduceCtorEq, cellsOf_RS, lemH.down, hg, hr.lN, e2, es, hk3.1.l2, b0, d1, c, hk3.lN, hk3.st, ci, wantV_none])))
    exact ⟨.inr rfl, res_cellN_tmp (by simp only [y_ref03_Reader_Count.down, cintV_i, lemS.down, lemC.down, Int.reduceBEq, Nat.reduceAdd, Nat.reduceLeDiff, reduceIte, Nat.reduceEqDiff, Int.reduceLT, Int.reduceLE, Int.reduceGT, Int.reduceGE, Int.reduceEq, Int.reduceAdd, Int.reduceSub, Int.reduceMul, reduceCtorEq]) (hk3.out _ none) (by (simp only [y_ref03_Reader_Count.down, cintV_i, lemS.down, lemC.down, Int.reduceBEq, Nat.reduceAdd, Nat.reduceLeDiff, reduceIte, Nat.reduceEqDiff, Int.reduceLT, Int.reduceLE, Int.reduceGT, Int.reduceGE, Int.reduceEq, Int.reduceAdd, Int.reduceSub, Int.reduceMul, reduceCtorEq, hz]) <;> rfl), hgB _⟩
end Go.X
end

section
open Go Go.X
namespace Go.X
set_option linter.unusedVariables false
def rcountS : List Value → Option Value
  | [.agg c, .int .i64 m] => match rsL c.toList with
    | some r => if 0 ≤ m ∧ m < 9223372036854775808 then some (.tuple #[RSv (countR r m.toNat).1, .int .i64 ((countR r m.toNat).2 : Int)]) else none
    | none => none
  | _ => none
theorem rcountS_ok {args : List Value} {v : Value} (h : rcountS args = some v) : args.length = 2 ∧ flatV v = true ∧ ∀ pr h, pr.prim 35 = some (pureG rnumberS) → Comes pr x_ref03_Reader_Count args h v := by
  unfold rcountS at h
  split at h
  · rename_i c n
    split at h
    · rename_i r hr
      split at h
      · rename_i hc
        cases h
        rw [(agg_rs hr).1]
        refine ⟨rfl, flat_RS rfl, fun pr h hb => ?_⟩
        have := rCount_ok pr hb r (agg_rs hr).2 n.toNat (by omega) h
        rw [show ((n.toNat : Nat) : Int) = n by omega] at this
        exact this
      · cases h
    · cases h
  · cases h
theorem rcountS_at {r : RS} (ok : r.ok) {m : Nat} (hm : m < 9223372036854775808) : rcountS [.agg (rcells r).toArray, .int .i64 (m : Int)] = some (.tuple #[.agg (rcells (countR r m).1).toArray, .int .i64 ((countR r m).2 : Int)]) := by
  simp only [rcountS, rsL_at ok]
  rw [if_pos (by omega), Int.toNat_natCast]
theorem bytesR_stop {r : RS} {n : Int} (h : r.err ≠ 0) : bytesR r n = (r, []) := by
  unfold bytesR
  rw [if_pos h]
theorem countR_stop {r : RS} {m : Nat} (h : r.err ≠ 0) : (countR r m).1 = r := by
  unfold countR numberR
  rw [bytesR_stop h, if_pos h]
theorem rText_ok (pr : Prog) (hb : pr.prim 37 = some (pureG rbytesS)) (hc : pr.prim 74 = some (pureG rcountS)) (r : RS) (ok : r.ok) (m : Nat) (hm : m < 9223372036854775808) (h : Heap) :
    Comes pr x_ref03_Reader_Text [RSv r, .int .i64 (m : Int)] h (.tuple #[RSv (textR r m).1, .string (strOf (textR r m).2)]) := by
  apply Comes.of
  unfold x_ref03_Reader_Text RSv
  dsimp only [initFr]
  have hr64 : roomX = 140737488355328 := rfl
  obtain ⟨g, hg, hr, gg⟩ := RV.begin ok h [.string (strOf []), .int .i64 0, .int .i64 0] rfl
  have e2 := cfi_pure (h := g) hc (rcountS_at ok hm)
  have okc := countR_ok ok m
  have hlt := countR_le r m
  obtain ⟨g3, es, hr3, hk3, gg3⟩ := hr.third (z := [.string (strOf []), .int .i64 0, .int .i64 0]) rfl okc
  have hgg := gg.trans gg3
  have e3 := cfi_pure (h := g3) hb (rbytesS_at okc (n := ((countR r m).2 : Int)) (by omega))
  have okb := bytesR_ok okc ((countR r m).2 : Int)
  have hk4 := hk3.wr okb
  have hx : g.next ≠ h.next := by have := hr.1.2.1; omega
  have hr4 : RV (g3.wr g.next (rcells (bytesR (countR r m).1 ((countR r m).2 : Int)).1)) h.next (h.next + 1) r := by
    obtain ⟨l, hl, hn⟩ := hr.2.1
    obtain ⟨l3, hl3, hn3⟩ := hr3.2.1
    have := hl.1
    exact ⟨⟨ok, hr3.1.2.wr_ne (by omega)⟩, ⟨l3, hl3.wr_ne (by omega), hn3⟩, hr3.2.2⟩
  have hs : (bytesR (countR r m).1 ((countR r m).2 : Int)).1.s = r.s := by rw [bytesR_s, countR_s]
  have hstop : r.err ≠ 0 → bytesR (countR r m).1 ((countR r m).2 : Int) = (r, []) := fun he => by rw [countR_stop he, bytesR_stop he]
  have hbe := bytesR_err (r := (countR r m).1) (n := ((countR r m).2 : Int))
  have htx : textR r m = (if (bytesR (countR r m).1 ((countR r m).2 : Int)).1.err ≠ 0 then ⟨(bytesR (countR r m).1 ((countR r m).2 : Int)).1.s, r.pos, (bytesR (countR r m).1 ((countR r m).2 : Int)).1.err⟩ else (bytesR (countR r m).1 ((countR r m).2 : Int)).1, (bytesR (countR r m).1 ((countR r m).2 : Int)).2) := rfl
  rw [htx]
  have hgn : h.next ≤ g.next := gg.next
  have hg4 : Grows h (g3.wr g.next (rcells (bytesR (countR r m).1 ((countR r m).2 : Int)).1)) := hgg.then (Keeps.wr (A := g.next)) (fun A hA => by omega)
  have es2 := hk3.stA (bytesR (countR r m).1 ((countR r m).2 : Int)).1
  generalize bytesR (countR r m).1 ((countR r m).2 : Int) = b at *
  generalize g3.wr g.next (rcells b.1) = g4 at *
  have hgA : ∀ m q, Grows h ((g4.wr h.next m).wr (h.next + 1) q) := fun m q => (hg4.then (Keeps.wr (A := h.next) (l := m)) (fun A hA => by omega)).then (Keeps.wr (A := h.next + 1) (l := q)) (fun A hA => by omega)
  have hgB : ∀ q, Grows h (g4.wr (h.next + 1) q) := fun q => hg4.then (Keeps.wr (A := h.next + 1) (l := q)) (fun A hA => by omega)
  by_cases h0 : b.1.err = 0
  · have b0 : ((b.1.err : Int) == 0) = true := by rw [h0]; rfl
    rw [if_neg (by omega)]
    (repeat (first | refine wpk_seq ?_ | refine wpk_block ?_ | refine wpk_scope ?_ | refine wpk_skip ?_ | refine kont_code ?_ | refine kont_blk ?_ | refine kont_nil ?_ | refine wpk_exit ?_ | refine exit_code ?_ | refine exit_lp ?_ | refine exit_here ?_ | refine exit_there (by decide) ?_ | refine wpk_ret ?_ | ((first | refine wpk_ops ?_ | refine wpk_draw0 ?_ | refine wpk_drawC rfl ?_ | refine wpk_condE ?_); simp only [y_ref03_Reader_Text.down, cintV_i, lemS.down, lemC.down, Int.reduceBEq, Nat.reduceAdd, Nat.reduceLeDiff, reduceIte, Nat.reduceEqDiff, Int.reduceLT, Int.reduceLE, Int.reduceGT, Int.reduceGE, Int.reduceEq, Int.reduceAdd, Int.reduceSub, Int.reduceMul, reduceCtorEq, cellsOf_RS, lemH.down, hg, hr.lN, e2, es, hk3.lN, e3, es2, hk4.1.l2, b0, hk4.lN, hk4.st])))
    exact ⟨.inr rfl, res_cellN_tmp (by simp only [y_ref03_Reader_Text.down, cintV_i, lemS.down, lemC.down, Int.reduceBEq, Nat.reduceAdd, Nat.reduceLeDiff, reduceIte, Nat.reduceEqDiff, Int.reduceLT, Int.reduceLE, Int.reduceGT, Int.reduceGE, Int.reduceEq, Int.reduceAdd, Int.reduceSub, Int.reduceMul, reduceCtorEq]) (hk4.out _ none) (by simp only [y_ref03_Reader_Text.down, cintV_i, lemS.down, lemC.down, Int.reduceBEq, Nat.reduceAdd, Nat.reduceLeDiff, reduceIte, Nat.reduceEqDiff, Int.reduceLT, Int.reduceLE, Int.reduceGT, Int.reduceGE, Int.reduceEq, Int.reduceAdd, Int.reduceSub, Int.reduceMul, reduceCtorEq]), hgB _⟩
  · have b0 : ((b.1.err : Int) == 0) = false := by rw [beq_eq_false_iff_ne]; omega
    rw [if_pos h0, hbe h0, hs]
    by_cases h1 : r.err = 0
    · have b1 : ((r.err : Int) == 0) = true := by rw [h1]; rfl
      have hq : RS.ok ⟨r.s, r.pos, b.1.err⟩ := ok
      (repeat (first | refine wpk_seq ?_ | refine wpk_block ?_ | refine wpk_scope ?_ | refine wpk_skip ?_ | refine kont_code ?_ | refine kont_blk ?_ | refine kont_nil ?_ | refine wpk_exit ?_ | refine exit_code ?_ | refine exit_lp ?_ | refine exit_here ?_ | refine exit_there (by decide) ?_ | refine wpk_ret ?_ | ((first | refine wpk_ops ?_ | refine wpk_draw0 ?_ | refine wpk_drawC rfl ?_ | refine wpk_condE ?_); simp only [y_ref03_Reader_Text.down, cintV_i, lemS.down, lemC.down, Int.reduceBEq, Nat.reduceAdd, Nat.reduceLeDiff, reduceIte, Nat.reduceEqDiff, Int.reduceLT, Int.reduceLE, Int.reduceGT, Int.reduceGE, Int.reduceEq, Int.reduceAdd, Int.reduceSub, Int.reduceMul, reduceCtorEq, cellsOf_RS, lemH.down, hg, hr.lN, e2, es, hk3.lN, e3, es2, hk4.1.l2, b0, hr4.1.l2, b1, hr4.1.s2, (hr4.wr hq).lN, (hr4.wr hq).st])))
      exact ⟨.inr rfl, res_cellN_tmp (by simp only [y_ref03_Reader_Text.down, cintV_i, lemS.down, lemC.down, Int.reduceBEq, Nat.reduceAdd, Nat.reduceLeDiff, reduceIte, Nat.reduceEqDiff, Int.reduceLT, Int.reduceLE, Int.reduceGT, Int.reduceGE, Int.reduceEq, Int.reduceAdd, Int.reduceSub, Int.reduceMul, reduceCtorEq]) ((hr4.wr hq).out _ none) (by simp only [y_ref03_Reader_Text.down, cintV_i, lemS.down, lemC.down, Int.reduceBEq, Nat.reduceAdd, Nat.reduceLeDiff, reduceIte, Nat.reduceEqDiff, Int.reduceLT, Int.reduceLE, Int.reduceGT, Int.reduceGE, Int.reduceEq, Int.reduceAdd, Int.reduceSub, Int.reduceMul, reduceCtorEq]), hgA _ _⟩
    · have b1 : ((r.err : Int) == 0) = false := by rw [beq_eq_false_iff_ne]; omega
      have hb1 := hstop h1
      have hb2 : b.1 = r := by rw [hb1]
      (repeat (first | refine wpk_seq ?_ | refine wpk_block ?_ | refine wpk_scope ?_ | refine wpk_skip ?_ | refine kont_code ?_ | refine kont_blk ?_ | refine kont_nil ?_ | refine wpk_exit ?_ | refine exit_code ?_ | refine exit_lp ?_ | refine exit_here ?_ | refine exit_there (by decide) ?_ | refine wpk_ret ?_ | ((first | refine wpk_ops ?_ | refine wpk_draw0 ?_ | refine wpk_drawC rfl ?_ | refine wpk_condE ?_); simp only [y_ref03_Reader_Text.down, cintV_i, lemS.down, lemC.down, Int.reduceBEq, Nat.reduceAdd, Nat.reduceLeDiff, reduceIte, Nat.reduceEqDiff, Int.reduceLT, Int.reduceLE, Int.reduceGT, Int.reduceGE, Int.reduceEq, Int.reduceAdd, Int.reduceSub, Int.reduceMul, reduceCtorEq, cellsOf_RS, lemH.down, hg, hr.lN, e2, es, hk3.lN, e3, es2, hk4.1.l2, b0, hr4.1.l2, b1, hr4.lN, hr4.st])))
      rw [hb2]
      exact ⟨.inr rfl, res_cellN_tmp (by simp only [y_ref03_Reader_Text.down, cintV_i, lemS.down, lemC.down, Int.reduceBEq, Nat.reduceAdd, Nat.reduceLeDiff, reduceIte, Nat.reduceEqDiff, Int.reduceLT, Int.reduceLE, Int.reduceGT, Int.reduceGE, Int.reduceEq, Int.reduceAdd, Int.reduceSub, Int.reduceMul, reduceCtorEq]) (hr4.out _ none) (by simp only [y_ref03_Reader_Text.down, cintV_i, lemS.down, lemC.down, Int.reduceBEq, Nat.reduceAdd, Nat.reduceLeDiff, reduceIte, Nat.reduceEqDiff, Int.reduceLT, Int.reduceLE, Int.reduceGT, Int.reduceGE, Int.reduceEq, Int.reduceAdd, Int.reduceSub, Int.reduceMul, reduceCtorEq]), hgB _⟩
theorem rEnd_ok (pr : Prog) (r : RS) (ok : r.ok) (h : Heap) : Comes pr x_ref03_Reader_End [RSv r] h (RSv (endR r)) := by
  apply Comes.of
  unfold x_ref03_Reader_End RSv
  dsimp only [initFr]
  have hr64 : roomX = 140737488355328 := rfl
  obtain ⟨g, hg, hr, gg⟩ := RV.begin ok h [.string (strOf []), .int .i64 0, .int .i64 0] rfl
  have hgA : ∀ m q, Grows h ((g.wr h.next m).wr (h.next + 1) q) := fun m q => (gg.then (Keeps.wr (A := h.next) (l := m)) (fun A hA => by omega)).then (Keeps.wr (A := h.next + 1) (l := q)) (fun A hA => by omega)
  have hgB : ∀ q, Grows h (g.wr (h.next + 1) q) := fun q => gg.then (Keeps.wr (A := h.next + 1) (l := q)) (fun A hA => by omega)
  unfold endR
  by_cases h0 : r.err = 0
  · have b0 : ((r.err : Int) == 0) = true := by rw [h0]; rfl
    by_cases h1 : r.pos < r.s.length
    · have d1 : decide ((r.pos : Int) < r.s.length) = true := by simpa using h1
      have hq : RS.ok ⟨r.s, r.pos, 5⟩ := ok
      rw [if_pos ⟨by omega, h0⟩]
      (repeat (first | refine wpk_seq ?_ | refine wpk_block ?_ | refine wpk_scope ?_ | refine wpk_skip ?_ | refine kont_code ?_ | refine kont_blk ?_ | refine kont_nil ?_ | refine wpk_exit ?_ | refine exit_code ?_ | refine exit_lp ?_ | refine exit_here ?_ | refine exit_there (by decide) ?_ | refine wpk_ret ?_ | ((first | refine wpk_ops ?_ | refine wpk_draw0 ?_ | refine wpk_drawC rfl ?_ | refine wpk_condE ?_); simp only [y_ref03_Reader_End.down, cintV_i, lemS.down, lemC.down, Int.reduceBEq, Nat.reduceAdd, Nat.reduceLeDiff, reduceIte, Nat.reduceEqDiff, Int.reduceLT, Int.reduceLE, Int.reduceGT, Int.reduceGE, Int.reduceEq, Int.reduceAdd, Int.reduceSub, Int.reduceMul, reduceCtorEq, cellsOf_RS, lemH.down, hg, hr.1.l2, hr.1.l1, hr.1.l0, b0, d1, hr.1.s2L, (hr.wr hq).lN, (hr.wr hq).st])))
      exact ⟨.inr rfl, res_cellN (by simp only [y_ref03_Reader_End.down, cintV_i, lemS.down, lemC.down, Int.reduceBEq, Nat.reduceAdd, Nat.reduceLeDiff, reduceIte, Nat.reduceEqDiff, Int.reduceLT, Int.reduceLE, Int.reduceGT, Int.reduceGE, Int.reduceEq, Int.reduceAdd, Int.reduceSub, Int.reduceMul, reduceCtorEq]) ((hr.wr hq).out _ none), hgA _ _⟩
    · have d1 : decide ((r.pos : Int) < r.s.length) = false := by simp; omega
      rw [if_neg (fun h => by omega)]
      (repeat (first | refine wpk_seq ?_ | refine wpk_block ?_ | refine wpk_scope ?_ | refine wpk_skip ?_ | refine kont_code ?_ | refine kont_blk ?_ | refine kont_nil ?_ | refine wpk_exit ?_ | refine exit_code ?_ | refine exit_lp ?_ | refine exit_here ?_ | refine exit_there (by decide) ?_ | refine wpk_ret ?_ | ((first | refine wpk_ops ?_ | refine wpk_draw0 ?_ | refine wpk_drawC rfl ?_ | refine wpk_condE ?_); simp only [y_ref03_Reader_End.down, cintV_i, lemS.down, lemC.down, Int.reduceBEq, Nat.reduceAdd, Nat.reduceLeDiff, reduceIte, Nat.reduceEqDiff, Int.reduceLT, Int.reduceLE, Int.reduceGT, Int.reduceGE, Int.reduceEq, Int.reduceAdd, Int.reduceSub, Int.reduceMul, reduceCtorEq, cellsOf_RS, lemH.down, hg, hr.1.l2, hr.1.l1, hr.1.l0, b0, d1, hr.lN, hr.st])))
      exact ⟨.inr rfl, res_cellN (by simp only [y_ref03_Reader_End.down, cintV_i, lemS.down, lemC.down, Int.reduceBEq, Nat.reduceAdd, Nat.reduceLeDiff, reduceIte, Nat.reduceEqDiff, Int.reduceLT, Int.reduceLE, Int.reduceGT, Int.reduceGE, Int.reduceEq, Int.reduceAdd, Int.reduceSub, Int.reduceMul, reduceCtorEq]) (hr.out _ none), hgB _⟩
  · have b0 : ((r.err : Int) == 0) = false := by rw [beq_eq_false_iff_ne]; omega
    rw [if_neg (fun h => h0 h.2)]
    (repeat (first | refine wpk_seq ?_ | refine wpk_block ?_ | refine wpk_scope ?_ | refine wpk_skip ?_ | refine kont_code ?_ | refine kont_blk ?_ | refine kont_nil ?_ | refine wpk_exit ?_ | refine exit_code ?_ | refine exit_lp ?_ | refine exit_here ?_ | refine exit_there (by decide) ?_ | refine wpk_ret ?_ | ((first | refine wpk_ops ?_ | refine wpk_draw0 ?_ | refine wpk_drawC rfl ?_ | refine wpk_condE ?_); simp only [y_ref03_Reader_End.down, cintV_i, lemS.down, lemC.down, Int.reduceBEq, Nat.reduceAdd, Nat.reduceLeDiff, reduceIte, Nat.reduceEqDiff, Int.reduceLT, Int.reduceLE, Int.reduceGT, Int.reduceGE, Int.reduceEq, Int.reduceAdd, Int.reduceSub, Int.reduceMul, reduceCtorEq, cellsOf_RS, lemH.down, hg, hr.1.l2, hr.1.l1, hr.1.l0, b0, hr.lN, hr.st, wantV_none])))
    exact ⟨.inr rfl, res_cellN (by simp only [y_ref03_Reader_End.down, cintV_i, lemS.down, lemC.down, Int.reduceBEq, Nat.reduceAdd, Nat.reduceLeDiff, reduceIte, Nat.reduceEqDiff, Int.reduceLT, Int.reduceLE, Int.reduceGT, Int.reduceGE, Int.reduceEq, Int.reduceAdd, Int.reduceSub, Int.reduceMul, reduceCtorEq]) (hr.out _ none), hgB _⟩
end Go.X
end
