/- Numbers and texts. -/
import Derived.Test.YtnppabpbdobaiaaGreatProg
import Derived.KernelRfl
import Derived.Test.YtnppabpbdobaiaaGreatXC
import Derived.Test.YtnppabpbdobaiaaGreatXF
set_option linter.unusedSimpArgs false
set_option linter.unusedVariables false
set_option maxHeartbeats 2000000
open Nat renaming reduceLeDiff → zdL, reduceEqDiff → zdM, reduceAdd → zdN
open Int renaming reduceBEq → zdO, reduceLT → zdP, reduceLE → zdQ, reduceGT → zdR, reduceGE → zdS, reduceEq → zdT, reduceAdd → zdU, reduceSub → zdV, reduceMul → zdW
section
namespace Go.X
open Go.Proofs
abbrev zQA:List XO:=[
 ⟨some 4,.p (.mov (C (.string (strOf [])))),none⟩]
def zP9:List XO:=zQA
theorem xq136_0e:E3 zP9 zQA:=E3.rfl
abbrev zQC:List XO:=[
 ⟨some 5,.p (.mov (C (.slice none 0 0))),none⟩]
def zQB:List XO:=zQC
theorem xq136_1e:E3 zQB zQC:=E3.rfl
abbrev zQE:List XO:=[
 ⟨some 7,.p (.mov (T 1)),none⟩,
 ⟨some 8,.p (.minmax true (T 7) [(C (.int .i64 0))]),none⟩,
 ⟨some 9,.p (.minmax false (T 8) [(C (.int .i64 8))]),none⟩,
 ⟨some 10,.p (.mov (C (.int .i64 0))),none⟩]
def zQD:List XO:=zQE
theorem xq136_2e:E3 zQD zQE:=E3.rfl
abbrev zQG:List XO:=[
 ⟨some 11,.p (.bin .lss (T 10) (T 9)),none⟩]
def zQF:List XO:=zQG
theorem xq136_3e:E3 zQF zQG:=E3.rfl
abbrev zQI:List XO:=[
 ⟨some 12,.p (.mov (T 10)),none⟩,
 ⟨some 6,.p (.mov (T 12)),none⟩]
def zQH:List XO:=zQI
theorem xq136_4e:E3 zQH zQI:=E3.rfl
abbrev zQK:List XO:=[
 ⟨some 13,.p (.mov (T 5)),none⟩,
 ⟨some 14,.p (.mov (T 0)),none⟩,
 ⟨some 15,.p (.mov (T 1)),none⟩,
 ⟨some 16,.p (.minmax false (T 15) [(C (.int .i64 8))]),none⟩,
 ⟨some 17,.p (.bin .sub (T 16) (C (.int .i64 1))),none⟩,
 ⟨some 18,.p (.mov (T 6)),none⟩,
 ⟨some 19,.p (.bin .sub (T 17) (T 18)),none⟩,
 ⟨some 20,.p (.bin .mul (C (.int .i64 8)) (T 19)),none⟩,
 ⟨some 21,.p (.bin .shr (T 14) (T 20)),none⟩,
 ⟨some 22,.p (.cint .u8 (T 21)),none⟩,
 ⟨some 23,.a (.bslice [(.int .u8 0)] 1 [(0,1,(T 22))]),none⟩,
 ⟨some 24,.e (.append 1 1 (T 13) (T 23)),none⟩,
 ⟨some 5,.p (.mov (T 24)),none⟩]
def zQJ:List XO:=zQK
theorem xq136_5e:E3 zQJ zQK:=E3.rfl
abbrev zQM:List XO:=[
 ⟨some 25,.p (.bin .add (T 10) (C (.int .i64 1))),none⟩,
 ⟨some 10,.p (.mov (T 25)),none⟩]
def zQL:List XO:=zQM
theorem xq136_6e:E3 zQL zQM:=E3.rfl
def zJF:XC :=
 .seq (.ops zQF) (.seq (.cond (T 11) (.skip) (.exit 0)) (.seq (.block 1 (.seq (.ops zQH) (.ops zQJ))) (.ops zQL)))
def zQN:XC:=zJF
theorem xq136_7k {pr:Prog} {k:List KI} {Q:XE→Fr→Heap→Prop} {t:Fr} {h:Heap} (hw:wpk pr zJF k Q t h):wpk pr zQN k Q t h:=hw
abbrev zQP:List XO:=[
 ⟨some 26,.p (.mov (T 5)),none⟩,
 ⟨some 27,.r (.cb2s (T 26)),none⟩,
 ⟨some 4,.p (.mov (T 27)),none⟩]
def zQO:List XO:=zQP
theorem xq136_8e:E3 zQO zQP:=E3.rfl
def xq136:XF:=⟨2,[.tmp 4],
 .seq (.ops zP9) (.seq (.ops zQB) (.seq (.seq (.ops zQD) (.block 0 (.loop zQN))) (.seq (.ops zQO) (.ret))))⟩
def yq136:=PLift.up (And.intro (And.intro (And.intro (@xq136_0e) (@xq136_1e)) (And.intro (@xq136_2e) (@xq136_3e))) (And.intro (And.intro (@xq136_4e) (@xq136_5e)) (And.intro (@xq136_6e) (@xq136_8e))))
theorem cq136:zX Tryz.prog Tryz.f136=some xq136:=by kernel_rfl
abbrev zYR:List XO:=[
 ⟨some 0,.p (.mov (C (.pointer none))),none⟩]
def xq75_0:List XO:=zYR
theorem xq75_0e:E3 xq75_0 zYR:=E3.rfl
abbrev zYS:List XO:=[
 ⟨some 1,.p (.build [(.slice none 0 0)] []),none⟩,
 ⟨some 2,.a (.box (T 1)),none⟩,
 ⟨some 0,.p (.mov (T 2)),none⟩]
def xq75_1:List XO:=zYS
theorem xq75_1e:E3 xq75_1 zYS:=E3.rfl
def xq75:XF:=⟨0,[.tmp 0],
 .seq (.ops xq75_0) (.seq (.ops xq75_1) (.ret))⟩
def yq75:=PLift.up (And.intro (@xq75_0e) (@xq75_1e))
theorem cq75:zX Tryz.prog Tryz.f75=some xq75:=by kernel_rfl
abbrev zQR:List XO:=[
 ⟨some 4,.p (.mov (T 0)),none⟩,
 ⟨some 5,.p (.eql true .nptr (T 4) (C (.pointer none))),none⟩]
def zQQ:List XO:=zQR
theorem xq147_0e:E3 zQQ zQR:=E3.rfl
abbrev zQT:List XO:=[
 ⟨some 6,.p (.mov (T 0)),none⟩,
 ⟨some 7,.p (.mov (T 0)),none⟩,
 ⟨some 8,.p (.nilc (T 7)),none⟩,
 ⟨some 9,.p (.faddr 0 (T 8)),none⟩,
 ⟨some 10,.r (.load1 (T 9)),none⟩,
 ⟨some 11,.p (.mov (T 1)),none⟩,
 ⟨some 12,.e (.append 1 1 (T 10) (T 11)),none⟩,
 ⟨some 13,.p (.nilc (T 6)),none⟩,
 ⟨some 14,.p (.faddr 0 (T 13)),none⟩,
 ⟨none,.e (.store 1 (T 14) (T 12)),none⟩]
def zQS:List XO:=zQT
theorem xq147_1e:E3 zQS zQT:=E3.rfl
def xq147:XF:=⟨2,[],
 .seq (.ops zQQ) (.cond (T 5) (.ops zQS) (.skip))⟩
def yq147:=PLift.up (And.intro (@xq147_0e) (@xq147_1e))
theorem cq147:zX Tryz.prog Tryz.f147=some xq147:=by kernel_rfl
abbrev zYb:List XO:=[
 ⟨some 6,.p (.mov (T 0)),none⟩,
 ⟨some 7,.p (.mov (T 1)),none⟩,
 ⟨some 8,.p (.mov (T 2)),none⟩,
 ⟨some 9,.call (.func 136) [(T 7),(T 8)],none⟩,
 ⟨some 10,.call (.func 147) [(T 6),(T 9)],none⟩]
def xq78_0:List XO:=zYb
theorem xq78_0e:E3 xq78_0 zYb:=E3.rfl
def xq78:XF:=⟨3,[],
 .ops xq78_0⟩
def yq78:=PLift.up (@xq78_0e)
theorem cq78:zX Tryz.prog Tryz.f78=some xq78:=by kernel_rfl
abbrev zPb:List XO:=[
 ⟨some 4,.p (.mov (T 0)),none⟩,
 ⟨some 5,.p (.mov (T 1)),none⟩,
 ⟨some 6,.p (.minmax true (T 5) [(C (.int .i64 0))]),none⟩,
 ⟨some 7,.p (.cint .u64 (T 6)),none⟩,
 ⟨some 8,.call (.func 78) [(T 4),(T 7),(C (.int .i64 4))],none⟩]
def zPa:List XO:=zPb
theorem xq121_0e:E3 zPa zPb:=E3.rfl
def xq121:XF:=⟨2,[],
 .ops zPa⟩
def yq121:=PLift.up (@xq121_0e)
theorem cq121:zX Tryz.prog Tryz.f121=some xq121:=by kernel_rfl
abbrev zYT:List XO:=[
 ⟨some 4,.p (.mov (T 0)),none⟩,
 ⟨some 5,.p (.mov (T 1)),none⟩,
 ⟨some 6,.p (.lenS (T 5)),none⟩,
 ⟨some 7,.call (.func 121) [(T 4),(T 6)],none⟩]
def xq76_0:List XO:=zYT
theorem xq76_0e:E3 xq76_0 zYT:=E3.rfl
abbrev zYU:List XO:=[
 ⟨some 8,.p (.mov (T 0)),none⟩,
 ⟨some 9,.p (.mov (T 1)),none⟩,
 ⟨some 10,.call (.func 147) [(T 8),(T 9)],none⟩]
def xq76_1:List XO:=zYU
theorem xq76_1e:E3 xq76_1 zYU:=E3.rfl
def xq76:XF:=⟨2,[],
 .seq (.ops xq76_0) (.ops xq76_1)⟩
def yq76:=PLift.up (And.intro (@xq76_0e) (@xq76_1e))
theorem cq76:zX Tryz.prog Tryz.f76=some xq76:=by kernel_rfl
abbrev zYc:List XO:=[
 ⟨some 5,.a (.mkslice [(.int .u8 0)] 1 (C (.int .i64 32)) (C (.int .i64 32))),none⟩,
 ⟨some 4,.p (.mov (T 5)),none⟩]
def xq79_0:List XO:=zYc
theorem xq79_0e:E3 xq79_0 zYc:=E3.rfl
abbrev zYd:List XO:=[
 ⟨some 6,.p (.mov (T 4)),none⟩,
 ⟨some 7,.p (.mov (T 1)),none⟩,
 ⟨some 8,.e (.copy 1 (T 6) (T 7)),none⟩]
def xq79_1:List XO:=zYd
theorem xq79_1e:E3 xq79_1 zYd:=E3.rfl
abbrev zYe:List XO:=[
 ⟨some 9,.p (.mov (T 0)),none⟩,
 ⟨some 10,.p (.mov (T 4)),none⟩,
 ⟨some 11,.r (.cb2s (T 10)),none⟩,
 ⟨some 12,.call (.func 147) [(T 9),(T 11)],none⟩]
def xq79_2:List XO:=zYe
theorem xq79_2e:E3 xq79_2 zYe:=E3.rfl
def xq79:XF:=⟨2,[],
 .seq (.ops xq79_0) (.seq (.ops xq79_1) (.ops xq79_2))⟩
def yq79:=PLift.up (And.intro (@xq79_0e) (And.intro (@xq79_1e) (@xq79_2e)))
theorem cq79:zX Tryz.prog Tryz.f79=some xq79:=by kernel_rfl
abbrev zYf:List XO:=[
 ⟨some 2,.p (.mov (C (.string (strOf [])))),none⟩]
def xq81_0:List XO:=zYf
theorem xq81_0e:E3 xq81_0 zYf:=E3.rfl
abbrev zYg:List XO:=[
 ⟨some 3,.p (.mov (T 0)),none⟩,
 ⟨some 4,.p (.eql false .nptr (T 3) (C (.pointer none))),none⟩]
def xq81_1:List XO:=zYg
theorem xq81_1e:E3 xq81_1 zYg:=E3.rfl
abbrev zYh:List XO:=[
 ⟨some 2,.p (.mov (C (.string (strOf [])))),none⟩]
def xq81_2:List XO:=zYh
theorem xq81_2e:E3 xq81_2 zYh:=E3.rfl
abbrev zYi:List XO:=[
 ⟨some 5,.p (.mov (T 0)),none⟩,
 ⟨some 6,.p (.nilc (T 5)),none⟩,
 ⟨some 7,.p (.faddr 0 (T 6)),none⟩,
 ⟨some 8,.r (.load1 (T 7)),none⟩,
 ⟨some 9,.r (.cb2s (T 8)),none⟩,
 ⟨some 2,.p (.mov (T 9)),none⟩]
def xq81_3:List XO:=zYi
theorem xq81_3e:E3 xq81_3 zYi:=E3.rfl
def xq81:XF:=⟨1,[.tmp 2],
 .seq (.ops xq81_0) (.seq (.seq (.ops xq81_1) (.cond (T 4) (.seq (.ops xq81_2) (.ret)) (.skip))) (.seq (.ops xq81_3) (.ret)))⟩
def yq81:=PLift.up (And.intro (And.intro (@xq81_0e) (@xq81_1e)) (And.intro (@xq81_2e) (@xq81_3e)))
theorem cq81:zX Tryz.prog Tryz.f81=some xq81:=by kernel_rfl
abbrev zYj:List XO:=[
 ⟨some 2,.p (.mov (C (.pointer none))),none⟩]
def xq86_0:List XO:=zYj
theorem xq86_0e:E3 xq86_0 zYj:=E3.rfl
abbrev zYk:List XO:=[
 ⟨some 3,.p (.mov (T 0)),none⟩,
 ⟨some 4,.p (.build [(.string (strOf [])),(.int .i64 0),(.int .i64 0)] [(0,1,(T 3))]),none⟩,
 ⟨some 5,.a (.box (T 4)),none⟩,
 ⟨some 2,.p (.mov (T 5)),none⟩]
def xq86_1:List XO:=zYk
theorem xq86_1e:E3 xq86_1 zYk:=E3.rfl
def xq86:XF:=⟨1,[.tmp 2],
 .seq (.ops xq86_0) (.seq (.ops xq86_1) (.ret))⟩
def yq86:=PLift.up (And.intro (@xq86_0e) (@xq86_1e))
theorem cq86:zX Tryz.prog Tryz.f86=some xq86:=by kernel_rfl
abbrev zY4:List XO:=[
 ⟨some 4,.p (.mov (C (.int .u64 0))),none⟩]
def xq89_0:List XO:=zY4
theorem xq89_0e:E3 xq89_0 zY4:=E3.rfl
abbrev zY6:List XO:=[
 ⟨some 8,.p (.mov (T 0)),none⟩,
 ⟨some 9,.call (.func 109) [(T 8)],none⟩,
 ⟨some 10,.p (.eql false .int (T 9) (C (.int .i64 0))),none⟩,
 ⟨some 11,.p (.mov (T 10)),none⟩,
 ⟨some 12,.p (.mov (T 1)),some (11,true)⟩,
 ⟨some 13,.p (.bin .gtr (T 12) (C (.int .i64 8))),some (11,true)⟩,
 ⟨some 14,.p (.pick (T 11) (T 13) (C (.bool false))),none⟩]
def xq89_1:List XO:=zY6
theorem xq89_1e:E3 xq89_1 zY6:=E3.rfl
abbrev zY7:List XO:=[
 ⟨some 15,.p (.mov (T 0)),none⟩,
 ⟨some 16,.p (.nilc (T 15)),none⟩,
 ⟨some 17,.p (.faddr 2 (T 16)),none⟩,
 ⟨none,.e (.store 1 (T 17) (C (.int .i64 1))),none⟩]
def xq89_2:List XO:=zY7
theorem xq89_2e:E3 xq89_2 zY7:=E3.rfl
abbrev zY8:List XO:=[
 ⟨some 5,.p (.mov (C (.int .u64 0))),none⟩]
def xq89_3:List XO:=zY8
theorem xq89_3e:E3 xq89_3 zY8:=E3.rfl
abbrev zY9:List XO:=[
 ⟨some 18,.p (.mov (T 0)),none⟩,
 ⟨some 19,.p (.mov (T 1)),none⟩,
 ⟨some 20,.call (.func 150) [(T 18),(T 19)],none⟩,
 ⟨some 21,.a (.cs2b (T 20)),none⟩,
 ⟨some 22,.p (.lenV (T 21)),none⟩,
 ⟨some 23,.p (.mov (C (.int .i64 0))),none⟩]
def xq89_4:List XO:=zY9
theorem xq89_4e:E3 xq89_4 zY9:=E3.rfl
abbrev zZA:List XO:=[
 ⟨some 24,.p (.bin .lss (T 23) (T 22)),none⟩]
def xq89_5:List XO:=zZA
theorem xq89_5e:E3 xq89_5 zZA:=E3.rfl
abbrev zZB:List XO:=[
 ⟨some 25,.p (.iaddrS 1 (T 21) (T 23)),none⟩,
 ⟨some 26,.r (.load1 (T 25)),none⟩,
 ⟨some 7,.p (.mov (T 26)),none⟩]
def xq89_6:List XO:=zZB
theorem xq89_6e:E3 xq89_6 zZB:=E3.rfl
abbrev zZC:List XO:=[
 ⟨some 27,.p (.mov (T 5)),none⟩,
 ⟨some 28,.p (.bin .shl (T 27) (C (.int .u64 8))),none⟩,
 ⟨some 29,.p (.mov (T 7)),none⟩,
 ⟨some 30,.p (.cint .u64 (T 29)),none⟩,
 ⟨some 31,.p (.bin .or (T 28) (T 30)),none⟩,
 ⟨some 5,.p (.mov (T 31)),none⟩]
def xq89_7:List XO:=zZC
theorem xq89_7e:E3 xq89_7 zZC:=E3.rfl
abbrev zZD:List XO:=[
 ⟨some 32,.p (.bin .add (T 23) (C (.int .i64 1))),none⟩,
 ⟨some 23,.p (.mov (T 32)),none⟩]
def xq89_8:List XO:=zZD
theorem xq89_8e:E3 xq89_8 zZD:=E3.rfl
def zJo:XC :=
 .seq (.ops xq89_5) (.seq (.cond (T 24) (.skip) (.exit 0)) (.seq (.block 1 (.seq (.ops xq89_6) (.ops xq89_7))) (.ops xq89_8)))
def zJn:XC:=zJo
theorem xq89_9k {pr:Prog} {k:List KI} {Q:XE→Fr→Heap→Prop} {t:Fr} {h:Heap} (hw:wpk pr zJo k Q t h):wpk pr zJn k Q t h:=hw
abbrev zY5:List XO:=[
 ⟨some 33,.p (.mov (T 5)),none⟩,
 ⟨some 4,.p (.mov (T 33)),none⟩]
def zJm:List XO:=zY5
theorem xq89_10e:E3 zJm zY5:=E3.rfl
def xq89:XF:=⟨2,[.tmp 4],
 .seq (.ops xq89_0) (.seq (.seq (.ops xq89_1) (.cond (T 14) (.ops xq89_2) (.skip))) (.seq (.ops xq89_3) (.seq (.seq (.ops xq89_4) (.block 0 (.loop zJn))) (.seq (.ops zJm) (.ret)))))⟩
def yq89:=PLift.up (And.intro (And.intro (And.intro (@xq89_0e) (@xq89_1e)) (And.intro (@xq89_2e) (And.intro (@xq89_3e) (@xq89_4e)))) (And.intro (And.intro (@xq89_5e) (@xq89_6e)) (And.intro (@xq89_7e) (And.intro (@xq89_8e) (@xq89_10e)))))
theorem cq89:zX Tryz.prog Tryz.f89=some xq89:=by kernel_rfl
abbrev zQd:List XO:=[
 ⟨some 4,.p (.mov (C (.string (strOf [])))),none⟩]
def zQc:List XO:=zQd
theorem xq150_0e:E3 zQc zQd:=E3.rfl
abbrev zQh:List XO:=[
 ⟨some 6,.p (.mov (T 0)),none⟩,
 ⟨some 7,.call (.func 109) [(T 6)],none⟩,
 ⟨some 8,.p (.eql true .int (T 7) (C (.int .i64 0))),none⟩,
 ⟨some 5,.p (.mov (T 8)),none⟩]
def zQe:List XO:=zQh
theorem xq150_1e:E3 zQe zQh:=E3.rfl
abbrev zQj:List XO:=[
 ⟨some 4,.p (.mov (C (.string (strOf [])))),none⟩]
def zQi:List XO:=zQj
theorem xq150_2e:E3 zQi zQj:=E3.rfl
abbrev zQl:List XO:=[
 ⟨some 10,.p (.mov (T 1)),none⟩,
 ⟨some 11,.p (.bin .lss (T 10) (C (.int .i64 0))),none⟩,
 ⟨some 9,.p (.mov (T 11)),none⟩]
def zQk:List XO:=zQl
theorem xq150_3e:E3 zQk zQl:=E3.rfl
abbrev zQn:List XO:=[
 ⟨some 12,.p (.mov (T 0)),none⟩,
 ⟨some 13,.p (.nilc (T 12)),none⟩,
 ⟨some 14,.p (.faddr 2 (T 13)),none⟩,
 ⟨none,.e (.store 1 (T 14) (C (.int .i64 1))),none⟩]
def zQm:List XO:=zQn
theorem xq150_4e:E3 zQm zQn:=E3.rfl
abbrev zQp:List XO:=[
 ⟨some 4,.p (.mov (C (.string (strOf [])))),none⟩]
def zQo:List XO:=zQp
theorem xq150_5e:E3 zQo zQp:=E3.rfl
abbrev zQr:List XO:=[
 ⟨some 16,.p (.mov (T 1)),none⟩,
 ⟨some 17,.p (.mov (T 0)),none⟩,
 ⟨some 18,.p (.nilc (T 17)),none⟩,
 ⟨some 19,.p (.faddr 0 (T 18)),none⟩,
 ⟨some 20,.r (.load1 (T 19)),none⟩,
 ⟨some 21,.p (.lenS (T 20)),none⟩,
 ⟨some 22,.p (.mov (T 0)),none⟩,
 ⟨some 23,.p (.nilc (T 22)),none⟩,
 ⟨some 24,.p (.faddr 1 (T 23)),none⟩,
 ⟨some 25,.r (.load1 (T 24)),none⟩,
 ⟨some 26,.p (.bin .sub (T 21) (T 25)),none⟩,
 ⟨some 27,.p (.bin .gtr (T 16) (T 26)),none⟩,
 ⟨some 15,.p (.mov (T 27)),none⟩]
def zQq:List XO:=zQr
theorem xq150_6e:E3 zQq zQr:=E3.rfl
abbrev zQt:List XO:=[
 ⟨some 28,.p (.mov (T 0)),none⟩,
 ⟨some 29,.p (.nilc (T 28)),none⟩,
 ⟨some 30,.p (.faddr 2 (T 29)),none⟩,
 ⟨none,.e (.store 1 (T 30) (C (.int .i64 4))),none⟩]
def zQs:List XO:=zQt
theorem xq150_7e:E3 zQs zQt:=E3.rfl
abbrev zQv:List XO:=[
 ⟨some 4,.p (.mov (C (.string (strOf [])))),none⟩]
def zQu:List XO:=zQv
theorem xq150_8e:E3 zQu zQv:=E3.rfl
abbrev zQx:List XO:=[
 ⟨some 31,.p (.mov (T 0)),none⟩,
 ⟨some 32,.p (.nilc (T 31)),none⟩,
 ⟨some 33,.p (.faddr 1 (T 32)),none⟩,
 ⟨some 34,.r (.load1 (T 33)),none⟩,
 ⟨some 35,.p (.mov (T 1)),none⟩,
 ⟨some 36,.p (.bin .add (T 34) (T 35)),none⟩,
 ⟨some 37,.p (.nilc (T 31)),none⟩,
 ⟨some 38,.p (.faddr 1 (T 37)),none⟩,
 ⟨none,.e (.store 1 (T 38) (T 36)),none⟩]
def zQw:List XO:=zQx
theorem xq150_9e:E3 zQw zQx:=E3.rfl
abbrev zQg:List XO:=[
 ⟨some 39,.p (.mov (T 0)),none⟩,
 ⟨some 40,.p (.nilc (T 39)),none⟩,
 ⟨some 41,.p (.faddr 0 (T 40)),none⟩,
 ⟨some 42,.r (.load1 (T 41)),none⟩,
 ⟨some 43,.p (.mov (T 0)),none⟩,
 ⟨some 44,.p (.nilc (T 43)),none⟩,
 ⟨some 45,.p (.faddr 1 (T 44)),none⟩,
 ⟨some 46,.r (.load1 (T 45)),none⟩,
 ⟨some 47,.p (.mov (T 1)),none⟩,
 ⟨some 48,.p (.bin .sub (T 46) (T 47)),none⟩,
 ⟨some 49,.p (.mov (T 0)),none⟩,
 ⟨some 50,.p (.nilc (T 49)),none⟩,
 ⟨some 51,.p (.faddr 1 (T 50)),none⟩,
 ⟨some 52,.r (.load1 (T 51)),none⟩,
 ⟨some 53,.p (.slcS (T 42) (some (T 48)) (some (T 52))),none⟩,
 ⟨some 4,.p (.mov (T 53)),none⟩]
def zQf:List XO:=zQg
theorem zcZ:E3 zQf zQg:=E3.rfl
def xq150:XF:=⟨2,[.tmp 4],
 .seq (.ops zQc) (.seq (.block 0 (.seq (.ops zQe) (.cond (T 5) (.seq (.ops zQi) (.ret)) (.seq (.ops zQk) (.cond (T 9) (.seq (.ops zQm) (.seq (.ops zQo) (.ret))) (.seq (.draw zQq []) (.cond (T 15) (.seq (.ops zQs) (.seq (.ops zQu) (.ret))) (.skip)))))))) (.seq (.ops zQw) (.seq (.draw zQf []) (.ret))))⟩
def yq150:=PLift.up (And.intro (And.intro (And.intro (@xq150_0e) (@xq150_1e)) (And.intro (@xq150_2e) (And.intro (@xq150_3e) (@xq150_4e)))) (And.intro (And.intro (@xq150_5e) (And.intro (@xq150_6e) (@xq150_7e))) (And.intro (@xq150_8e) (And.intro (@xq150_9e) (@zcZ)))))
theorem cq150:zX Tryz.prog Tryz.f150=some xq150:=by kernel_rfl
abbrev zOd:List XO:=[
 ⟨some 4,.p (.mov (C (.int .i64 0))),none⟩]
def zOc:List XO:=zOd
theorem xq108_0e:E3 zOc zOd:=E3.rfl
abbrev zOf:List XO:=[
 ⟨some 7,.p (.mov (T 0)),none⟩,
 ⟨some 8,.call (.func 149) [(T 7)],none⟩,
 ⟨some 5,.p (.mov (T 8)),none⟩]
def zOe:List XO:=zOf
theorem xq108_1e:E3 zOe zOf:=E3.rfl
abbrev zOh:List XO:=[
 ⟨some 9,.p (.mov (T 0)),none⟩,
 ⟨some 10,.call (.func 89) [(T 9),(C (.int .i64 4))],none⟩,
 ⟨some 6,.p (.mov (T 10)),none⟩]
def zOg:List XO:=zOh
theorem xq108_2e:E3 zOg zOh:=E3.rfl
abbrev zOj:List XO:=[
 ⟨some 11,.p (.mov (T 0)),none⟩,
 ⟨some 12,.call (.func 109) [(T 11)],none⟩,
 ⟨some 13,.p (.eql true .int (T 12) (C (.int .i64 0))),none⟩]
def zOi:List XO:=zOj
theorem xq108_3e:E3 zOi zOj:=E3.rfl
abbrev zOl:List XO:=[
 ⟨some 4,.p (.mov (C (.int .i64 0))),none⟩]
def zOk:List XO:=zOl
theorem xq108_4e:E3 zOk zOl:=E3.rfl
abbrev zOn:List XO:=[
 ⟨some 14,.p (.mov (T 1)),none⟩,
 ⟨some 15,.p (.bin .lss (T 14) (C (.int .i64 0))),none⟩,
 ⟨some 16,.p (.mov (T 15)),none⟩,
 ⟨some 17,.p (.mov (T 6)),some (16,false)⟩,
 ⟨some 18,.p (.mov (T 1)),some (16,false)⟩,
 ⟨some 19,.p (.cint .u64 (T 18)),some (16,false)⟩,
 ⟨some 20,.p (.bin .gtr (T 17) (T 19)),some (16,false)⟩,
 ⟨some 21,.p (.pick (T 16) (C (.bool true)) (T 20)),none⟩]
def zOm:List XO:=zOn
theorem xq108_5e:E3 zOm zOn:=E3.rfl
abbrev zOp:List XO:=[
 ⟨some 22,.p (.mov (T 0)),none⟩,
 ⟨some 23,.p (.mov (T 0)),none⟩,
 ⟨some 24,.p (.mov (T 5)),none⟩,
 ⟨some 25,.p (.nilc (T 22)),none⟩,
 ⟨some 26,.p (.faddr 1 (T 25)),none⟩,
 ⟨none,.e (.store 1 (T 26) (T 24)),none⟩,
 ⟨some 27,.p (.nilc (T 23)),none⟩,
 ⟨some 28,.p (.faddr 2 (T 27)),none⟩,
 ⟨none,.e (.store 1 (T 28) (C (.int .i64 3))),none⟩]
def zOo:List XO:=zOp
theorem xq108_6e:E3 zOo zOp:=E3.rfl
abbrev zOr:List XO:=[
 ⟨some 4,.p (.mov (C (.int .i64 0))),none⟩]
def zOq:List XO:=zOr
theorem xq108_7e:E3 zOq zOr:=E3.rfl
abbrev zOt:List XO:=[
 ⟨some 29,.p (.mov (T 6)),none⟩,
 ⟨some 30,.p (.cint .i64 (T 29)),none⟩,
 ⟨some 4,.p (.mov (T 30)),none⟩]
def zOs:List XO:=zOt
theorem xq108_8e:E3 zOs zOt:=E3.rfl
def xq108:XF:=⟨2,[.tmp 4],
 .seq (.ops zOc) (.seq (.ops zOe) (.seq (.ops zOg) (.seq (.seq (.ops zOi) (.cond (T 13) (.seq (.ops zOk) (.ret)) (.skip))) (.seq (.seq (.ops zOm) (.cond (T 21) (.seq (.ops zOo) (.seq (.ops zOq) (.ret))) (.skip))) (.seq (.ops zOs) (.ret))))))⟩
def yq108:=PLift.up (And.intro (And.intro (And.intro (@xq108_0e) (@xq108_1e)) (And.intro (@xq108_2e) (@xq108_3e))) (And.intro (And.intro (@xq108_4e) (@xq108_5e)) (And.intro (@xq108_6e) (And.intro (@xq108_7e) (@xq108_8e)))))
theorem cq108:zX Tryz.prog Tryz.f108=some xq108:=by kernel_rfl
abbrev zYl:List XO:=[
 ⟨some 4,.p (.mov (C (.string (strOf [])))),none⟩]
def xq87_0:List XO:=zYl
theorem xq87_0e:E3 xq87_0 zYl:=E3.rfl
abbrev zYm:List XO:=[
 ⟨some 7,.p (.mov (T 0)),none⟩,
 ⟨some 8,.call (.func 149) [(T 7)],none⟩,
 ⟨some 5,.p (.mov (T 8)),none⟩]
def xq87_1:List XO:=zYm
theorem xq87_1e:E3 xq87_1 zYm:=E3.rfl
abbrev zYn:List XO:=[
 ⟨some 9,.p (.mov (T 0)),none⟩,
 ⟨some 10,.p (.mov (T 0)),none⟩,
 ⟨some 11,.p (.mov (T 1)),none⟩,
 ⟨some 12,.call (.func 108) [(T 10),(T 11)],none⟩,
 ⟨some 13,.call (.func 150) [(T 9),(T 12)],none⟩,
 ⟨some 6,.p (.mov (T 13)),none⟩]
def xq87_2:List XO:=zYn
theorem xq87_2e:E3 xq87_2 zYn:=E3.rfl
abbrev zYo:List XO:=[
 ⟨some 14,.p (.mov (T 0)),none⟩,
 ⟨some 15,.call (.func 109) [(T 14)],none⟩,
 ⟨some 16,.p (.eql true .int (T 15) (C (.int .i64 0))),none⟩,
 ⟨some 17,.p (.mov (T 16)),none⟩,
 ⟨some 18,.p (.mov (T 0)),some (17,true)⟩,
 ⟨some 19,.p (.eql true .nptr (T 18) (C (.pointer none))),some (17,true)⟩,
 ⟨some 20,.p (.pick (T 17) (T 19) (C (.bool false))),none⟩]
def xq87_3:List XO:=zYo
theorem xq87_3e:E3 xq87_3 zYo:=E3.rfl
abbrev zYp:List XO:=[
 ⟨some 21,.p (.mov (T 0)),none⟩,
 ⟨some 22,.p (.mov (T 5)),none⟩,
 ⟨some 23,.p (.nilc (T 21)),none⟩,
 ⟨some 24,.p (.faddr 1 (T 23)),none⟩,
 ⟨none,.e (.store 1 (T 24) (T 22)),none⟩]
def xq87_4:List XO:=zYp
theorem xq87_4e:E3 xq87_4 zYp:=E3.rfl
abbrev zYq:List XO:=[
 ⟨some 25,.p (.mov (T 6)),none⟩,
 ⟨some 4,.p (.mov (T 25)),none⟩]
def xq87_5:List XO:=zYq
theorem xq87_5e:E3 xq87_5 zYq:=E3.rfl
def xq87:XF:=⟨2,[.tmp 4],
 .seq (.ops xq87_0) (.seq (.ops xq87_1) (.seq (.ops xq87_2) (.seq (.seq (.ops xq87_3) (.cond (T 20) (.ops xq87_4) (.skip))) (.seq (.ops xq87_5) (.ret)))))⟩
def yq87:=PLift.up (And.intro (And.intro (@xq87_0e) (And.intro (@xq87_1e) (@xq87_2e))) (And.intro (@xq87_3e) (And.intro (@xq87_4e) (@xq87_5e))))
theorem cq87:zX Tryz.prog Tryz.f87=some xq87:=by kernel_rfl
abbrev zZE:List XO:=[
 ⟨some 2,.p (.mov (C (.string (strOf [])))),none⟩]
def xq90_0:List XO:=zZE
theorem xq90_0e:E3 xq90_0 zZE:=E3.rfl
abbrev zZF:List XO:=[
 ⟨some 3,.p (.mov (T 0)),none⟩,
 ⟨some 4,.call (.func 150) [(T 3),(C (.int .i64 32))],none⟩,
 ⟨some 2,.p (.mov (T 4)),none⟩]
def xq90_1:List XO:=zZF
theorem xq90_1e:E3 xq90_1 zZF:=E3.rfl
def xq90:XF:=⟨1,[.tmp 2],
 .seq (.ops xq90_0) (.seq (.ops xq90_1) (.ret))⟩
def yq90:=PLift.up (And.intro (@xq90_0e) (@xq90_1e))
theorem cq90:zX Tryz.prog Tryz.f90=some xq90:=by kernel_rfl
abbrev zZG:List XO:=[
 ⟨some 2,.p (.mov (C (.int .i64 0))),none⟩]
def xq91_0:List XO:=zZG
theorem xq91_0e:E3 xq91_0 zZG:=E3.rfl
abbrev zZH:List XO:=[
 ⟨some 3,.p (.mov (T 0)),none⟩,
 ⟨some 4,.call (.func 152) [(T 3)],none⟩,
 ⟨some 5,.p (.bin .gtr (T 4) (C (.int .i64 0))),none⟩]
def xq91_1:List XO:=zZH
theorem xq91_1e:E3 xq91_1 zZH:=E3.rfl
abbrev zZI:List XO:=[
 ⟨some 6,.p (.mov (T 0)),none⟩,
 ⟨some 7,.call (.func 151) [(T 6),(C (.int .i64 5))],none⟩]
def xq91_2:List XO:=zZI
theorem xq91_2e:E3 xq91_2 zZI:=E3.rfl
abbrev zZJ:List XO:=[
 ⟨some 8,.p (.mov (T 0)),none⟩,
 ⟨some 9,.call (.func 109) [(T 8)],none⟩,
 ⟨some 2,.p (.mov (T 9)),none⟩]
def xq91_3:List XO:=zZJ
theorem xq91_3e:E3 xq91_3 zZJ:=E3.rfl
def xq91:XF:=⟨1,[.tmp 2],
 .seq (.ops xq91_0) (.seq (.seq (.ops xq91_1) (.cond (T 5) (.ops xq91_2) (.skip))) (.seq (.ops xq91_3) (.ret)))⟩
def yq91:=PLift.up (And.intro (And.intro (@xq91_0e) (@xq91_1e)) (And.intro (@xq91_2e) (@xq91_3e)))
theorem cq91:zX Tryz.prog Tryz.f91=some xq91:=by kernel_rfl
abbrev zQz:List XO:=[
 ⟨some 4,.p (.mov (T 0)),none⟩,
 ⟨some 5,.p (.eql true .nptr (T 4) (C (.pointer none))),none⟩,
 ⟨some 6,.p (.mov (T 5)),none⟩,
 ⟨some 7,.p (.mov (T 0)),some (6,true)⟩,
 ⟨some 8,.p (.nilc (T 7)),some (6,true)⟩,
 ⟨some 9,.p (.faddr 2 (T 8)),some (6,true)⟩,
 ⟨some 10,.r (.load1 (T 9)),some (6,true)⟩,
 ⟨some 11,.p (.eql false .int (T 10) (C (.int .i64 0))),some (6,true)⟩,
 ⟨some 12,.p (.pick (T 6) (T 11) (C (.bool false))),none⟩]
def zQy:List XO:=zQz
theorem xq151_0e:E3 zQy zQz:=E3.rfl
abbrev zQ1:List XO:=[
 ⟨some 13,.p (.mov (T 0)),none⟩,
 ⟨some 14,.p (.mov (T 1)),none⟩,
 ⟨some 15,.p (.nilc (T 13)),none⟩,
 ⟨some 16,.p (.faddr 2 (T 15)),none⟩,
 ⟨none,.e (.store 1 (T 16) (T 14)),none⟩]
def zQ0:List XO:=zQ1
theorem xq151_1e:E3 zQ0 zQ1:=E3.rfl
def xq151:XF:=⟨2,[],
 .seq (.ops zQy) (.cond (T 12) (.ops zQ0) (.skip))⟩
def yq151:=PLift.up (And.intro (@xq151_0e) (@xq151_1e))
theorem cq151:zX Tryz.prog Tryz.f151=some xq151:=by kernel_rfl
abbrev zQ3:List XO:=[
 ⟨some 2,.p (.mov (C (.int .i64 0))),none⟩]
def zQ2:List XO:=zQ3
theorem xq152_0e:E3 zQ2 zQ3:=E3.rfl
abbrev zQ5:List XO:=[
 ⟨some 3,.p (.mov (T 0)),none⟩,
 ⟨some 4,.p (.eql false .nptr (T 3) (C (.pointer none))),none⟩]
def zQ4:List XO:=zQ5
theorem xq152_1e:E3 zQ4 zQ5:=E3.rfl
abbrev zQ7:List XO:=[
 ⟨some 2,.p (.mov (C (.int .i64 0))),none⟩]
def zQ6:List XO:=zQ7
theorem xq152_2e:E3 zQ6 zQ7:=E3.rfl
abbrev zQ9:List XO:=[
 ⟨some 5,.p (.mov (T 0)),none⟩,
 ⟨some 6,.p (.nilc (T 5)),none⟩,
 ⟨some 7,.p (.faddr 0 (T 6)),none⟩,
 ⟨some 8,.r (.load1 (T 7)),none⟩,
 ⟨some 9,.p (.lenS (T 8)),none⟩,
 ⟨some 10,.p (.mov (T 0)),none⟩,
 ⟨some 11,.p (.nilc (T 10)),none⟩,
 ⟨some 12,.p (.faddr 1 (T 11)),none⟩,
 ⟨some 13,.r (.load1 (T 12)),none⟩,
 ⟨some 14,.p (.bin .sub (T 9) (T 13)),none⟩,
 ⟨some 2,.p (.mov (T 14)),none⟩]
def zQ8:List XO:=zQ9
theorem xq152_3e:E3 zQ8 zQ9:=E3.rfl
def xq152:XF:=⟨1,[.tmp 2],
 .seq (.ops zQ2) (.seq (.seq (.ops zQ4) (.cond (T 4) (.seq (.ops zQ6) (.ret)) (.skip))) (.seq (.draw zQ8 []) (.ret)))⟩
def yq152:=PLift.up (And.intro (And.intro (@xq152_0e) (@xq152_1e)) (And.intro (@xq152_2e) (@xq152_3e)))
theorem cq152:zX Tryz.prog Tryz.f152=some xq152:=by kernel_rfl
abbrev zOv:List XO:=[
 ⟨some 2,.p (.mov (C (.int .i64 0))),none⟩]
def zOu:List XO:=zOv
theorem xq109_0e:E3 zOu zOv:=E3.rfl
abbrev zOx:List XO:=[
 ⟨some 3,.p (.mov (T 0)),none⟩,
 ⟨some 4,.p (.eql false .nptr (T 3) (C (.pointer none))),none⟩]
def zOw:List XO:=zOx
theorem xq109_1e:E3 zOw zOx:=E3.rfl
abbrev zOz:List XO:=[
 ⟨some 2,.p (.mov (C (.int .i64 1))),none⟩]
def zOy:List XO:=zOz
theorem xq109_2e:E3 zOy zOz:=E3.rfl
abbrev zO1:List XO:=[
 ⟨some 5,.p (.mov (T 0)),none⟩,
 ⟨some 6,.p (.nilc (T 5)),none⟩,
 ⟨some 7,.p (.faddr 2 (T 6)),none⟩,
 ⟨some 8,.r (.load1 (T 7)),none⟩,
 ⟨some 2,.p (.mov (T 8)),none⟩]
def zO0:List XO:=zO1
theorem xq109_3e:E3 zO0 zO1:=E3.rfl
def xq109:XF:=⟨1,[.tmp 2],
 .seq (.ops zOu) (.seq (.seq (.ops zOw) (.cond (T 4) (.seq (.ops zOy) (.ret)) (.skip))) (.seq (.ops zO0) (.ret)))⟩
def yq109:=PLift.up (And.intro (And.intro (@xq109_0e) (@xq109_1e)) (And.intro (@xq109_2e) (@xq109_3e)))
theorem cq109:zX Tryz.prog Tryz.f109=some xq109:=by kernel_rfl
abbrev zQV:List XO:=[
 ⟨some 2,.p (.mov (C (.int .i64 0))),none⟩]
def zQU:List XO:=zQV
theorem xq149_0e:E3 zQU zQV:=E3.rfl
abbrev zQX:List XO:=[
 ⟨some 3,.p (.mov (T 0)),none⟩,
 ⟨some 4,.p (.eql false .nptr (T 3) (C (.pointer none))),none⟩]
def zQW:List XO:=zQX
theorem xq149_1e:E3 zQW zQX:=E3.rfl
abbrev zQZ:List XO:=[
 ⟨some 2,.p (.mov (C (.int .i64 0))),none⟩]
def zQY:List XO:=zQZ
theorem xq149_2e:E3 zQY zQZ:=E3.rfl
abbrev zQb:List XO:=[
 ⟨some 5,.p (.mov (T 0)),none⟩,
 ⟨some 6,.p (.nilc (T 5)),none⟩,
 ⟨some 7,.p (.faddr 1 (T 6)),none⟩,
 ⟨some 8,.r (.load1 (T 7)),none⟩,
 ⟨some 2,.p (.mov (T 8)),none⟩]
def zQa:List XO:=zQb
theorem xq149_3e:E3 zQa zQb:=E3.rfl
def xq149:XF:=⟨1,[.tmp 2],
 .seq (.ops zQU) (.seq (.seq (.ops zQW) (.cond (T 4) (.seq (.ops zQY) (.ret)) (.skip))) (.seq (.ops zQa) (.ret)))⟩
def yq149:=PLift.up (And.intro (And.intro (@xq149_0e) (@xq149_1e)) (And.intro (@xq149_2e) (@xq149_3e)))
theorem cq149:zX Tryz.prog Tryz.f149=some xq149:=by kernel_rfl
end Go.X
end
section
open Go Go.X
namespace Go.X
set_option linter.unusedVariables false
def numB (n k:Nat):List UInt8:=(List.range k).map fun i=>UInt8.ofNat (n >>> (8*(k - 1 - i)))
theorem zBK (n k:Nat):(numB n k).length=k:=by simp[numB]
def mmV (isMax:Bool) (x:Value):List Value→Option Value
 | []=>some x
 | y::ys=>match mm isMax x y with|some z=>mmV isMax z ys|none=>none
theorem zIN {t:Fr} {b:Bool} {x:Operand} {xs:List Operand}:zV t (.minmax b x xs)=mmV b (t.eval x) (xs.map t.eval):=by
 simp only[zV]
 generalize t.eval x=v
 induction xs generalizing v with
 | nil=>rfl
 | cons y ys ih =>
  simp only[mms,List.map_cons,mmV]
  cases mm b v (t.eval y) with
  | none=>rfl
  | some z=>exact ih z
theorem mm_max {k:IntKind} {x y:Int}:mmV true (.int k x) [.int k y]=some (.int k (if y>x then y else x)):=by simp[mmV,mm]
theorem mm_min {k:IntKind} {x y:Int}:mmV false (.int k x) [.int k y]=some (.int k (if y<x then y else x)):=by simp[mmV,mm]
def zEX:List Value→Option Value
 | [.int .u64 n,.int .i64 k]=>if 0≤n∧n<18446744073709551616∧0≤k∧k≤8 then some (.string (strOf (numB n.toNat k.toNat))) else none
 | _=>none
theorem wnum_ok (pr:Prog) (n k:Nat) (hn:n<18446744073709551616) (hk:k≤8) (h:Heap):Comes pr xq136 [uw .u64 n,.int .i64 (k:Int)] h (.string (strOf (numB n k))):=by
 apply Comes.of
 unfold xq136
 dsimp only[zY]
 have m1:=mm_max (k:=.i64) (x:=(k:Int)) (y:=0)
 have m2:=mm_min (k:=.i64) (x:=(k:Int)) (y:=8)
 rw[if_neg (by omega)] at m1 m2
 (repeat (first|refine zS ?_|refine zK ?_|refine zR ?_|refine zD ?_|refine zB ?_|refine zI ?_|refine zJ ?_|refine zP ?_|refine zE ?_|refine zG ?_|refine zF ?_|refine zH (by decide) ?_|refine zQ ?_|((first|refine zC ?_|refine zM ?_|refine zO rfl rfl ?_|refine zN rfl ?_|refine zL ?_);simp only[yq136.down,zA,lemS.down,lemC.down,zdO,zdN,zdL,reduceIte,zdM,zdP,zdQ,zdR,zdS,zdT,zdU,zdV,zdW,reduceCtorEq,lemH.down,zIN,m1,m2])))
 have hl:∀i,i≤k→((numB n k).take i).length=i:=fun i hi=>by rw[List.length_take,zBK];omega
 refine zAU (fun m t g=>∃i v,m=k - i∧i≤k∧Own g (fun A=>h.next≤A) 1 v ((numB n k).take i).length (zW ((numB n k).take i))∧Grows h g∧t.get 0=uw .u64 n∧t.get 1=.int .i64 (k:Int)∧t.get 5=v∧t.get 9=.int .i64 (k:Int)∧t.get 10=.int .i64 (i:Int)) ?_ k _ _ ⟨0,_,rfl,by omega,Own.nil,Grows.refl h,by simp only[yq136.down,zA,lemS.down,lemC.down,zdO,zdN,zdL,reduceIte,zdM,zdP,zdQ,zdR,zdS,zdT,zdU,zdV,zdW,reduceCtorEq],by simp only[yq136.down,zA,lemS.down,lemC.down,zdO,zdN,zdL,reduceIte,zdM,zdP,zdQ,zdR,zdS,zdT,zdU,zdV,zdW,reduceCtorEq],by simp only[yq136.down,zA,lemS.down,lemC.down,zdO,zdN,zdL,reduceIte,zdM,zdP,zdQ,zdR,zdS,zdT,zdU,zdV,zdW,reduceCtorEq],by simp only[yq136.down,zA,lemS.down,lemC.down,zdO,zdN,zdL,reduceIte,zdM,zdP,zdQ,zdR,zdS,zdT,zdU,zdV,zdW,reduceCtorEq],by (simp only[yq136.down,zA,lemS.down,lemC.down,zdO,zdN,zdL,reduceIte,zdM,zdP,zdQ,zdR,zdS,zdT,zdU,zdV,zdW,reduceCtorEq])<;>rfl⟩
 rintro m t g ⟨i,v,rfl,hi,gO,gg,t0,t1,t5,t9,t10⟩ hnext
 refine xq136_7k ?_
 dsimp only[zJF]
 (repeat (first|refine zS ?_|refine zK ?_|refine zR ?_|refine zD ?_|refine zB ?_|refine zI ?_|refine zJ ?_|refine zP ?_|refine zE ?_|refine zG ?_|refine zF ?_|refine zH (by decide) ?_|refine zQ ?_|((first|refine zC ?_|refine zM ?_|refine zO rfl rfl ?_|refine zN rfl ?_|refine zL ?_);simp only[yq136.down,zA,lemS.down,lemC.down,zdO,zdN,zdL,reduceIte,zdM,zdP,zdQ,zdR,zdS,zdT,zdU,zdV,zdW,reduceCtorEq,lemH.down,t0,t1,t5,t9,t10])))
 refine⟨fun hlt=>?_,fun hge=>?_⟩
 ·have hi':i<k:=by omega
  have ww:IntKind.i64.wrap ((i:Int)+1)=((i+1:Nat):Int):=by rw[wrap_i64 (by omega) (by omega)];omega
  have w1:IntKind.i64.wrap ((k:Int) - 1)=((k - 1:Nat):Int):=by rw[wrap_i64 (by omega) (by omega)];omega
  have w2:IntKind.i64.wrap (((k - 1:Nat):Int) - (i:Int))=((k - 1 - i:Nat):Int):=by rw[wrap_i64 (by omega) (by omega)];omega
  have w3:IntKind.i64.wrap (8*((k - 1 - i:Nat):Int))=((8*(k - 1 - i):Nat):Int):=by rw[wrap_i64 (by omega) (by omega)];omega
  have sh:=zMS (k':=.i64) (x:=n) (n:=8*(k - 1 - i)) (by omega)
  rw[Nat.mod_eq_of_lt hn] at sh
  have hnx:=gg.next
  obtain⟨v',g2,e2,hO2,k2⟩:=gO.push (n >>> (8*(k - 1 - i))) (by rw[hl i hi];unfold zT;omega) (fun A hA=>by show h.next≤A;omega)
  (repeat (first|refine zS ?_|refine zK ?_|refine zR ?_|refine zD ?_|refine zB ?_|refine zI ?_|refine zJ ?_|refine zP ?_|refine zE ?_|refine zG ?_|refine zF ?_|refine zH (by decide) ?_|refine zQ ?_|((first|refine zC ?_|refine zM ?_|refine zO rfl rfl ?_|refine zN rfl ?_|refine zL ?_);simp only[yq136.down,zA,lemS.down,lemC.down,zdO,zdN,zdL,reduceIte,zdM,zdP,zdQ,zdR,zdS,zdT,zdU,zdV,zdW,reduceCtorEq,lemH.down,lemW.down,t0,t1,t5,t9,t10,zIN,m2,w1,w2,w3,sh,e2,ww])))
  refine hnext (k - (i+1)) _ _ (by omega) ⟨i+1,v',rfl,by omega,?_,gg.then k2 (fun A hA=>by show ¬(h.next≤A);omega),by simp only[yq136.down,zA,lemS.down,lemC.down,zdO,zdN,zdL,reduceIte,zdM,zdP,zdQ,zdR,zdS,zdT,zdU,zdV,zdW,reduceCtorEq,t0],by simp only[yq136.down,zA,lemS.down,lemC.down,zdO,zdN,zdL,reduceIte,zdM,zdP,zdQ,zdR,zdS,zdT,zdU,zdV,zdW,reduceCtorEq,t1],by simp only[yq136.down,zA,lemS.down,lemC.down,zdO,zdN,zdL,reduceIte,zdM,zdP,zdQ,zdR,zdS,zdT,zdU,zdV,zdW,reduceCtorEq],by simp only[yq136.down,zA,lemS.down,lemC.down,zdO,zdN,zdL,reduceIte,zdM,zdP,zdQ,zdR,zdS,zdT,zdU,zdV,zdW,reduceCtorEq,t9],by simp only[yq136.down,zA,lemS.down,lemC.down,zdO,zdN,zdL,reduceIte,zdM,zdP,zdQ,zdR,zdS,zdT,zdU,zdV,zdW,reduceCtorEq]⟩
  rw[List.take_succ_eq_append_getElem (by rw[zBK];exact hi')]
  have:(numB n k)[i]'(by rw[zBK];exact hi')=UInt8.ofNat (n >>> (8*(k - 1 - i))):=by simp[numB]
  rw[this]
  exact hO2
 ·obtain rfl:i=k:=by omega
  rw[List.take_of_length_le (by rw[zBK];exact Nat.le_refl _)] at gO
  (repeat (first|refine zS ?_|refine zK ?_|refine zR ?_|refine zD ?_|refine zB ?_|refine zI ?_|refine zJ ?_|refine zP ?_|refine zE ?_|refine zG ?_|refine zF ?_|refine zH (by decide) ?_|refine zQ ?_|((first|refine zC ?_|refine zM ?_|refine zO rfl rfl ?_|refine zN rfl ?_|refine zL ?_);simp only[yq136.down,zA,lemS.down,lemC.down,zdO,zdN,zdL,reduceIte,zdM,zdP,zdQ,zdR,zdS,zdT,zdU,zdV,zdW,reduceCtorEq,lemH.down,t0,t1,t5,t9,t10,gO.cb2s])))
  exact⟨.inr rfl,by simp only[yq136.down,zA,lemS.down,lemC.down,zdO,zdN,zdL,reduceIte,zdM,zdP,zdQ,zdR,zdS,zdT,zdU,zdV,zdW,reduceCtorEq],gg⟩
end Go.X
end
section
open Go Go.X
namespace Go.X
set_option linter.unusedVariables false
def WrS (h:Heap) (W:Nat) (S:Nat→Prop) (b:List UInt8):Prop:=S W∧∃v,Var h W [v]∧Own h (fun A=>S A∧A≠W) 1 v b.length (zW b)
def Wr (h:Heap) (W N:Nat) (b:List UInt8):Prop:=WrS h W (fun A=>N≤A) b
theorem WrS.keep {S K:Nat→Prop} {h h':Heap} {W:Nat} {b:List UInt8} (hw:WrS h W S b) (hk:Keeps K h h') (hK:∀A,S A→¬K A):WrS h' W S b:=by
 obtain⟨h1,v,h2,h3⟩:=hw
 exact⟨h1,v,h2.keep hk (hK W h1),h3.keep hk fun A hA=>hK A hA.1⟩
theorem WrS.grow {S:Nat→Prop} {h h':Heap} {W:Nat} {b:List UInt8} (hw:WrS h W S b) (hg:Grows h h'):WrS h' W S b:=hw.keep (K:=zCZ) hg.keeps (fun _ _=>id)
theorem WrS.mono {S S':Nat→Prop} {h:Heap} {W:Nat} {b:List UInt8} (hw:WrS h W S b) (hS:∀A,A<h.next→S A→S' A):WrS h W S' b:=by
 obtain⟨h1,v,h2,h3⟩:=hw
 exact⟨hS W h2.1 h1,v,h2,h3.bound.mono fun A hA=>⟨hS A hA.2 hA.1.1,hA.1.2⟩⟩
theorem Wr.next {h:Heap} {W N:Nat} {b:List UInt8} (hw:Wr h W N b):∀A,h.next≤A→N≤A:=fun A hA=>by
 obtain⟨h1,v,h2,h3⟩:=hw
 have:=h2.1
 show N≤A
 have:N≤W:=h1
 omega
theorem Wr.keep {K:Nat→Prop} {h h':Heap} {W N:Nat} {b:List UInt8} (hw:Wr h W N b) (hk:Keeps K h h') (hK:∀A,N≤A→¬K A):Wr h' W N b:=by
 obtain⟨h1,v,h2,h3⟩:=hw
 exact⟨h1,v,h2.keep hk (hK W h1),h3.keep hk fun A hA=>hK A hA.1⟩
theorem Wr.grow {h h':Heap} {W N:Nat} {b:List UInt8} (hw:Wr h W N b) (hg:Grows h h'):Wr h' W N b:=hw.keep (K:=zCZ) hg.keeps (fun _ _=>id)
theorem zI4 {args:List Value} {v:Value} (h:zEX args=some v):args.length=2∧zAE v=true∧∀pr h,Comes pr xq136 args h v:=by
 unfold zEX at h
 split at h
 ·rename_i n k
  split at h
  ·rename_i hc
   cases h
   refine⟨rfl,rfl,fun pr h=>?_⟩
   have:=wnum_ok pr n.toNat k.toNat (by omega) (by omega) h
   rw[show (k.toNat:Int)=k by omega] at this
   have e:uw .u64 n.toNat=.int .u64 n:=by unfold uw;rw[zGj,Nat.mod_eq_of_lt (by omega)];congr 1;omega
   rw[e] at this
   exact this
  ·cases h
 ·cases h
theorem wnumS_at {n k:Nat} (hn:n<18446744073709551616) (hk:k≤8):zEX [uw .u64 n,.int .i64 (OfNat.ofNat k)]=some (.string (strOf (numB n k))):=by
 have e:(OfNat.ofNat k:Int)=(k:Int):=rfl
 have e2:uw .u64 n=.int .u64 (n:Int):=(zBj hn).symm
 rw[e2,e]
 simp only[zEX]
 rw[if_pos (by omega)]
 simp
structure zAL (pr:Prog):Prop where
 num:pr.prim 136=some (zh zEX)
 newW:pr.prim 75=none
 newWC:pr.code 75=some xq75
 wb:pr.prim 147=none
 wbC:pr.code 147=some xq147
 wn:pr.prim 78=none
 wnC:pr.code 78=some xq78
 wc:pr.prim 121=none
 wcC:pr.code 121=some xq121
 wt:pr.prim 76=none
 wtC:pr.code 76=some xq76
 wh:pr.prim 79=none
 whC:pr.code 79=some xq79
 wa:pr.prim 81=none
 waC:pr.code 81=some xq81
 newR:pr.prim 86=none
 newRC:pr.code 86=some xq86
 rn:pr.prim 89=none
 rnC:pr.code 89=some xq89
 rb:pr.prim 150=none
 rbC:pr.code 150=some xq150
 rc:pr.prim 108=none
 rcC:pr.code 108=some xq108
 rt:pr.prim 87=none
 rtC:pr.code 87=some xq87
 rh:pr.prim 90=none
 rhC:pr.code 90=some xq90
 re:pr.prim 91=none
 reC:pr.code 91=some xq91
 rf:pr.prim 151=none
 rfC:pr.code 151=some xq151
 rl:pr.prim 152=none
 rlC:pr.code 152=some xq152
 rr:pr.prim 109=none
 rrC:pr.code 109=some xq109
 ra:pr.prim 149=none
 raC:pr.code 149=some xq149
theorem zJs {pr:Prog} (T:zAL pr) (h:Heap):∃h',cfi pr 75 [] h=some (.pointer (some ⟨h.next,0,none⟩),h')∧Wr h' h.next h.next []∧Grows h h':=by
 have:∃v h',cfi pr 75 [] h=some (v,h')∧v=.pointer (some ⟨h.next,0,none⟩)∧Wr h' h.next h.next []∧Grows h h':=by
  refine zq T.newW T.newWC rfl ?_
  unfold xq75
  dsimp only[zY]
  refine wpk.out (k:=[]) ?_
  have hz:aggV (z8 [.slice none 0 0] [])=some (.agg [Value.slice none 0 0].toArray):=rfl
  (repeat (first|refine zS ?_|refine zK ?_|refine zR ?_|refine zD ?_|refine zB ?_|refine zI ?_|refine zJ ?_|refine zP ?_|refine zE ?_|refine zG ?_|refine zF ?_|refine zH (by decide) ?_|refine zQ ?_|((first|refine zC ?_|refine zM ?_|refine zO rfl rfl ?_|refine zN rfl ?_|refine zL ?_);simp only[yq75.down,zA,lemS.down,lemC.down,zdO,zdN,zdL,reduceIte,zdM,zdP,zdQ,zdR,zdS,zdT,zdU,zdV,zdW,reduceCtorEq,lemH.down,hz])))
  exact⟨.inr rfl,_,rfl,by simp only[yq75.down,zA,lemS.down,lemC.down,zdO,zdN,zdL,reduceIte,zdM,zdP,zdQ,zdR,zdS,zdT,zdU,zdV,zdW,reduceCtorEq],⟨Nat.le_refl _,_,Var.new_self,Own.nil⟩,Grows.new⟩
 obtain⟨v,h',e,rfl,r⟩:=this
 exact⟨h',e,r⟩
theorem zGy {pr:Prog} (T:zAL pr) {h:Heap} {W:Nat} {S:Nat→Prop} {b:List UInt8} (hw:WrS h W S b) (hS:∀A,h.next≤A→S A) (s:List UInt8) (hroom:b.length+s.length≤zT) :
  ∃h',cfi pr 147 [.pointer (some ⟨W,0,none⟩),.string (strOf s)] h=some (.tuple #[],h')∧WrS h' W S (b++s)∧Keeps S h h':=by
 have:∃v h',cfi pr 147 [.pointer (some ⟨W,0,none⟩),.string (strOf s)] h=some (v,h')∧v=.tuple #[]∧WrS h' W S (b++s)∧Keeps S h h':=by
  refine zq T.wb T.wbC rfl ?_
  unfold xq147
  dsimp only[zY]
  refine wpk.out (k:=[]) ?_
  obtain⟨hN,v,hV,hO⟩:=hw
  have hlt:=hV.1
  obtain⟨v2,h2,e2,hO2,k2⟩:=hO.append (bytes:=1) (m:=s.length) (new:=zW s) (by simp[zCO]) zFf (by decide) (by decide) (by omega)
  have hV2:=hV.keep k2 (fun e=>e.2 rfl)
  have st:=hO2.store (i:=0) hV2 (by simp)
  simp only[List.set_cons_zero] at st
  (repeat (first|refine zS ?_|refine zK ?_|refine zR ?_|refine zD ?_|refine zB ?_|refine zI ?_|refine zJ ?_|refine zP ?_|refine zE ?_|refine zG ?_|refine zF ?_|refine zH (by decide) ?_|refine zQ ?_|((first|refine zC ?_|refine zM ?_|refine zO rfl rfl ?_|refine zN rfl ?_|refine zL ?_);simp only[yq147.down,zA,lemS.down,lemC.down,zdO,zdN,zdL,reduceIte,zdM,zdP,zdQ,zdR,zdS,zdT,zdU,zdV,zdW,reduceCtorEq,lemH.down,zAT,hV.load,List.getElem?_cons_zero,e2,st])))
  refine⟨.inl rfl,_,rfl,rfl,⟨hN,v2,hV2.wr,?_⟩,(k2.mono fun A _ e=>e.1).trans Keeps.wr (fun A _ e=>e▸hN)⟩
  rw[List.length_append,zDN]
  refine (hO2.mono fun A hA=>?_).keep Keeps.wr (fun A hA=>hA.2)
  rcases hA with hA|hA
  ·exact hA
  ·exact⟨hS A (by omega),by omega⟩
 obtain⟨v,h',e,rfl,r⟩:=this
 exact⟨h',e,r⟩
theorem zFS {pr:Prog} (T:zAL pr) {h:Heap} {W:Nat} {S:Nat→Prop} {b:List UInt8} (hw:WrS h W S b) (hS:∀A,h.next≤A→S A) (n k:Nat) (hn:n<18446744073709551616) (hk:k≤8) (hroom:b.length+8≤zT) :
  ∃h',cfi pr 78 [.pointer (some ⟨W,0,none⟩),uw .u64 n,.int .i64 (OfNat.ofNat k)] h=some (.tuple #[],h')∧WrS h' W S (b++numB n k)∧Keeps S h h':=by
 have:∃v h',cfi pr 78 [.pointer (some ⟨W,0,none⟩),uw .u64 n,.int .i64 (OfNat.ofNat k)] h=some (v,h')∧v=.tuple #[]∧WrS h' W S (b++numB n k)∧Keeps S h h':=by
  refine zq T.wn T.wnC rfl ?_
  unfold xq78
  dsimp only[zY]
  refine wpk.out (k:=[]) ?_
  have c1:=zAR (h:=h) T.num (wnumS_at hn hk)
  obtain⟨h2,e2,w2,k2⟩:=zGy T hw hS (numB n k) (by rw[zBK];omega)
  (repeat (first|refine zS ?_|refine zK ?_|refine zR ?_|refine zD ?_|refine zB ?_|refine zI ?_|refine zJ ?_|refine zP ?_|refine zE ?_|refine zG ?_|refine zF ?_|refine zH (by decide) ?_|refine zQ ?_|((first|refine zC ?_|refine zM ?_|refine zO rfl rfl ?_|refine zN rfl ?_|refine zL ?_);simp only[yq78.down,zA,lemS.down,lemC.down,zdO,zdN,zdL,reduceIte,zdM,zdP,zdQ,zdR,zdS,zdT,zdU,zdV,zdW,reduceCtorEq,lemH.down,c1,e2])))
  exact⟨.inl rfl,_,rfl,rfl,w2,k2⟩
 obtain⟨v,h',e,rfl,r⟩:=this
 exact⟨h',e,r⟩
theorem WCountS {pr:Prog} (T:zAL pr) {h:Heap} {W:Nat} {S:Nat→Prop} {b:List UInt8} (hw:WrS h W S b) (hS:∀A,h.next≤A→S A) (n:Nat) (hn:n<9223372036854775808) (hroom:b.length+8≤zT) :
  ∃h',cfi pr 121 [.pointer (some ⟨W,0,none⟩),.int .i64 (n:Int)] h=some (.tuple #[],h')∧WrS h' W S (b++numB n 4)∧Keeps S h h':=by
 have:∃v h',cfi pr 121 [.pointer (some ⟨W,0,none⟩),.int .i64 (n:Int)] h=some (v,h')∧v=.tuple #[]∧WrS h' W S (b++numB n 4)∧Keeps S h h':=by
  refine zq T.wc T.wcC rfl ?_
  unfold xq121
  dsimp only[zY]
  refine wpk.out (k:=[]) ?_
  have m1:=mm_max (k:=.i64) (x:=(n:Int)) (y:=0)
  rw[if_neg (by omega)] at m1
  have c:=zEU (k:=.u64) (k':=.i64) zGk (n:=n)
  obtain⟨h2,e2,w2,k2⟩:=zFS T hw hS n 4 (by omega) (by decide) hroom
  have e2:cfi pr 78 [.pointer (some ⟨W,0,none⟩),uw .u64 n,.int .i64 4] h=some (.tuple #[],h2):=e2
  (repeat (first|refine zS ?_|refine zK ?_|refine zR ?_|refine zD ?_|refine zB ?_|refine zI ?_|refine zJ ?_|refine zP ?_|refine zE ?_|refine zG ?_|refine zF ?_|refine zH (by decide) ?_|refine zQ ?_|((first|refine zC ?_|refine zM ?_|refine zO rfl rfl ?_|refine zN rfl ?_|refine zL ?_);simp only[yq121.down,zA,lemS.down,lemC.down,zdO,zdN,zdL,reduceIte,zdM,zdP,zdQ,zdR,zdS,zdT,zdU,zdV,zdW,reduceCtorEq,lemH.down,zIN,m1,c,e2])))
  exact⟨.inl rfl,_,rfl,rfl,w2,k2⟩
 obtain⟨v,h',e,rfl,r⟩:=this
 exact⟨h',e,r⟩
theorem WTextS {pr:Prog} (T:zAL pr) {h:Heap} {W:Nat} {S:Nat→Prop} {b:List UInt8} (hw:WrS h W S b) (hS:∀A,h.next≤A→S A) (s:List UInt8) (hroom:b.length+s.length+8≤zT) :
  ∃h',cfi pr 76 [.pointer (some ⟨W,0,none⟩),.string (strOf s)] h=some (.tuple #[],h')∧WrS h' W S (b++numB s.length 4++s)∧Keeps S h h':=by
 have:∃v h',cfi pr 76 [.pointer (some ⟨W,0,none⟩),.string (strOf s)] h=some (v,h')∧v=.tuple #[]∧WrS h' W S (b++numB s.length 4++s)∧Keeps S h h':=by
  refine zq T.wt T.wtC rfl ?_
  unfold xq76
  dsimp only[zY]
  refine wpk.out (k:=[]) ?_
  have hr64:zT=140737488355328:=rfl
  obtain⟨h2,e2,w2,k2⟩:=WCountS T hw hS s.length (by omega) (by omega)
  obtain⟨h3,e3,w3,k3⟩:=zGy T w2 (fun A hA=>hS A (Nat.le_trans k2.next hA)) s (by rw[List.length_append,zBK];omega)
  (repeat (first|refine zS ?_|refine zK ?_|refine zR ?_|refine zD ?_|refine zB ?_|refine zI ?_|refine zJ ?_|refine zP ?_|refine zE ?_|refine zG ?_|refine zF ?_|refine zH (by decide) ?_|refine zQ ?_|((first|refine zC ?_|refine zM ?_|refine zO rfl rfl ?_|refine zN rfl ?_|refine zL ?_);simp only[yq76.down,zA,lemS.down,lemC.down,zdO,zdN,zdL,reduceIte,zdM,zdP,zdQ,zdR,zdS,zdT,zdU,zdV,zdW,reduceCtorEq,lemH.down,e2,e3])))
  exact⟨.inl rfl,_,rfl,rfl,w3,k2.trans k3 (fun _ _ e=>e)⟩
 obtain⟨v,h',e,rfl,r⟩:=this
 exact⟨h',e,r⟩
theorem zJy {pr:Prog} (T:zAL pr) {h:Heap} {W N:Nat} {b:List UInt8} (hw:Wr h W N b):cfi pr 81 [.pointer (some ⟨W,0,none⟩)] h=some (.string (strOf b),h):=by
 refine zDP T.wa T.waC rfl ?_
 unfold xq81
 dsimp only[zY]
 refine wpk.out (k:=[]) ?_
 obtain⟨hN,v,hV,hO⟩:=hw
 (repeat (first|refine zS ?_|refine zK ?_|refine zR ?_|refine zD ?_|refine zB ?_|refine zI ?_|refine zJ ?_|refine zP ?_|refine zE ?_|refine zG ?_|refine zF ?_|refine zH (by decide) ?_|refine zQ ?_|((first|refine zC ?_|refine zM ?_|refine zO rfl rfl ?_|refine zN rfl ?_|refine zL ?_);simp only[yq81.down,zA,lemS.down,lemC.down,zdO,zdN,zdL,reduceIte,zdM,zdP,zdQ,zdR,zdS,zdT,zdU,zdV,zdW,reduceCtorEq,lemH.down,zAT,hV.load,List.getElem?_cons_zero,hO.cb2s])))
 exact⟨.inr rfl,by simp only[yq81.down,zA,lemS.down,lemC.down,zdO,zdN,zdL,reduceIte,zdM,zdP,zdQ,zdR,zdS,zdT,zdU,zdV,zdW,reduceCtorEq],rfl⟩
end Go.X
end
section
open Go Go.X
namespace Go.X
set_option linter.unusedVariables false
def zGB (zero:List Value) (bytes:Nat) (l c:Value):Option (NBlk×Mk):=match l,c with
 | .int _ l,.int _ c=>if 0≤l∧l≤c∧c.toNat*bytes≤zT∧c<140737488355328 then some (.cells (List.replicate c.toNat zero).flatten,.slice l.toNat c.toNat none) else none
 | _,_=>none
theorem zZo {t:Fr} {z:List Value} {b:Nat} {l c:Operand}:zAg t (.mkslice z b l c)=zGB z b (t.eval l) (t.eval c):=by
 simp only[zAg,zGB]
 cases t.eval l<;>try rfl
def srcV (h:Heap) (esz:Nat):Value→Option (Nat×List Value)
 | .string str=>if esz=1 then some (str.data.toList.length,zW str.data.toList) else none
 | .slice none n _=>if n=0 then some (0,[]) else none
 | .slice (some a) n _=>if n=0 then some (0,[]) else match h.loadN a (n*esz) with|some l=>some (n,l)|none=>none
 | _=>none
def copyV (h:Heap) (esz:Nat) (d:Value) (s:Option (Nat×List Value)):Option (Value×Heap):=match d,s with
 | .slice base dl _,some (n,l) =>
  if min n dl=0 then some (.int .i64 0,h) else
  (match base with
  | some a=>(match h.store ⟨a.block,a.off,none⟩ (l.take (min n dl*esz)) with|some h=>some (.int .i64 ((min n dl:Nat):Int),h)|none=>none)
  | none=>none)
 | _,_=>none
theorem e_copyV {t:Fr} {h:Heap} {esz:Nat} {d s:Operand}:effX t h (.copy esz d s)=copyV h esz (t.eval d) (srcV h esz (t.eval s)):=by
 have e:srcX t h esz s=srcV h esz (t.eval s):=by
  simp only[srcX,srcV]
  cases t.eval s with
  | slice a n c =>
   cases a with
   | none=>rfl
   | some a =>
    dsimp only
    cases h.loadN a (n*esz)<;>rfl
  | _=>rfl
 simp only[effX,copyV,e]
 cases t.eval d with
 | slice a n c =>
  cases srcV h esz (t.eval s) with
  | none=>rfl
  | some q =>
   obtain⟨m,l⟩:=q
   dsimp only
   split
   ·rfl
   ·cases a with
    | none=>rfl
    | some a=>dsimp only;cases h.store ⟨a.block,a.off,none⟩ (l.take (min m n*esz))<;>rfl
 | _=>rfl
theorem Var.cb2s {h:Heap} {A n c:Nat} {sp:Option Nat} {b:List UInt8} (hv:Var h A (zW b)) (hn:b.length=n):zCN h (.slice (some ⟨A,0,sp⟩) n c)=some (.string (strOf b)):=by
 simp only[zCN]
 by_cases h0:n=0
 ·rw[if_pos h0]
  obtain rfl:b=[]:=List.eq_nil_of_length_eq_zero (by omega)
  rfl
 ·rw[if_neg h0,hv.loadAll (by rw[zCO];exact hn)]
  simp only[zHD]
def zBs (s:List UInt8):List UInt8:=(s++List.replicate 32 0).take 32
theorem zD7 (s:List UInt8):(zBs s).length=32:=by simp[zBs]
theorem zGz {pr:Prog} (T:zAL pr) {h:Heap} {W:Nat} {S:Nat→Prop} {b:List UInt8} (hw:WrS h W S b) (hS:∀A,h.next≤A→S A) (s:List UInt8) (hroom:b.length+40≤zT) :
  ∃h',cfi pr 79 [.pointer (some ⟨W,0,none⟩),.string (strOf s)] h=some (.tuple #[],h')∧WrS h' W S (b++zBs s)∧Keeps S h h':=by
 have:∃v h',cfi pr 79 [.pointer (some ⟨W,0,none⟩),.string (strOf s)] h=some (v,h')∧v=.tuple #[]∧WrS h' W S (b++zBs s)∧Keeps S h h':=by
  refine zq T.wh T.whC rfl ?_
  unfold xq79
  dsimp only[zY]
  refine wpk.out (k:=[]) ?_
  have hWlt:W<h.next:=by obtain⟨_,v,h2,_⟩:=hw;exact h2.1
  have mk:zGB [.int .u8 0] 1 (.int .i64 32) (.int .i64 32)=some (.cells (zW (List.replicate 32 0)),.slice 32 32 none):=by
   simp only[zGB]
   rw[if_pos (by decide)]
   rfl
  have hV:Var (h.new (zW (List.replicate 32 0))) h.next (zW (List.replicate 32 0)):=Var.new_self
  have cp:∃h2 r,copyV (h.new (zW (List.replicate 32 0))) 1 (.slice (some ⟨h.next,0,none⟩) 32 32) (srcV (h.new (zW (List.replicate 32 0))) 1 (.string (strOf s)))=some (r,h2)∧Var h2 h.next (zW (zBs s))∧Grows h h2:=by
   simp only[srcV,zAx,if_true,copyV]
   by_cases h0:min s.length 32=0
   ·rw[if_pos h0]
    obtain rfl:s=[]:=List.eq_nil_of_length_eq_zero (by omega)
    exact⟨_,_,rfl,hV,Grows.new⟩
   ·rw[if_neg h0,hV.store (by simp[zCO];omega) (by rw[zFg];exact zFf)]
    refine⟨_,_,rfl,?_,Grows.new.wr (Nat.le_refl _)⟩
    have e:putN (zW (List.replicate 32 0)) 0 (List.take (min s.length 32*1) (zW s))=zW (zBs s):=by
     simp only[putN,zFg,List.take_zero,List.nil_append,Nat.mul_one,Nat.zero_add,zCO,zHM,←zDN]
     congr 1
     unfold zBs
     rw[List.take_append,List.length_take,List.drop_replicate]
     by_cases hs:s.length≤32
     ·rw[List.take_of_length_le (l:=s) (by omega),List.take_of_length_le (l:=s) (by omega),List.take_replicate]
      congr 2;omega
     ·have e1:min s.length 32=32:=by omega
      rw[e1,show (32:Nat) - s.length=0 by omega,show min 32 s.length=32 by omega]
      simp
    rw[e]
    exact hV.wr
  obtain⟨h2,r,e2,hV2,g2⟩:=cp
  obtain⟨h3,e3,w3,k3⟩:=zGy T (hw.grow g2) (fun A hA=>hS A (Nat.le_trans g2.next hA)) (zBs s) (by rw[zD7];omega)
  (repeat (first|refine zS ?_|refine zK ?_|refine zR ?_|refine zD ?_|refine zB ?_|refine zI ?_|refine zJ ?_|refine zP ?_|refine zE ?_|refine zG ?_|refine zF ?_|refine zH (by decide) ?_|refine zQ ?_|((first|refine zC ?_|refine zM ?_|refine zO rfl rfl ?_|refine zN rfl ?_|refine zL ?_);simp only[yq79.down,zA,lemS.down,lemC.down,zdO,zdN,zdL,reduceIte,zdM,zdP,zdQ,zdR,zdS,zdT,zdU,zdV,zdW,reduceCtorEq,lemH.down,zZo,mk,e_copyV,e2,hV2.cb2s (zD7 s),e3])))
  exact⟨.inl rfl,_,rfl,rfl,w3,Keeps.trans g2.keeps k3 (fun _ _ e=>e)⟩
 obtain⟨v,h',e,rfl,r⟩:=this
 exact⟨h',e,r⟩
end Go.X
end
section
open Go Go.X
namespace Go.X
set_option linter.unusedVariables false
structure RS where
 s:List UInt8
 pos:Nat
 err:Nat
def RS.ok (r:RS):Prop:=r.pos≤r.s.length∧r.s.length≤9223372036854775807
def zZ (r:RS) (n:Int):RS×List UInt8 :=
 if r.err≠0 then (r,[]) else if n<0 then (⟨r.s,r.pos,1⟩,[]) else if (r.s.length:Int) - r.pos<n then (⟨r.s,r.pos,4⟩,[]) else (⟨r.s,r.pos+n.toNat,r.err⟩,(r.s.drop r.pos).take n.toNat)
theorem zKL (r:RS) (n:Int):(zZ r n).1.s=r.s:=by
 unfold zZ
 split
 ·rfl
 ·split
  ·rfl
  ·split<;>rfl
def zBy (r:RS):List Value:=[.string (strOf r.s),.int .i64 (r.pos:Int),.int .i64 (r.err:Int)]
def Rd (h:Heap) (R:Nat) (r:RS):Prop:=r.ok∧Var h R (zBy r)
theorem Rd.keep {K:Nat→Prop} {h h':Heap} {R:Nat} {r:RS} (hw:Rd h R r) (hk:Keeps K h h') (hK:¬K R):Rd h' R r:=⟨hw.1,hw.2.keep hk hK⟩
theorem Rd.grow {h h':Heap} {R:Nat} {r:RS} (hw:Rd h R r) (hg:Grows h h'):Rd h' R r:=⟨hw.1,hw.2.grow hg⟩
section
variable {h:Heap} {R:Nat} {r:RS}
theorem Rd.l0 (hr:Rd h R r):∀sp,h.load ⟨R,0,sp⟩=some (.string (strOf r.s)):=fun sp=>hr.2.load
theorem Rd.l1 (hr:Rd h R r):∀sp,h.load ⟨R,1,sp⟩=some (.int .i64 (r.pos:Int)):=fun sp=>hr.2.load
theorem Rd.l2 (hr:Rd h R r):∀sp,h.load ⟨R,2,sp⟩=some (.int .i64 (r.err:Int)):=fun sp=>hr.2.load
theorem Rd.s1 (hr:Rd h R r) (n:Nat):zj h 1 (.pointer (some ⟨R,1,none⟩)) (.int .i64 (n:Int))=some (.tuple #[],h.wr R (zBy ⟨r.s,n,r.err⟩)):=by
 rw[zg rfl,hr.2.store1 (by simp[zBy]) rfl];rfl
theorem Rd.s2 (hr:Rd h R r) (n:Nat):zj h 1 (.pointer (some ⟨R,2,none⟩)) (.int .i64 (n:Int))=some (.tuple #[],h.wr R (zBy ⟨r.s,r.pos,n⟩)):=by
 rw[zg rfl,hr.2.store1 (by simp[zBy]) rfl];rfl
theorem Rd.s2L (hr:Rd h R r) (n:Nat):zj h 1 (.pointer (some ⟨R,2,none⟩)) (.int .i64 (OfNat.ofNat n))=some (.tuple #[],h.wr R (zBy ⟨r.s,r.pos,n⟩)):=hr.s2 n
theorem Rd.wr (hr:Rd h R r) {q:RS} (hq:q.ok):Rd (h.wr R (zBy q)) R q:=⟨hq,hr.2.wr⟩
theorem zJr {pr:Prog} (T:zAL pr) (h:Heap) (s:List UInt8) (hs:s.length≤9223372036854775807):∃h',cfi pr 86 [.string (strOf s)] h=some (.pointer (some ⟨h.next,0,none⟩),h')∧Rd h' h.next ⟨s,0,0⟩∧Grows h h':=by
 have:∃v h',cfi pr 86 [.string (strOf s)] h=some (v,h')∧v=.pointer (some ⟨h.next,0,none⟩)∧Rd h' h.next ⟨s,0,0⟩∧Grows h h':=by
  refine zq T.newR T.newRC rfl ?_
  unfold xq86
  dsimp only[zY]
  refine wpk.out (k:=[]) ?_
  have hz:aggV (z8 [.string (strOf []),.int .i64 0,.int .i64 0] [(0,1,.string (strOf s))])=some (.agg (zBy ⟨s,0,0⟩).toArray):=by
   simp[z8,zHP,putN,zBy,aggV]
  (repeat (first|refine zS ?_|refine zK ?_|refine zR ?_|refine zD ?_|refine zB ?_|refine zI ?_|refine zJ ?_|refine zP ?_|refine zE ?_|refine zG ?_|refine zF ?_|refine zH (by decide) ?_|refine zQ ?_|((first|refine zC ?_|refine zM ?_|refine zO rfl rfl ?_|refine zN rfl ?_|refine zL ?_);simp only[yq86.down,zA,lemS.down,lemC.down,zdO,zdN,zdL,reduceIte,zdM,zdP,zdQ,zdR,zdS,zdT,zdU,zdV,zdW,reduceCtorEq,lemH.down,hz])))
  exact⟨.inr rfl,_,rfl,by simp only[yq86.down,zA,lemS.down,lemC.down,zdO,zdN,zdL,reduceIte,zdM,zdP,zdQ,zdR,zdS,zdT,zdU,zdV,zdW,reduceCtorEq],⟨⟨Nat.zero_le _,hs⟩,Var.new_self⟩,Grows.new⟩
 obtain⟨v,h',e,rfl,r⟩:=this
 exact⟨h',e,r⟩
theorem zAW {pr:Prog} (T:zAL pr) (hr:Rd h R r):cfi pr 109 [.pointer (some ⟨R,0,none⟩)] h=some (.int .i64 (r.err:Int),h):=by
 refine zDP T.rr T.rrC rfl ?_
 unfold xq109
 dsimp only[zY]
 refine wpk.out (k:=[]) ?_
 (repeat (first|refine zS ?_|refine zK ?_|refine zR ?_|refine zD ?_|refine zB ?_|refine zI ?_|refine zJ ?_|refine zP ?_|refine zE ?_|refine zG ?_|refine zF ?_|refine zH (by decide) ?_|refine zQ ?_|((first|refine zC ?_|refine zM ?_|refine zO rfl rfl ?_|refine zN rfl ?_|refine zL ?_);simp only[yq109.down,zA,lemS.down,lemC.down,zdO,zdN,zdL,reduceIte,zdM,zdP,zdQ,zdR,zdS,zdT,zdU,zdV,zdW,reduceCtorEq,lemH.down,zAT,hr.l2])))
 exact⟨.inr rfl,by simp only[yq109.down,zA,lemS.down,lemC.down,zdO,zdN,zdL,reduceIte,zdM,zdP,zdQ,zdR,zdS,zdT,zdU,zdV,zdW,reduceCtorEq],rfl⟩
theorem zGu {pr:Prog} (T:zAL pr) (hr:Rd h R r):cfi pr 149 [.pointer (some ⟨R,0,none⟩)] h=some (.int .i64 (r.pos:Int),h):=by
 refine zDP T.ra T.raC rfl ?_
 unfold xq149
 dsimp only[zY]
 refine wpk.out (k:=[]) ?_
 (repeat (first|refine zS ?_|refine zK ?_|refine zR ?_|refine zD ?_|refine zB ?_|refine zI ?_|refine zJ ?_|refine zP ?_|refine zE ?_|refine zG ?_|refine zF ?_|refine zH (by decide) ?_|refine zQ ?_|((first|refine zC ?_|refine zM ?_|refine zO rfl rfl ?_|refine zN rfl ?_|refine zL ?_);simp only[yq149.down,zA,lemS.down,lemC.down,zdO,zdN,zdL,reduceIte,zdM,zdP,zdQ,zdR,zdS,zdT,zdU,zdV,zdW,reduceCtorEq,lemH.down,zAT,hr.l1])))
 exact⟨.inr rfl,by simp only[yq149.down,zA,lemS.down,lemC.down,zdO,zdN,zdL,reduceIte,zdM,zdP,zdQ,zdR,zdS,zdT,zdU,zdV,zdW,reduceCtorEq],rfl⟩
theorem zZj {pr:Prog} (T:zAL pr) (hr:Rd h R r):cfi pr 152 [.pointer (some ⟨R,0,none⟩)] h=some (.int .i64 ((r.s.length:Int) - r.pos),h):=by
 refine zDP T.rl T.rlC rfl ?_
 unfold xq152
 dsimp only[zY]
 refine wpk.out (k:=[]) ?_
 have hr64:zT=140737488355328:=rfl
 have ok:=hr.1
 unfold RS.ok at ok
 have w:IntKind.i64.wrap ((r.s.length:Int) - r.pos)=(r.s.length:Int) - r.pos:=wrap_i64 (by omega) (by omega)
 (repeat (first|refine zS ?_|refine zK ?_|refine zR ?_|refine zD ?_|refine zB ?_|refine zI ?_|refine zJ ?_|refine zP ?_|refine zE ?_|refine zG ?_|refine zF ?_|refine zH (by decide) ?_|refine zQ ?_|((first|refine zC ?_|refine zM ?_|refine zO rfl rfl ?_|refine zN rfl ?_|refine zL ?_);simp only[yq152.down,zA,lemS.down,lemC.down,zdO,zdN,zdL,reduceIte,zdM,zdP,zdQ,zdR,zdS,zdT,zdU,zdV,zdW,reduceCtorEq,lemH.down,zAT,hr.l0,hr.l1,w])))
 exact⟨.inr rfl,by simp only[yq152.down,zA,lemS.down,lemC.down,zdO,zdN,zdL,reduceIte,zdM,zdP,zdQ,zdR,zdS,zdT,zdU,zdV,zdW,reduceCtorEq],rfl⟩
theorem zGw {pr:Prog} (T:zAL pr) (hr:Rd h R r) (n:Int) (hn:-9223372036854775808≤n∧n<9223372036854775808) :
  ∃h',cfi pr 150 [.pointer (some ⟨R,0,none⟩),.int .i64 n] h=some (.string (strOf (zZ r n).2),h')∧Rd h' R (zZ r n).1∧Keeps (fun A=>A=R) h h':=by
 have:∃v h',cfi pr 150 [.pointer (some ⟨R,0,none⟩),.int .i64 n] h=some (v,h')∧v=.string (strOf (zZ r n).2)∧Rd h' R (zZ r n).1∧Keeps (fun A=>A=R) h h':=by
  refine zq T.rb T.rbC rfl ?_
  unfold xq150
  dsimp only[zY]
  refine wpk.out (k:=[]) ?_
  have hr64:zT=140737488355328:=rfl
  have ok:=hr.1
  unfold RS.ok at ok
  have er:=zAW T hr
  have w:IntKind.i64.wrap ((r.s.length:Int) - r.pos)=(r.s.length:Int) - r.pos:=wrap_i64 (by omega) (by omega)
  by_cases h0:r.err=0
  ·have b0:((r.err:Int)==0)=true:=by rw[h0];rfl
   by_cases h1:n<0
   ·have d1:decide (n<0)=true:=by simpa using h1
    (repeat (first|refine zS ?_|refine zK ?_|refine zR ?_|refine zD ?_|refine zB ?_|refine zI ?_|refine zJ ?_|refine zP ?_|refine zE ?_|refine zG ?_|refine zF ?_|refine zH (by decide) ?_|refine zQ ?_|((first|refine zC ?_|refine zM ?_|refine zO rfl rfl ?_|refine zN rfl ?_|refine zL ?_);simp only[yq150.down,zA,lemS.down,lemC.down,zdO,zdN,zdL,reduceIte,zdM,zdP,zdQ,zdR,zdS,zdT,zdU,zdV,zdW,reduceCtorEq,lemH.down,er,b0,d1,hr.s2L])))
    refine⟨.inr rfl,_,rfl,?_,?_,Keeps.wr⟩
    ·simp only[yq150.down,zA,lemS.down,lemC.down,zdO,zdN,zdL,reduceIte,zdM,zdP,zdQ,zdR,zdS,zdT,zdU,zdV,zdW,reduceCtorEq]
     unfold zZ
     rw[if_neg (by omega),if_pos h1]
    ·unfold zZ
     rw[if_neg (by omega),if_pos h1]
     exact hr.wr ok
   ·have d1:decide (n<0)=false:=by simpa using h1
    by_cases h2:(r.s.length:Int) - r.pos<n
    ·have d2:decide (n>(r.s.length:Int) - r.pos)=true:=by simpa using h2
     (repeat (first|refine zS ?_|refine zK ?_|refine zR ?_|refine zD ?_|refine zB ?_|refine zI ?_|refine zJ ?_|refine zP ?_|refine zE ?_|refine zG ?_|refine zF ?_|refine zH (by decide) ?_|refine zQ ?_|((first|refine zC ?_|refine zM ?_|refine zO rfl rfl ?_|refine zN rfl ?_|refine zL ?_);simp only[yq150.down,zA,lemS.down,lemC.down,zdO,zdN,zdL,reduceIte,zdM,zdP,zdQ,zdR,zdS,zdT,zdU,zdV,zdW,reduceCtorEq,lemH.down,er,b0,d1,hr.l0,hr.l1,w,d2,hr.s2L])))
     refine⟨.inr rfl,_,rfl,?_,?_,Keeps.wr⟩
     ·simp only[yq150.down,zA,lemS.down,lemC.down,zdO,zdN,zdL,reduceIte,zdM,zdP,zdQ,zdR,zdS,zdT,zdU,zdV,zdW,reduceCtorEq]
      unfold zZ
      rw[if_neg (by omega),if_neg h1,if_pos h2]
     ·unfold zZ
      rw[if_neg (by omega),if_neg h1,if_pos h2]
      exact hr.wr ok
    ·have d2:decide (n>(r.s.length:Int) - r.pos)=false:=by simp only[gt_iff_lt,decide_eq_false_iff_not];exact h2
     obtain⟨m,rfl⟩:∃m:Nat,n=(m:Int):=⟨n.toNat,by omega⟩
     have w2:IntKind.i64.wrap ((r.pos:Int)+(m:Int))=((r.pos+m:Nat):Int):=by rw[wrap_i64 (by omega) (by omega)];omega
     have w3:IntKind.i64.wrap (((r.pos+m:Nat):Int) - (m:Int))=(r.pos:Int):=by rw[wrap_i64 (by omega) (by omega)];omega
     have hr2:Rd (h.wr R (zBy ⟨r.s,r.pos+m,r.err⟩)) R ⟨r.s,r.pos+m,r.err⟩:=hr.wr ⟨by show r.pos+m≤r.s.length;omega,ok.2⟩
     have ct:=cut_both (s:=r.s) (n:=r.pos) (m:=r.pos+m) (k:=.i64) (k':=.i64) (by omega) (by omega)
     (repeat (first|refine zS ?_|refine zK ?_|refine zR ?_|refine zD ?_|refine zB ?_|refine zI ?_|refine zJ ?_|refine zP ?_|refine zE ?_|refine zG ?_|refine zF ?_|refine zH (by decide) ?_|refine zQ ?_|((first|refine zC ?_|refine zM ?_|refine zO rfl rfl ?_|refine zN rfl ?_|refine zL ?_);simp only[yq150.down,zA,lemS.down,lemC.down,zdO,zdN,zdL,reduceIte,zdM,zdP,zdQ,zdR,zdS,zdT,zdU,zdV,zdW,reduceCtorEq,lemH.down,er,b0,d1,hr.l0,hr.l1,w,d2,w2,hr.s1,hr2.l0,hr2.l1,w3,ct])))
     refine⟨.inr rfl,_,rfl,?_,?_,Keeps.wr⟩
     ·simp only[yq150.down,zA,lemS.down,lemC.down,zdO,zdN,zdL,reduceIte,zdM,zdP,zdQ,zdR,zdS,zdT,zdU,zdV,zdW,reduceCtorEq]
      unfold zZ
      rw[if_neg (by omega),if_neg h1,if_neg h2]
      simp
     ·unfold zZ
      rw[if_neg (by omega),if_neg h1,if_neg h2]
      exact hr2
  ·have b0:((r.err:Int)==0)=false:=by rw[beq_eq_false_iff_ne];omega
   (repeat (first|refine zS ?_|refine zK ?_|refine zR ?_|refine zD ?_|refine zB ?_|refine zI ?_|refine zJ ?_|refine zP ?_|refine zE ?_|refine zG ?_|refine zF ?_|refine zH (by decide) ?_|refine zQ ?_|((first|refine zC ?_|refine zM ?_|refine zO rfl rfl ?_|refine zN rfl ?_|refine zL ?_);simp only[yq150.down,zA,lemS.down,lemC.down,zdO,zdN,zdL,reduceIte,zdM,zdP,zdQ,zdR,zdS,zdT,zdU,zdV,zdW,reduceCtorEq,lemH.down,er,b0])))
   refine⟨.inr rfl,_,rfl,?_,?_,Keeps.refl⟩
   ·simp only[yq150.down,zA,lemS.down,lemC.down,zdO,zdN,zdL,reduceIte,zdM,zdP,zdQ,zdR,zdS,zdT,zdU,zdV,zdW,reduceCtorEq]
    unfold zZ
    rw[if_pos h0]
   ·unfold zZ
    rw[if_pos h0]
    exact hr
 obtain⟨v,h',e,rfl,r⟩:=this
 exact⟨h',e,r⟩
end
end Go.X
end
section
open Go Go.X
namespace Go.X
set_option linter.unusedVariables false
def numV (b:List UInt8):Nat:=b.foldl (fun n b=>n*256+b.toNat) 0
theorem zbY (b:List UInt8) (x:UInt8):numV (b++[x])=numV b*256+x.toNat:=by simp[numV]
theorem numV_lt:∀ (b:List UInt8),numV b<256 ^ b.length:=by
 intro b
 have key:∀ (b:List UInt8) (n m:Nat),n<256 ^ m→b.foldl (fun n b=>n*256+b.toNat) n<256 ^ (m+b.length):=by
  intro b
  induction b with
  | nil=>intro n m h;simpa using h
  | cons x b ih =>
   intro n m h
   have hx:=x.toNat_lt
   have:=ih (n*256+x.toNat) (m+1) (by rw[Nat.pow_succ];omega)
   simp only[List.foldl_cons,List.length_cons]
   rw[show m+(b.length+1)=m+1+b.length by omega]
   exact this
 have:=key b 0 0 (by decide)
 rw[Nat.zero_add] at this
 exact this
def zU (r:RS) (k:Nat):RS×Nat:=((zZ r k).1,numV (zZ r k).2)
theorem zFd (r:RS) (k:Nat):(zZ r k).2.length≤k:=by
 unfold zZ
 split
 ·simp
 ·split
  ·simp
  ·split
   ·simp
   ·simp;omega
theorem zEJ (r:RS) {k:Nat} (hk:k≤8):(zU r k).2<256 ^ k:=by
 refine Nat.lt_of_lt_of_le (numV_lt _) (Nat.pow_le_pow_right (by decide) (zFd r k))
section
variable {h:Heap} {R:Nat} {r:RS}
theorem zB4 {pr:Prog} (T:zAL pr) (hr:Rd h R r) (k:Nat) (hk:k≤8) :
  ∃h',cfi pr 89 [.pointer (some ⟨R,0,none⟩),.int .i64 (OfNat.ofNat k)] h=some (uw .u64 (zU r k).2,h')∧Rd h' R (zU r k).1∧Keeps (fun A=>A=R) h h':=by
 have:∃v h',cfi pr 89 [.pointer (some ⟨R,0,none⟩),.int .i64 (OfNat.ofNat k)] h=some (v,h')∧v=uw .u64 (zU r k).2∧Rd h' R (zU r k).1∧Keeps (fun A=>A=R) h h':=by
  refine zq T.rn T.rnC rfl ?_
  unfold xq89
  dsimp only[zY]
  refine wpk.out (k:=[]) ?_
  have hRlt:=hr.2.1
  have er:=zAW T hr
  have ek:(OfNat.ofNat k:Int)=(k:Int):=rfl
  have d1:decide ((OfNat.ofNat k:Int)>8)=false:=by rw[ek];simp;omega
  obtain⟨h2,e2,r2,k2⟩:=zGw T hr (k:Int) (by omega)
  have e2:cfi pr 150 [.pointer (some ⟨R,0,none⟩),.int .i64 (OfNat.ofNat k)] h=some (.string (strOf (zZ r (k:Int)).2),h2):=e2
  have hb:=zFd r k
  have tail:∀t:Fr,t.get 5=uw .u64 0→t.get 21=.slice (some ⟨h2.next,0,some 1⟩) (zZ r (k:Int)).2.length (zZ r (k:Int)).2.length→t.get 22=.int .i64 ((zZ r (k:Int)).2.length:Int)→t.get 23=.int .i64 0 →
    wpk pr (.loop zJn) [KI.blk 0,KI.code ((XC.ops zJm).seq XC.ret)] (fun e t' h1=>(e=XE.normal∨e=XE.ret)∧∃v,t'.get 4=v∧v=uw .u64 (zU r k).2∧Rd h1 R (zU r k).1∧Keeps (fun A=>A=R) h h1) t (h2.newB (zW (zZ r (k:Int)).2)):=by
   intro t t5 t21 t22 t23
   have r3:=r2.grow (Grows.newB (l:=zW (zZ r (k:Int)).2))
   have hO:=Own.newB (h:=h2) (l:=zW (zZ r (k:Int)).2) (n:=(zZ r (k:Int)).2.length) (esz:=1) (sp:=some 1) (by simp[zCO]) (.inr rfl)
   have k3:Keeps (fun A=>A=R) h (h2.newB (zW (zZ r (k:Int)).2)):=k2.trans Keeps.newB (fun _ _ e=>e)
   have hnum:zU r k=((zZ r (k:Int)).1,numV (zZ r (k:Int)).2):=rfl
   rw[hnum]
   generalize (zZ r (k:Int)).2=b at *
   generalize (zZ r (k:Int)).1=r' at *
   generalize h2.newB (zW b)=h3 at *
   refine zAU (fun m t g=>∃i,m=b.length - i∧i≤b.length∧g=h3∧t.get 5=uw .u64 (numV (b.take i))∧t.get 21=.slice (some ⟨h2.next,0,some 1⟩) b.length b.length∧t.get 22=.int .i64 (b.length:Int)∧t.get 23=.int .i64 (i:Int)) ?_ b.length _ _ ⟨0,rfl,by omega,rfl,t5,t21,t22,t23⟩
   rintro m t _ ⟨i,rfl,hi,rfl,t5,t21,t22,t23⟩ hnext
   refine xq89_9k ?_
   dsimp only[zJo]
   (repeat (first|refine zS ?_|refine zK ?_|refine zR ?_|refine zD ?_|refine zB ?_|refine zI ?_|refine zJ ?_|refine zP ?_|refine zE ?_|refine zG ?_|refine zF ?_|refine zH (by decide) ?_|refine zQ ?_|((first|refine zC ?_|refine zM ?_|refine zO rfl rfl ?_|refine zN rfl ?_|refine zL ?_);simp only[yq89.down,zA,lemS.down,lemC.down,zdO,zdN,zdL,reduceIte,zdM,zdP,zdQ,zdR,zdS,zdT,zdU,zdV,zdW,reduceCtorEq,lemH.down,lemW.down,t5,t21,t22,t23])))
   refine⟨fun hlt=>?_,fun hge=>?_⟩
   ·have hi':i<b.length:=by omega
    have ww:IntKind.i64.wrap ((i:Int)+1)=((i+1:Nat):Int):=by rw[wrap_i64 (by omega) (by omega)];omega
    obtain⟨B,o,ia,ld⟩:=hO.addr1 hi' (k:=.i64)
    rw[zHN hi'] at ld
    (repeat (first|refine zS ?_|refine zK ?_|refine zR ?_|refine zD ?_|refine zB ?_|refine zI ?_|refine zJ ?_|refine zP ?_|refine zE ?_|refine zG ?_|refine zF ?_|refine zH (by decide) ?_|refine zQ ?_|((first|refine zC ?_|refine zM ?_|refine zO rfl rfl ?_|refine zN rfl ?_|refine zL ?_);simp only[yq89.down,zA,lemS.down,lemC.down,zdO,zdN,zdL,reduceIte,zdM,zdP,zdQ,zdR,zdS,zdT,zdU,zdV,zdW,reduceCtorEq,lemH.down,lemW.down,t5,t21,t22,t23,zAd,ia,ld,zMQ (n:=8) (by decide),ww])))
    refine hnext (b.length - (i+1)) _ _ (by omega) ⟨i+1,rfl,by omega,rfl,?_,by simp only[yq89.down,zA,lemS.down,lemC.down,zdO,zdN,zdL,reduceIte,zdM,zdP,zdQ,zdR,zdS,zdT,zdU,zdV,zdW,reduceCtorEq,t21],by simp only[yq89.down,zA,lemS.down,lemC.down,zdO,zdN,zdL,reduceIte,zdM,zdP,zdQ,zdR,zdS,zdT,zdU,zdV,zdW,reduceCtorEq,t22],by simp only[yq89.down,zA,lemS.down,lemC.down,zdO,zdN,zdL,reduceIte,zdM,zdP,zdQ,zdR,zdS,zdT,zdU,zdV,zdW,reduceCtorEq]⟩
    simp only[yq89.down,zA,lemS.down,lemC.down,zdO,zdN,zdL,reduceIte,zdM,zdP,zdQ,zdR,zdS,zdT,zdU,zdV,zdW,reduceCtorEq]
    rw[List.take_succ_eq_append_getElem hi',zbY]
    have hx:=(b[i]).toNat_lt
    have e1:b.getD i 0=b[i]:=by simp[List.getD_eq_getElem?_getD,List.getElem?_eq_getElem hi']
    rw[e1,Nat.mod_eq_of_lt (by simpa using hx),←Nat.shiftLeft_add_eq_or_of_lt (i:=8) (by simpa using hx),Nat.shiftLeft_eq]
   ·obtain rfl:i=b.length:=by omega
    rw[List.take_length] at t5
    (repeat (first|refine zS ?_|refine zK ?_|refine zR ?_|refine zD ?_|refine zB ?_|refine zI ?_|refine zJ ?_|refine zP ?_|refine zE ?_|refine zG ?_|refine zF ?_|refine zH (by decide) ?_|refine zQ ?_|((first|refine zC ?_|refine zM ?_|refine zO rfl rfl ?_|refine zN rfl ?_|refine zL ?_);simp only[yq89.down,zA,lemS.down,lemC.down,zdO,zdN,zdL,reduceIte,zdM,zdP,zdQ,zdR,zdS,zdT,zdU,zdV,zdW,reduceCtorEq,lemH.down,lemW.down,t5,t21,t22,t23])))
    exact⟨.inr rfl,_,rfl,by simp only[yq89.down,zA,lemS.down,lemC.down,zdO,zdN,zdL,reduceIte,zdM,zdP,zdQ,zdR,zdS,zdT,zdU,zdV,zdW,reduceCtorEq],r3,k3⟩
  by_cases h0:r.err=0
  ·have b0:((r.err:Int)==0)=true:=by rw[h0];rfl
   (repeat (first|refine zS ?_|refine zK ?_|refine zR ?_|refine zD ?_|refine zB ?_|refine zI ?_|refine zJ ?_|refine zP ?_|refine zE ?_|refine zG ?_|refine zF ?_|refine zH (by decide) ?_|refine zQ ?_|((first|refine zC ?_|refine zM ?_|refine zO rfl rfl ?_|refine zN rfl ?_|refine zL ?_);simp only[yq89.down,zA,lemS.down,lemC.down,zdO,zdN,zdL,reduceIte,zdM,zdP,zdQ,zdR,zdS,zdT,zdU,zdV,zdW,reduceCtorEq,lemH.down,er,b0,d1,e2,zFm])))
   exact tail _ (by (simp only[yq89.down,zA,lemS.down,lemC.down,zdO,zdN,zdL,reduceIte,zdM,zdP,zdQ,zdR,zdS,zdT,zdU,zdV,zdW,reduceCtorEq])<;>rfl) (by simp only[yq89.down,zA,lemS.down,lemC.down,zdO,zdN,zdL,reduceIte,zdM,zdP,zdQ,zdR,zdS,zdT,zdU,zdV,zdW,reduceCtorEq]) (by simp only[yq89.down,zA,lemS.down,lemC.down,zdO,zdN,zdL,reduceIte,zdM,zdP,zdQ,zdR,zdS,zdT,zdU,zdV,zdW,reduceCtorEq]) (by simp only[yq89.down,zA,lemS.down,lemC.down,zdO,zdN,zdL,reduceIte,zdM,zdP,zdQ,zdR,zdS,zdT,zdU,zdV,zdW,reduceCtorEq])
  ·have b0:((r.err:Int)==0)=false:=by rw[beq_eq_false_iff_ne];omega
   (repeat (first|refine zS ?_|refine zK ?_|refine zR ?_|refine zD ?_|refine zB ?_|refine zI ?_|refine zJ ?_|refine zP ?_|refine zE ?_|refine zG ?_|refine zF ?_|refine zH (by decide) ?_|refine zQ ?_|((first|refine zC ?_|refine zM ?_|refine zO rfl rfl ?_|refine zN rfl ?_|refine zL ?_);simp only[yq89.down,zA,lemS.down,lemC.down,zdO,zdN,zdL,reduceIte,zdM,zdP,zdQ,zdR,zdS,zdT,zdU,zdV,zdW,reduceCtorEq,lemH.down,er,b0,d1,e2,zFm])))
   exact tail _ (by (simp only[yq89.down,zA,lemS.down,lemC.down,zdO,zdN,zdL,reduceIte,zdM,zdP,zdQ,zdR,zdS,zdT,zdU,zdV,zdW,reduceCtorEq])<;>rfl) (by simp only[yq89.down,zA,lemS.down,lemC.down,zdO,zdN,zdL,reduceIte,zdM,zdP,zdQ,zdR,zdS,zdT,zdU,zdV,zdW,reduceCtorEq]) (by simp only[yq89.down,zA,lemS.down,lemC.down,zdO,zdN,zdL,reduceIte,zdM,zdP,zdQ,zdR,zdS,zdT,zdU,zdV,zdW,reduceCtorEq]) (by simp only[yq89.down,zA,lemS.down,lemC.down,zdO,zdN,zdL,reduceIte,zdM,zdP,zdQ,zdR,zdS,zdT,zdU,zdV,zdW,reduceCtorEq])
 obtain⟨v,h',e,rfl,r⟩:=this
 exact⟨h',e,r⟩
end
end Go.X
end
section
open Go Go.X
namespace Go.X
set_option linter.unusedVariables false
def zl (r:RS) (most:Nat):RS×Nat :=
 if (zU r 4).1.err≠0 then ((zU r 4).1,0) else if most<(zU r 4).2 then (⟨r.s,r.pos,3⟩,0) else zU r 4
def zAI (r:RS) (most:Nat):RS×List UInt8 :=
 let q:=zZ (zl r most).1 (zl r most).2
 (if q.1.err≠0 then ⟨q.1.s,r.pos,q.1.err⟩ else q.1,q.2)
def endR (r:RS):RS:=if 0<r.s.length - r.pos∧r.err=0 then ⟨r.s,r.pos,5⟩ else r
theorem zDY (r:RS) (k:Nat):(zU r k).1.s=r.s:=zKL r _
theorem countR_s (r:RS) (m:Nat):(zl r m).1.s=r.s:=by
 unfold zl
 split
 ·exact zDY r 4
 ·split
  ·rfl
  ·exact zDY r 4
theorem zaW (r:RS) (m:Nat):(zl r m).2<4294967296:=by
 unfold zl
 split
 ·exact Nat.zero_lt_succ _
 ·split
  ·exact Nat.zero_lt_succ _
  ·exact zEJ r (by decide)
section
variable {h:Heap} {R:Nat} {r:RS}
theorem zDs {pr:Prog} (T:zAL pr) (hr:Rd h R r) (m:Nat) (hm:m<9223372036854775808) :
  ∃h',cfi pr 108 [.pointer (some ⟨R,0,none⟩),.int .i64 (OfNat.ofNat m)] h=some (.int .i64 ((zl r m).2:Int),h')∧Rd h' R (zl r m).1∧Keeps (fun A=>A=R) h h':=by
 have:∃v h',cfi pr 108 [.pointer (some ⟨R,0,none⟩),.int .i64 (OfNat.ofNat m)] h=some (v,h')∧v=.int .i64 ((zl r m).2:Int)∧Rd h' R (zl r m).1∧Keeps (fun A=>A=R) h h':=by
  refine zq T.rc T.rcC rfl ?_
  unfold xq108
  dsimp only[zY]
  refine wpk.out (k:=[]) ?_
  have em:(OfNat.ofNat m:Int)=(m:Int):=rfl
  rw[em]
  have at0:=zGu T hr
  obtain⟨h2,e2,r2,k2⟩:=zB4 T hr 4 (by decide)
  have e2:cfi pr 89 [.pointer (some ⟨R,0,none⟩),.int .i64 4] h=some (uw .u64 (zU r 4).2,h2):=e2
  have er:=zAW T r2
  have hlt:=zEJ r (k:=4) (by decide)
  have e4:uw .u64 (zU r 4).2=.int .u64 ((zU r 4).2:Int):=(zBj (by omega)).symm
  rw[e4] at e2
  have c:=zEU (k:=.u64) (k':=.i64) zGk (n:=m)
  rw[←zBj (by omega)] at c
  have d1:decide ((m:Int)<0)=false:=by simp
  have ci:IntKind.i64.wrap ((zU r 4).2:Int)=((zU r 4).2:Int):=wrap_i64 (by omega) (by omega)
  unfold zl
  by_cases h0:(zU r 4).1.err=0
  ·have b0:(((zU r 4).1.err:Int)==0)=true:=by rw[h0];rfl
   rw[if_neg (by omega)]
   by_cases h1:m<(zU r 4).2
   ·rw[if_pos h1]
    have d2:decide (((zU r 4).2:Int)>(m:Int))=true:=by simp;omega
    have r3:Rd (h2.wr R (zBy ⟨(zU r 4).1.s,r.pos,(zU r 4).1.err⟩)) R ⟨(zU r 4).1.s,r.pos,(zU r 4).1.err⟩:=r2.wr ⟨by rw[zDY];exact hr.1.1,by rw[zDY];exact hr.1.2⟩
    (repeat (first|refine zS ?_|refine zK ?_|refine zR ?_|refine zD ?_|refine zB ?_|refine zI ?_|refine zJ ?_|refine zP ?_|refine zE ?_|refine zG ?_|refine zF ?_|refine zH (by decide) ?_|refine zQ ?_|((first|refine zC ?_|refine zM ?_|refine zO rfl rfl ?_|refine zN rfl ?_|refine zL ?_);simp only[yq108.down,zA,lemS.down,lemC.down,zdO,zdN,zdL,reduceIte,zdM,zdP,zdQ,zdR,zdS,zdT,zdU,zdV,zdW,reduceCtorEq,lemH.down,at0,e2,er,b0,d1,c,d2,r2.s1,r3.s2L])))
    refine⟨.inr rfl,_,rfl,by (simp only[yq108.down,zA,lemS.down,lemC.down,zdO,zdN,zdL,reduceIte,zdM,zdP,zdQ,zdR,zdS,zdT,zdU,zdV,zdW,reduceCtorEq])<;>rfl,?_,?_⟩
    ·have:=r3.wr (q:=⟨r.s,r.pos,3⟩) hr.1
     rw[zDY]
     rw[zDY] at this
     exact this
    ·exact (k2.trans Keeps.wr (fun _ _ e=>e)).trans Keeps.wr (fun _ _ e=>e)
   ·rw[if_neg h1]
    have d2:decide (((zU r 4).2:Int)>(m:Int))=false:=by simp;omega
    (repeat (first|refine zS ?_|refine zK ?_|refine zR ?_|refine zD ?_|refine zB ?_|refine zI ?_|refine zJ ?_|refine zP ?_|refine zE ?_|refine zG ?_|refine zF ?_|refine zH (by decide) ?_|refine zQ ?_|((first|refine zC ?_|refine zM ?_|refine zO rfl rfl ?_|refine zN rfl ?_|refine zL ?_);simp only[yq108.down,zA,lemS.down,lemC.down,zdO,zdN,zdL,reduceIte,zdM,zdP,zdQ,zdR,zdS,zdT,zdU,zdV,zdW,reduceCtorEq,lemH.down,at0,e2,er,b0,d1,c,d2,ci])))
    exact⟨.inr rfl,_,rfl,by simp only[yq108.down,zA,lemS.down,lemC.down,zdO,zdN,zdL,reduceIte,zdM,zdP,zdQ,zdR,zdS,zdT,zdU,zdV,zdW,reduceCtorEq],r2,k2⟩
  ·have b0:(((zU r 4).1.err:Int)==0)=false:=by rw[beq_eq_false_iff_ne];omega
   rw[if_pos h0]
   (repeat (first|refine zS ?_|refine zK ?_|refine zR ?_|refine zD ?_|refine zB ?_|refine zI ?_|refine zJ ?_|refine zP ?_|refine zE ?_|refine zG ?_|refine zF ?_|refine zH (by decide) ?_|refine zQ ?_|((first|refine zC ?_|refine zM ?_|refine zO rfl rfl ?_|refine zN rfl ?_|refine zL ?_);simp only[yq108.down,zA,lemS.down,lemC.down,zdO,zdN,zdL,reduceIte,zdM,zdP,zdQ,zdR,zdS,zdT,zdU,zdV,zdW,reduceCtorEq,lemH.down,at0,e2,er,b0])))
   exact⟨.inr rfl,_,rfl,by (simp only[yq108.down,zA,lemS.down,lemC.down,zdO,zdN,zdL,reduceIte,zdM,zdP,zdQ,zdR,zdS,zdT,zdU,zdV,zdW,reduceCtorEq])<;>rfl,r2,k2⟩
 obtain⟨v,h',e,rfl,r⟩:=this
 exact⟨h',e,r⟩
theorem zFR {pr:Prog} (T:zAL pr) (hr:Rd h R r) (m:Nat) (hm:m<9223372036854775808) :
  ∃h',cfi pr 87 [.pointer (some ⟨R,0,none⟩),.int .i64 (OfNat.ofNat m)] h=some (.string (strOf (zAI r m).2),h')∧Rd h' R (zAI r m).1∧Keeps (fun A=>A=R) h h':=by
 have:∃v h',cfi pr 87 [.pointer (some ⟨R,0,none⟩),.int .i64 (OfNat.ofNat m)] h=some (v,h')∧v=.string (strOf (zAI r m).2)∧Rd h' R (zAI r m).1∧Keeps (fun A=>A=R) h h':=by
  refine zq T.rt T.rtC rfl ?_
  unfold xq87
  dsimp only[zY]
  refine wpk.out (k:=[]) ?_
  have at0:=zGu T hr
  obtain⟨h2,e2,r2,k2⟩:=zDs T hr m hm
  have hc:=zaW r m
  obtain⟨h3,e3,r3,k3⟩:=zGw T r2 ((zl r m).2:Int) (by omega)
  have er:=zAW T r3
  have hs3:(zZ (zl r m).1 ((zl r m).2:Int)).1.s=r.s:=by rw[zKL,countR_s]
  unfold zAI
  dsimp only
  by_cases h0:(zZ (zl r m).1 ((zl r m).2:Int)).1.err=0
  ·have b0:(((zZ (zl r m).1 ((zl r m).2:Int)).1.err:Int)==0)=true:=by rw[h0];rfl
   rw[if_neg (by omega)]
   (repeat (first|refine zS ?_|refine zK ?_|refine zR ?_|refine zD ?_|refine zB ?_|refine zI ?_|refine zJ ?_|refine zP ?_|refine zE ?_|refine zG ?_|refine zF ?_|refine zH (by decide) ?_|refine zQ ?_|((first|refine zC ?_|refine zM ?_|refine zO rfl rfl ?_|refine zN rfl ?_|refine zL ?_);simp only[yq87.down,zA,lemS.down,lemC.down,zdO,zdN,zdL,reduceIte,zdM,zdP,zdQ,zdR,zdS,zdT,zdU,zdV,zdW,reduceCtorEq,lemH.down,at0,e2,e3,er,b0])))
   exact⟨.inr rfl,_,rfl,by simp only[yq87.down,zA,lemS.down,lemC.down,zdO,zdN,zdL,reduceIte,zdM,zdP,zdQ,zdR,zdS,zdT,zdU,zdV,zdW,reduceCtorEq],r3,k2.trans k3 (fun _ _ e=>e)⟩
  ·have b0:(((zZ (zl r m).1 ((zl r m).2:Int)).1.err:Int)==0)=false:=by rw[beq_eq_false_iff_ne];omega
   rw[if_pos h0]
   (repeat (first|refine zS ?_|refine zK ?_|refine zR ?_|refine zD ?_|refine zB ?_|refine zI ?_|refine zJ ?_|refine zP ?_|refine zE ?_|refine zG ?_|refine zF ?_|refine zH (by decide) ?_|refine zQ ?_|((first|refine zC ?_|refine zM ?_|refine zO rfl rfl ?_|refine zN rfl ?_|refine zL ?_);simp only[yq87.down,zA,lemS.down,lemC.down,zdO,zdN,zdL,reduceIte,zdM,zdP,zdQ,zdR,zdS,zdT,zdU,zdV,zdW,reduceCtorEq,lemH.down,at0,e2,e3,er,b0,zAT,r3.s1])))
   refine⟨.inr rfl,_,rfl,by simp only[yq87.down,zA,lemS.down,lemC.down,zdO,zdN,zdL,reduceIte,zdM,zdP,zdQ,zdR,zdS,zdT,zdU,zdV,zdW,reduceCtorEq],r3.wr ⟨by rw[hs3];exact hr.1.1,by rw[hs3];exact hr.1.2⟩,(k2.trans k3 (fun _ _ e=>e)).trans Keeps.wr (fun _ _ e=>e)⟩
 obtain⟨v,h',e,rfl,r⟩:=this
 exact⟨h',e,r⟩
theorem zB3 {pr:Prog} (T:zAL pr) (hr:Rd h R r) :
  ∃h',cfi pr 90 [.pointer (some ⟨R,0,none⟩)] h=some (.string (strOf (zZ r 32).2),h')∧Rd h' R (zZ r 32).1∧Keeps (fun A=>A=R) h h':=by
 have:∃v h',cfi pr 90 [.pointer (some ⟨R,0,none⟩)] h=some (v,h')∧v=.string (strOf (zZ r 32).2)∧Rd h' R (zZ r 32).1∧Keeps (fun A=>A=R) h h':=by
  refine zq T.rh T.rhC rfl ?_
  unfold xq90
  dsimp only[zY]
  refine wpk.out (k:=[]) ?_
  obtain⟨h3,e3,r3,k3⟩:=zGw T hr 32 (by decide)
  (repeat (first|refine zS ?_|refine zK ?_|refine zR ?_|refine zD ?_|refine zB ?_|refine zI ?_|refine zJ ?_|refine zP ?_|refine zE ?_|refine zG ?_|refine zF ?_|refine zH (by decide) ?_|refine zQ ?_|((first|refine zC ?_|refine zM ?_|refine zO rfl rfl ?_|refine zN rfl ?_|refine zL ?_);simp only[yq90.down,zA,lemS.down,lemC.down,zdO,zdN,zdL,reduceIte,zdM,zdP,zdQ,zdR,zdS,zdT,zdU,zdV,zdW,reduceCtorEq,lemH.down,e3])))
  exact⟨.inr rfl,_,rfl,by simp only[yq90.down,zA,lemS.down,lemC.down,zdO,zdN,zdL,reduceIte,zdM,zdP,zdQ,zdR,zdS,zdT,zdU,zdV,zdW,reduceCtorEq],r3,k3⟩
 obtain⟨v,h',e,rfl,r⟩:=this
 exact⟨h',e,r⟩
theorem zDI {pr:Prog} (T:zAL pr) (hr:Rd h R r) (m:Nat) :
  ∃h',cfi pr 151 [.pointer (some ⟨R,0,none⟩),.int .i64 (OfNat.ofNat m)] h=some (.tuple #[],h')∧Rd h' R (if r.err=0 then ⟨r.s,r.pos,m⟩ else r)∧Keeps (fun A=>A=R) h h':=by
 have:∃v h',cfi pr 151 [.pointer (some ⟨R,0,none⟩),.int .i64 (OfNat.ofNat m)] h=some (v,h')∧v=.tuple #[]∧Rd h' R (if r.err=0 then ⟨r.s,r.pos,m⟩ else r)∧Keeps (fun A=>A=R) h h':=by
  refine zq T.rf T.rfC rfl ?_
  unfold xq151
  dsimp only[zY]
  refine wpk.out (k:=[]) ?_
  by_cases h0:r.err=0
  ·have b0:((r.err:Int)==0)=true:=by rw[h0];rfl
   rw[if_pos h0]
   (repeat (first|refine zS ?_|refine zK ?_|refine zR ?_|refine zD ?_|refine zB ?_|refine zI ?_|refine zJ ?_|refine zP ?_|refine zE ?_|refine zG ?_|refine zF ?_|refine zH (by decide) ?_|refine zQ ?_|((first|refine zC ?_|refine zM ?_|refine zO rfl rfl ?_|refine zN rfl ?_|refine zL ?_);simp only[yq151.down,zA,lemS.down,lemC.down,zdO,zdN,zdL,reduceIte,zdM,zdP,zdQ,zdR,zdS,zdT,zdU,zdV,zdW,reduceCtorEq,lemH.down,zAT,hr.l2,b0,hr.s2L])))
   exact⟨.inl rfl,_,rfl,rfl,hr.wr hr.1,Keeps.wr⟩
  ·have b0:((r.err:Int)==0)=false:=by rw[beq_eq_false_iff_ne];omega
   rw[if_neg h0]
   (repeat (first|refine zS ?_|refine zK ?_|refine zR ?_|refine zD ?_|refine zB ?_|refine zI ?_|refine zJ ?_|refine zP ?_|refine zE ?_|refine zG ?_|refine zF ?_|refine zH (by decide) ?_|refine zQ ?_|((first|refine zC ?_|refine zM ?_|refine zO rfl rfl ?_|refine zN rfl ?_|refine zL ?_);simp only[yq151.down,zA,lemS.down,lemC.down,zdO,zdN,zdL,reduceIte,zdM,zdP,zdQ,zdR,zdS,zdT,zdU,zdV,zdW,reduceCtorEq,lemH.down,zAT,hr.l2,b0])))
   exact⟨.inl rfl,_,rfl,rfl,hr,Keeps.refl⟩
 obtain⟨v,h',e,rfl,r⟩:=this
 exact⟨h',e,r⟩
theorem zJv {pr:Prog} (T:zAL pr) (hr:Rd h R r) :
  ∃h',cfi pr 91 [.pointer (some ⟨R,0,none⟩)] h=some (.int .i64 ((endR r).err:Int),h')∧Rd h' R (endR r)∧Keeps (fun A=>A=R) h h':=by
 have:∃v h',cfi pr 91 [.pointer (some ⟨R,0,none⟩)] h=some (v,h')∧v=.int .i64 ((endR r).err:Int)∧Rd h' R (endR r)∧Keeps (fun A=>A=R) h h':=by
  refine zq T.re T.reC rfl ?_
  unfold xq91
  dsimp only[zY]
  refine wpk.out (k:=[]) ?_
  have lf:=zZj T hr
  have ok:=hr.1
  unfold RS.ok at ok
  unfold endR
  by_cases h1:0<r.s.length - r.pos
  ·have d1:decide ((r.s.length:Int) - r.pos>0)=true:=by simp;omega
   obtain⟨h2,e2,r2,k2⟩:=zDI T hr 5
   have e2:cfi pr 151 [.pointer (some ⟨R,0,none⟩),.int .i64 5] h=some (.tuple #[],h2):=e2
   have er:=zAW T r2
   have eq:(if r.err=0 then (⟨r.s,r.pos,5⟩:RS) else r)=if 0<r.s.length - r.pos∧r.err=0 then ⟨r.s,r.pos,5⟩ else r:=by
    by_cases h0:r.err=0
    ·rw[if_pos h0,if_pos ⟨h1,h0⟩]
    ·rw[if_neg h0,if_neg (fun h=>h0 h.2)]
   rw[eq] at r2 er
   (repeat (first|refine zS ?_|refine zK ?_|refine zR ?_|refine zD ?_|refine zB ?_|refine zI ?_|refine zJ ?_|refine zP ?_|refine zE ?_|refine zG ?_|refine zF ?_|refine zH (by decide) ?_|refine zQ ?_|((first|refine zC ?_|refine zM ?_|refine zO rfl rfl ?_|refine zN rfl ?_|refine zL ?_);simp only[yq91.down,zA,lemS.down,lemC.down,zdO,zdN,zdL,reduceIte,zdM,zdP,zdQ,zdR,zdS,zdT,zdU,zdV,zdW,reduceCtorEq,lemH.down,lf,d1,e2,er])))
   exact⟨.inr rfl,_,rfl,by simp only[yq91.down,zA,lemS.down,lemC.down,zdO,zdN,zdL,reduceIte,zdM,zdP,zdQ,zdR,zdS,zdT,zdU,zdV,zdW,reduceCtorEq],r2,k2⟩
  ·have d1:decide ((r.s.length:Int) - r.pos>0)=false:=by simp;omega
   have er:=zAW T hr
   rw[if_neg (fun h=>h1 h.1)]
   (repeat (first|refine zS ?_|refine zK ?_|refine zR ?_|refine zD ?_|refine zB ?_|refine zI ?_|refine zJ ?_|refine zP ?_|refine zE ?_|refine zG ?_|refine zF ?_|refine zH (by decide) ?_|refine zQ ?_|((first|refine zC ?_|refine zM ?_|refine zO rfl rfl ?_|refine zN rfl ?_|refine zL ?_);simp only[yq91.down,zA,lemS.down,lemC.down,zdO,zdN,zdL,reduceIte,zdM,zdP,zdQ,zdR,zdS,zdT,zdU,zdV,zdW,reduceCtorEq,lemH.down,lf,d1,er])))
   exact⟨.inr rfl,_,rfl,by simp only[yq91.down,zA,lemS.down,lemC.down,zdO,zdN,zdL,reduceIte,zdM,zdP,zdQ,zdR,zdS,zdT,zdU,zdV,zdW,reduceCtorEq],hr,Keeps.refl⟩
 obtain⟨v,h',e,rfl,r⟩:=this
 exact⟨h',e,r⟩
end
end Go.X
end
section
open Go Go.X
namespace Go.X
set_option linter.unusedVariables false
theorem zc {b:Bool}:zFO (.tuple #[]) b=false:=rfl
theorem zaE {pr:Prog} {f:Nat} {F:XF} {args:List Value} {h:Heap} {v:Value} (hp:pr.prim f=none) (hF:pr.code f=some F) (hn:args.length=F.nargs) (hc:Comes pr F args h v):∃h1,cfi pr f args h=some (v,h1)∧Grows h h1:=by
 obtain⟨e,t',h1,hr,he,hres,hg⟩:=hc
 exact⟨h1,zDP hp hF hn ⟨e,t',h1,hr,he,hres,rfl⟩,hg⟩
theorem zK6 {a:Addr} {n c i e:Nat} {k:IntKind} (hi:i<n):zBb e (.slice (some a) n c) (.int k (i:Int))=some (.pointer (some ⟨a.block,a.off+i*e,none⟩)):=by
 simp only[zBb]
 rw[if_pos (by omega),Int.toNat_natCast]
theorem zF6 {h:Heap} {a:Addr} {n:Nat} {l:List Value} (hl:h.loadN a n=some l) {i k:Nat} (hik:i+k≤n) {sp:Option Nat}:h.loadN ⟨a.block,a.off+i,sp⟩ k=some ((l.drop i).take k):=by
 unfold Heap.loadN at hl ⊢
 split at hl
 ·rename_i c hc
  simp only[hc]
  unfold zAh at hl ⊢
  cases hb:(a.off+n).ble c.cells.length with
  | false=>rw[hb] at hl;cases hl
  | true =>
   rw[hb] at hl
   cases hl
   have:=Nat.le_of_ble_eq_true hb
   rw[Nat.ble_eq_true_of_le (by omega)]
   simp only[cond_true]
   rw[List.drop_take,List.drop_drop,List.take_take,Nat.min_eq_left (by omega)]
 ·cases hl
theorem box1 {h:Heap} {v:Value} (hc:cellsOf v=[v]):∃g,h.new [v]=g∧Var g h.next [v]∧Grows h g∧g.next=h.next+1:=⟨_,rfl,Var.new_self,Grows.new,rfl⟩
theorem ci64 {n:Nat} (hn:n<9223372036854775808):zAn .i64 (uw .u64 n)=some (.int .i64 (n:Int)):=by
 rw[←zBj (by omega),zA,wrap_i64 (by omega) (by omega)]
theorem zAs {z:List Value}:z8 z []=some z:=rfl
theorem zAv {t:Fr} {h:Heap} {i n:Nat} {a:Addr} {vs:List Value} (ht:t.get i=.pointer (some a)) (hl:h.loadN a n=some vs):zy t h [.cellN i n]=some (.agg vs.toArray):=by
 simp[zy,zAQ,resX,ht,hl,zAf]
end Go.X
end
