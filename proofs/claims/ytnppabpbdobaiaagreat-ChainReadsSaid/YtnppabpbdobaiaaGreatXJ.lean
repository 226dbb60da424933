/- Numbers and texts. -/
import Derived.Test.YtnppabpbdobaiaaGreatProg
import Derived.KernelRfl
import Derived.Test.YtnppabpbdobaiaaGreatXC
import Derived.Test.YtnppabpbdobaiaaGreatXF
set_option linter.unusedSimpArgs false
set_option linter.unusedVariables false
set_option maxHeartbeats 2000000
open Nat renaming reduceLeDiff → zam, reduceEqDiff → zan, reduceAdd → zao
open Int renaming reduceBEq → zap, reduceLT → zaq, reduceLE → zar, reduceGT → zas, reduceGE → zat, reduceEq → zau, reduceAdd → zav, reduceSub → zaw, reduceMul → zax
section
namespace Go.X
open Go.Proofs
abbrev zNH:List XO:=[
 ⟨some 4,.p (.mov (C (.string (strOf [])))),none⟩]
def zNG:List XO:=zNH
theorem xq136_0e:E3 zNG zNH:=E3.rfl
abbrev zNJ:List XO:=[
 ⟨some 5,.p (.mov (C (.slice none 0 0))),none⟩]
def zNI:List XO:=zNJ
theorem xq136_1e:E3 zNI zNJ:=E3.rfl
abbrev zNL:List XO:=[
 ⟨some 7,.p (.mov (T 1)),none⟩,
 ⟨some 8,.p (.minmax true (T 7) [(C (.int .i64 0))]),none⟩,
 ⟨some 9,.p (.minmax false (T 8) [(C (.int .i64 8))]),none⟩,
 ⟨some 10,.p (.mov (C (.int .i64 0))),none⟩]
def zNK:List XO:=zNL
theorem xq136_2e:E3 zNK zNL:=E3.rfl
abbrev zNN:List XO:=[
 ⟨some 11,.p (.bin .lss (T 10) (T 9)),none⟩]
def zNM:List XO:=zNN
theorem xq136_3e:E3 zNM zNN:=E3.rfl
abbrev zNP:List XO:=[
 ⟨some 12,.p (.mov (T 10)),none⟩,
 ⟨some 6,.p (.mov (T 12)),none⟩]
def zNO:List XO:=zNP
theorem xq136_4e:E3 zNO zNP:=E3.rfl
abbrev zNR:List XO:=[
 ⟨some 13,.p (.mov (T 5)),none⟩,
 ⟨some 14,.p (.mov (T 0)),none⟩,
 ⟨some 15,.p (.mov (T 1)),none⟩,
 ⟨some 16,.p (.minmax false (T 15) [(C (.int .i64 8))]),none⟩,
 ⟨some 17,.p (.bin .sub (T 16) (C (.int .i64 1))),none⟩,
 ⟨some 18,.p (.mov (T 6)),none⟩,
 ⟨some 19,.p (.bin .sub (T 17) (T 18)),none⟩,
 ⟨some 20,.p (.bin .mul (C (.int .i64 8)) (T 19)),none⟩,
 ⟨some 21,.p (.bin .shr (T 14) (T 20)),none⟩,
 ⟨some 22,.p (.cint .u8 (T 21)),none⟩,
 ⟨some 23,.a (.bslice [(.int .u8 0)] 1 [(0,1,(T 22))]),none⟩,
 ⟨some 24,.e (.append 1 1 (T 13) (T 23)),none⟩,
 ⟨some 5,.p (.mov (T 24)),none⟩]
def zNQ:List XO:=zNR
theorem xq136_5e:E3 zNQ zNR:=E3.rfl
abbrev zNT:List XO:=[
 ⟨some 25,.p (.bin .add (T 10) (C (.int .i64 1))),none⟩,
 ⟨some 10,.p (.mov (T 25)),none⟩]
def zNS:List XO:=zNT
theorem xq136_6e:E3 zNS zNT:=E3.rfl
def zIn:XC :=
 .seq (.ops zNM) (.seq (.cond (T 11) (.skip) (.exit 0)) (.seq (.block 1 (.seq (.ops zNO) (.ops zNQ))) (.ops zNS)))
def zNU:XC:=zIn
theorem xq136_7k {pr:Prog} {k:List KI} {Q:XE→Fr→Heap→Prop} {t:Fr} {h:Heap} (hw:wpk pr zIn k Q t h):wpk pr zNU k Q t h:=hw
abbrev zNW:List XO:=[
 ⟨some 26,.p (.mov (T 5)),none⟩,
 ⟨some 27,.r (.cb2s (T 26)),none⟩,
 ⟨some 4,.p (.mov (T 27)),none⟩]
def zNV:List XO:=zNW
theorem xq136_8e:E3 zNV zNW:=E3.rfl
def xq136:XF:=⟨2,[.tmp 4],
 .seq (.ops zNG) (.seq (.ops zNI) (.seq (.seq (.ops zNK) (.block 0 (.loop zNU))) (.seq (.ops zNV) (.ret))))⟩
def yq136:=PLift.up (And.intro (And.intro (And.intro (@xq136_0e) (@xq136_1e)) (And.intro (@xq136_2e) (@xq136_3e))) (And.intro (And.intro (@xq136_4e) (@xq136_5e)) (And.intro (@xq136_6e) (@xq136_8e))))
theorem cq136:zX Tryz.prog Tryz.f136=some xq136:=by kernel_rfl
abbrev zVL:List XO:=[
 ⟨some 0,.p (.mov (C (.pointer none))),none⟩]
def xq75_0:List XO:=zVL
theorem xq75_0e:E3 xq75_0 zVL:=E3.rfl
abbrev zVM:List XO:=[
 ⟨some 1,.p (.build [(.slice none 0 0)] []),none⟩,
 ⟨some 2,.a (.box (T 1)),none⟩,
 ⟨some 0,.p (.mov (T 2)),none⟩]
def xq75_1:List XO:=zVM
theorem xq75_1e:E3 xq75_1 zVM:=E3.rfl
def xq75:XF:=⟨0,[.tmp 0],
 .seq (.ops xq75_0) (.seq (.ops xq75_1) (.ret))⟩
def yq75:=PLift.up (And.intro (@xq75_0e) (@xq75_1e))
theorem cq75:zX Tryz.prog Tryz.f75=some xq75:=by kernel_rfl
abbrev zNY:List XO:=[
 ⟨some 4,.p (.mov (T 0)),none⟩,
 ⟨some 5,.p (.eql true .nptr (T 4) (C (.pointer none))),none⟩]
def zNX:List XO:=zNY
theorem xq147_0e:E3 zNX zNY:=E3.rfl
abbrev zNa:List XO:=[
 ⟨some 6,.p (.mov (T 0)),none⟩,
 ⟨some 7,.p (.mov (T 0)),none⟩,
 ⟨some 8,.p (.nilc (T 7)),none⟩,
 ⟨some 9,.p (.faddr 0 (T 8)),none⟩,
 ⟨some 10,.r (.load1 (T 9)),none⟩,
 ⟨some 11,.p (.mov (T 1)),none⟩,
 ⟨some 12,.e (.append 1 1 (T 10) (T 11)),none⟩,
 ⟨some 13,.p (.nilc (T 6)),none⟩,
 ⟨some 14,.p (.faddr 0 (T 13)),none⟩,
 ⟨none,.e (.store 1 (T 14) (T 12)),none⟩]
def zNZ:List XO:=zNa
theorem xq147_1e:E3 zNZ zNa:=E3.rfl
def xq147:XF:=⟨2,[],
 .seq (.ops zNX) (.cond (T 5) (.ops zNZ) (.skip))⟩
def yq147:=PLift.up (And.intro (@xq147_0e) (@xq147_1e))
theorem cq147:zX Tryz.prog Tryz.f147=some xq147:=by kernel_rfl
abbrev zVV:List XO:=[
 ⟨some 6,.p (.mov (T 0)),none⟩,
 ⟨some 7,.p (.mov (T 1)),none⟩,
 ⟨some 8,.p (.mov (T 2)),none⟩,
 ⟨some 9,.call (.func 136) [(T 7),(T 8)],none⟩,
 ⟨some 10,.call (.func 147) [(T 6),(T 9)],none⟩]
def xq78_0:List XO:=zVV
theorem xq78_0e:E3 xq78_0 zVV:=E3.rfl
def xq78:XF:=⟨3,[],
 .ops xq78_0⟩
def yq78:=PLift.up (@xq78_0e)
theorem cq78:zX Tryz.prog Tryz.f78=some xq78:=by kernel_rfl
abbrev zM3:List XO:=[
 ⟨some 4,.p (.mov (T 0)),none⟩,
 ⟨some 5,.p (.mov (T 1)),none⟩,
 ⟨some 6,.p (.minmax true (T 5) [(C (.int .i64 0))]),none⟩,
 ⟨some 7,.p (.cint .u64 (T 6)),none⟩,
 ⟨some 8,.call (.func 78) [(T 4),(T 7),(C (.int .i64 4))],none⟩]
def zM2:List XO:=zM3
theorem xq121_0e:E3 zM2 zM3:=E3.rfl
def xq121:XF:=⟨2,[],
 .ops zM2⟩
def yq121:=PLift.up (@xq121_0e)
theorem cq121:zX Tryz.prog Tryz.f121=some xq121:=by kernel_rfl
abbrev zVN:List XO:=[
 ⟨some 4,.p (.mov (T 0)),none⟩,
 ⟨some 5,.p (.mov (T 1)),none⟩,
 ⟨some 6,.p (.lenS (T 5)),none⟩,
 ⟨some 7,.call (.func 121) [(T 4),(T 6)],none⟩]
def xq76_0:List XO:=zVN
theorem xq76_0e:E3 xq76_0 zVN:=E3.rfl
abbrev zVO:List XO:=[
 ⟨some 8,.p (.mov (T 0)),none⟩,
 ⟨some 9,.p (.mov (T 1)),none⟩,
 ⟨some 10,.call (.func 147) [(T 8),(T 9)],none⟩]
def xq76_1:List XO:=zVO
theorem xq76_1e:E3 xq76_1 zVO:=E3.rfl
def xq76:XF:=⟨2,[],
 .seq (.ops xq76_0) (.ops xq76_1)⟩
def yq76:=PLift.up (And.intro (@xq76_0e) (@xq76_1e))
theorem cq76:zX Tryz.prog Tryz.f76=some xq76:=by kernel_rfl
abbrev zVW:List XO:=[
 ⟨some 5,.a (.mkslice [(.int .u8 0)] 1 (C (.int .i64 32)) (C (.int .i64 32))),none⟩,
 ⟨some 4,.p (.mov (T 5)),none⟩]
def xq79_0:List XO:=zVW
theorem xq79_0e:E3 xq79_0 zVW:=E3.rfl
abbrev zVX:List XO:=[
 ⟨some 6,.p (.mov (T 4)),none⟩,
 ⟨some 7,.p (.mov (T 1)),none⟩,
 ⟨some 8,.e (.copy 1 (T 6) (T 7)),none⟩]
def xq79_1:List XO:=zVX
theorem xq79_1e:E3 xq79_1 zVX:=E3.rfl
abbrev zVY:List XO:=[
 ⟨some 9,.p (.mov (T 0)),none⟩,
 ⟨some 10,.p (.mov (T 4)),none⟩,
 ⟨some 11,.r (.cb2s (T 10)),none⟩,
 ⟨some 12,.call (.func 147) [(T 9),(T 11)],none⟩]
def xq79_2:List XO:=zVY
theorem xq79_2e:E3 xq79_2 zVY:=E3.rfl
def xq79:XF:=⟨2,[],
 .seq (.ops xq79_0) (.seq (.ops xq79_1) (.ops xq79_2))⟩
def yq79:=PLift.up (And.intro (@xq79_0e) (And.intro (@xq79_1e) (@xq79_2e)))
theorem cq79:zX Tryz.prog Tryz.f79=some xq79:=by kernel_rfl
abbrev zVi:List XO:=[
 ⟨some 2,.p (.mov (C (.string (strOf [])))),none⟩]
def xq81_0:List XO:=zVi
theorem xq81_0e:E3 xq81_0 zVi:=E3.rfl
abbrev zVj:List XO:=[
 ⟨some 3,.p (.mov (T 0)),none⟩,
 ⟨some 4,.p (.eql false .nptr (T 3) (C (.pointer none))),none⟩]
def xq81_1:List XO:=zVj
theorem xq81_1e:E3 xq81_1 zVj:=E3.rfl
abbrev zVk:List XO:=[
 ⟨some 2,.p (.mov (C (.string (strOf [])))),none⟩]
def xq81_2:List XO:=zVk
theorem xq81_2e:E3 xq81_2 zVk:=E3.rfl
abbrev zVl:List XO:=[
 ⟨some 5,.p (.mov (T 0)),none⟩,
 ⟨some 6,.p (.nilc (T 5)),none⟩,
 ⟨some 7,.p (.faddr 0 (T 6)),none⟩,
 ⟨some 8,.r (.load1 (T 7)),none⟩,
 ⟨some 9,.r (.cb2s (T 8)),none⟩,
 ⟨some 2,.p (.mov (T 9)),none⟩]
def xq81_3:List XO:=zVl
theorem xq81_3e:E3 xq81_3 zVl:=E3.rfl
def xq81:XF:=⟨1,[.tmp 2],
 .seq (.ops xq81_0) (.seq (.seq (.ops xq81_1) (.cond (T 4) (.seq (.ops xq81_2) (.ret)) (.skip))) (.seq (.ops xq81_3) (.ret)))⟩
def yq81:=PLift.up (And.intro (And.intro (@xq81_0e) (@xq81_1e)) (And.intro (@xq81_2e) (@xq81_3e)))
theorem cq81:zX Tryz.prog Tryz.f81=some xq81:=by kernel_rfl
abbrev zVm:List XO:=[
 ⟨some 2,.p (.mov (C (.pointer none))),none⟩]
def xq86_0:List XO:=zVm
theorem xq86_0e:E3 xq86_0 zVm:=E3.rfl
abbrev zVn:List XO:=[
 ⟨some 3,.p (.mov (T 0)),none⟩,
 ⟨some 4,.p (.build [(.string (strOf [])),(.int .i64 0),(.int .i64 0)] [(0,1,(T 3))]),none⟩,
 ⟨some 5,.a (.box (T 4)),none⟩,
 ⟨some 2,.p (.mov (T 5)),none⟩]
def xq86_1:List XO:=zVn
theorem xq86_1e:E3 xq86_1 zVn:=E3.rfl
def xq86:XF:=⟨1,[.tmp 2],
 .seq (.ops xq86_0) (.seq (.ops xq86_1) (.ret))⟩
def yq86:=PLift.up (And.intro (@xq86_0e) (@xq86_1e))
theorem cq86:zX Tryz.prog Tryz.f86=some xq86:=by kernel_rfl
abbrev zV7:List XO:=[
 ⟨some 4,.p (.mov (C (.int .u64 0))),none⟩]
def xq89_0:List XO:=zV7
theorem xq89_0e:E3 xq89_0 zV7:=E3.rfl
abbrev zV9:List XO:=[
 ⟨some 8,.p (.mov (T 0)),none⟩,
 ⟨some 9,.call (.func 109) [(T 8)],none⟩,
 ⟨some 10,.p (.eql false .int (T 9) (C (.int .i64 0))),none⟩,
 ⟨some 11,.p (.mov (T 10)),none⟩,
 ⟨some 12,.p (.mov (T 1)),some (11,true)⟩,
 ⟨some 13,.p (.bin .gtr (T 12) (C (.int .i64 8))),some (11,true)⟩,
 ⟨some 14,.p (.pick (T 11) (T 13) (C (.bool false))),none⟩]
def xq89_1:List XO:=zV9
theorem xq89_1e:E3 xq89_1 zV9:=E3.rfl
abbrev zWA:List XO:=[
 ⟨some 15,.p (.mov (T 0)),none⟩,
 ⟨some 16,.p (.nilc (T 15)),none⟩,
 ⟨some 17,.p (.faddr 2 (T 16)),none⟩,
 ⟨none,.e (.store 1 (T 17) (C (.int .i64 1))),none⟩]
def xq89_2:List XO:=zWA
theorem xq89_2e:E3 xq89_2 zWA:=E3.rfl
abbrev zWB:List XO:=[
 ⟨some 5,.p (.mov (C (.int .u64 0))),none⟩]
def xq89_3:List XO:=zWB
theorem xq89_3e:E3 xq89_3 zWB:=E3.rfl
abbrev zWC:List XO:=[
 ⟨some 18,.p (.mov (T 0)),none⟩,
 ⟨some 19,.p (.mov (T 1)),none⟩,
 ⟨some 20,.call (.func 150) [(T 18),(T 19)],none⟩,
 ⟨some 21,.a (.cs2b (T 20)),none⟩,
 ⟨some 22,.p (.lenV (T 21)),none⟩,
 ⟨some 23,.p (.mov (C (.int .i64 0))),none⟩]
def xq89_4:List XO:=zWC
theorem xq89_4e:E3 xq89_4 zWC:=E3.rfl
abbrev zWD:List XO:=[
 ⟨some 24,.p (.bin .lss (T 23) (T 22)),none⟩]
def xq89_5:List XO:=zWD
theorem xq89_5e:E3 xq89_5 zWD:=E3.rfl
abbrev zWE:List XO:=[
 ⟨some 25,.p (.iaddrS 1 (T 21) (T 23)),none⟩,
 ⟨some 26,.r (.load1 (T 25)),none⟩,
 ⟨some 7,.p (.mov (T 26)),none⟩]
def xq89_6:List XO:=zWE
theorem xq89_6e:E3 xq89_6 zWE:=E3.rfl
abbrev zWF:List XO:=[
 ⟨some 27,.p (.mov (T 5)),none⟩,
 ⟨some 28,.p (.bin .shl (T 27) (C (.int .u64 8))),none⟩,
 ⟨some 29,.p (.mov (T 7)),none⟩,
 ⟨some 30,.p (.cint .u64 (T 29)),none⟩,
 ⟨some 31,.p (.bin .or (T 28) (T 30)),none⟩,
 ⟨some 5,.p (.mov (T 31)),none⟩]
def xq89_7:List XO:=zWF
theorem xq89_7e:E3 xq89_7 zWF:=E3.rfl
abbrev zWG:List XO:=[
 ⟨some 32,.p (.bin .add (T 23) (C (.int .i64 1))),none⟩,
 ⟨some 23,.p (.mov (T 32)),none⟩]
def xq89_8:List XO:=zWG
theorem xq89_8e:E3 xq89_8 zWG:=E3.rfl
def zJS:XC :=
 .seq (.ops xq89_5) (.seq (.cond (T 24) (.skip) (.exit 0)) (.seq (.block 1 (.seq (.ops xq89_6) (.ops xq89_7))) (.ops xq89_8)))
def zJR:XC:=zJS
theorem xq89_9k {pr:Prog} {k:List KI} {Q:XE→Fr→Heap→Prop} {t:Fr} {h:Heap} (hw:wpk pr zJS k Q t h):wpk pr zJR k Q t h:=hw
abbrev zV8:List XO:=[
 ⟨some 33,.p (.mov (T 5)),none⟩,
 ⟨some 4,.p (.mov (T 33)),none⟩]
def zJQ:List XO:=zV8
theorem xq89_10e:E3 zJQ zV8:=E3.rfl
def xq89:XF:=⟨2,[.tmp 4],
 .seq (.ops xq89_0) (.seq (.seq (.ops xq89_1) (.cond (T 14) (.ops xq89_2) (.skip))) (.seq (.ops xq89_3) (.seq (.seq (.ops xq89_4) (.block 0 (.loop zJR))) (.seq (.ops zJQ) (.ret)))))⟩
def yq89:=PLift.up (And.intro (And.intro (And.intro (@xq89_0e) (@xq89_1e)) (And.intro (@xq89_2e) (And.intro (@xq89_3e) (@xq89_4e)))) (And.intro (And.intro (@xq89_5e) (@xq89_6e)) (And.intro (@xq89_7e) (And.intro (@xq89_8e) (@xq89_10e)))))
theorem cq89:zX Tryz.prog Tryz.f89=some xq89:=by kernel_rfl
abbrev zNk:List XO:=[
 ⟨some 4,.p (.mov (C (.string (strOf [])))),none⟩]
def zNj:List XO:=zNk
theorem xq150_0e:E3 zNj zNk:=E3.rfl
abbrev zNo:List XO:=[
 ⟨some 6,.p (.mov (T 0)),none⟩,
 ⟨some 7,.call (.func 109) [(T 6)],none⟩,
 ⟨some 8,.p (.eql true .int (T 7) (C (.int .i64 0))),none⟩,
 ⟨some 5,.p (.mov (T 8)),none⟩]
def zNl:List XO:=zNo
theorem xq150_1e:E3 zNl zNo:=E3.rfl
abbrev zNq:List XO:=[
 ⟨some 4,.p (.mov (C (.string (strOf [])))),none⟩]
def zNp:List XO:=zNq
theorem xq150_2e:E3 zNp zNq:=E3.rfl
abbrev zNs:List XO:=[
 ⟨some 10,.p (.mov (T 1)),none⟩,
 ⟨some 11,.p (.bin .lss (T 10) (C (.int .i64 0))),none⟩,
 ⟨some 9,.p (.mov (T 11)),none⟩]
def zNr:List XO:=zNs
theorem xq150_3e:E3 zNr zNs:=E3.rfl
abbrev zNu:List XO:=[
 ⟨some 12,.p (.mov (T 0)),none⟩,
 ⟨some 13,.p (.nilc (T 12)),none⟩,
 ⟨some 14,.p (.faddr 2 (T 13)),none⟩,
 ⟨none,.e (.store 1 (T 14) (C (.int .i64 1))),none⟩]
def zNt:List XO:=zNu
theorem xq150_4e:E3 zNt zNu:=E3.rfl
abbrev zNw:List XO:=[
 ⟨some 4,.p (.mov (C (.string (strOf [])))),none⟩]
def zNv:List XO:=zNw
theorem xq150_5e:E3 zNv zNw:=E3.rfl
abbrev zNy:List XO:=[
 ⟨some 16,.p (.mov (T 1)),none⟩,
 ⟨some 17,.p (.mov (T 0)),none⟩,
 ⟨some 18,.p (.nilc (T 17)),none⟩,
 ⟨some 19,.p (.faddr 0 (T 18)),none⟩,
 ⟨some 20,.r (.load1 (T 19)),none⟩,
 ⟨some 21,.p (.lenS (T 20)),none⟩,
 ⟨some 22,.p (.mov (T 0)),none⟩,
 ⟨some 23,.p (.nilc (T 22)),none⟩,
 ⟨some 24,.p (.faddr 1 (T 23)),none⟩,
 ⟨some 25,.r (.load1 (T 24)),none⟩,
 ⟨some 26,.p (.bin .sub (T 21) (T 25)),none⟩,
 ⟨some 27,.p (.bin .gtr (T 16) (T 26)),none⟩,
 ⟨some 15,.p (.mov (T 27)),none⟩]
def zNx:List XO:=zNy
theorem xq150_6e:E3 zNx zNy:=E3.rfl
abbrev zN0:List XO:=[
 ⟨some 28,.p (.mov (T 0)),none⟩,
 ⟨some 29,.p (.nilc (T 28)),none⟩,
 ⟨some 30,.p (.faddr 2 (T 29)),none⟩,
 ⟨none,.e (.store 1 (T 30) (C (.int .i64 4))),none⟩]
def zNz:List XO:=zN0
theorem xq150_7e:E3 zNz zN0:=E3.rfl
abbrev zN2:List XO:=[
 ⟨some 4,.p (.mov (C (.string (strOf [])))),none⟩]
def zN1:List XO:=zN2
theorem xq150_8e:E3 zN1 zN2:=E3.rfl
abbrev zN4:List XO:=[
 ⟨some 31,.p (.mov (T 0)),none⟩,
 ⟨some 32,.p (.nilc (T 31)),none⟩,
 ⟨some 33,.p (.faddr 1 (T 32)),none⟩,
 ⟨some 34,.r (.load1 (T 33)),none⟩,
 ⟨some 35,.p (.mov (T 1)),none⟩,
 ⟨some 36,.p (.bin .add (T 34) (T 35)),none⟩,
 ⟨some 37,.p (.nilc (T 31)),none⟩,
 ⟨some 38,.p (.faddr 1 (T 37)),none⟩,
 ⟨none,.e (.store 1 (T 38) (T 36)),none⟩]
def zN3:List XO:=zN4
theorem xq150_9e:E3 zN3 zN4:=E3.rfl
abbrev zNn:List XO:=[
 ⟨some 39,.p (.mov (T 0)),none⟩,
 ⟨some 40,.p (.nilc (T 39)),none⟩,
 ⟨some 41,.p (.faddr 0 (T 40)),none⟩,
 ⟨some 42,.r (.load1 (T 41)),none⟩,
 ⟨some 43,.p (.mov (T 0)),none⟩,
 ⟨some 44,.p (.nilc (T 43)),none⟩,
 ⟨some 45,.p (.faddr 1 (T 44)),none⟩,
 ⟨some 46,.r (.load1 (T 45)),none⟩,
 ⟨some 47,.p (.mov (T 1)),none⟩,
 ⟨some 48,.p (.bin .sub (T 46) (T 47)),none⟩,
 ⟨some 49,.p (.mov (T 0)),none⟩,
 ⟨some 50,.p (.nilc (T 49)),none⟩,
 ⟨some 51,.p (.faddr 1 (T 50)),none⟩,
 ⟨some 52,.r (.load1 (T 51)),none⟩,
 ⟨some 53,.p (.slcS (T 42) (some (T 48)) (some (T 52))),none⟩,
 ⟨some 4,.p (.mov (T 53)),none⟩]
def zNm:List XO:=zNn
theorem zZw:E3 zNm zNn:=E3.rfl
def xq150:XF:=⟨2,[.tmp 4],
 .seq (.ops zNj) (.seq (.block 0 (.seq (.ops zNl) (.cond (T 5) (.seq (.ops zNp) (.ret)) (.seq (.ops zNr) (.cond (T 9) (.seq (.ops zNt) (.seq (.ops zNv) (.ret))) (.seq (.draw zNx []) (.cond (T 15) (.seq (.ops zNz) (.seq (.ops zN1) (.ret))) (.skip)))))))) (.seq (.ops zN3) (.seq (.draw zNm []) (.ret))))⟩
def yq150:=PLift.up (And.intro (And.intro (And.intro (@xq150_0e) (@xq150_1e)) (And.intro (@xq150_2e) (And.intro (@xq150_3e) (@xq150_4e)))) (And.intro (And.intro (@xq150_5e) (And.intro (@xq150_6e) (@xq150_7e))) (And.intro (@xq150_8e) (And.intro (@xq150_9e) (@zZw)))))
theorem cq150:zX Tryz.prog Tryz.f150=some xq150:=by kernel_rfl
abbrev zMd:List XO:=[
 ⟨some 4,.p (.mov (C (.int .i64 0))),none⟩]
def zMc:List XO:=zMd
theorem xq108_0e:E3 zMc zMd:=E3.rfl
abbrev zMf:List XO:=[
 ⟨some 7,.p (.mov (T 0)),none⟩,
 ⟨some 8,.call (.func 149) [(T 7)],none⟩,
 ⟨some 5,.p (.mov (T 8)),none⟩]
def zMe:List XO:=zMf
theorem xq108_1e:E3 zMe zMf:=E3.rfl
abbrev zMh:List XO:=[
 ⟨some 9,.p (.mov (T 0)),none⟩,
 ⟨some 10,.call (.func 89) [(T 9),(C (.int .i64 4))],none⟩,
 ⟨some 6,.p (.mov (T 10)),none⟩]
def zMg:List XO:=zMh
theorem xq108_2e:E3 zMg zMh:=E3.rfl
abbrev zMj:List XO:=[
 ⟨some 11,.p (.mov (T 0)),none⟩,
 ⟨some 12,.call (.func 109) [(T 11)],none⟩,
 ⟨some 13,.p (.eql true .int (T 12) (C (.int .i64 0))),none⟩]
def zMi:List XO:=zMj
theorem xq108_3e:E3 zMi zMj:=E3.rfl
abbrev zMl:List XO:=[
 ⟨some 4,.p (.mov (C (.int .i64 0))),none⟩]
def zMk:List XO:=zMl
theorem xq108_4e:E3 zMk zMl:=E3.rfl
abbrev zMn:List XO:=[
 ⟨some 14,.p (.mov (T 1)),none⟩,
 ⟨some 15,.p (.bin .lss (T 14) (C (.int .i64 0))),none⟩,
 ⟨some 16,.p (.mov (T 15)),none⟩,
 ⟨some 17,.p (.mov (T 6)),some (16,false)⟩,
 ⟨some 18,.p (.mov (T 1)),some (16,false)⟩,
 ⟨some 19,.p (.cint .u64 (T 18)),some (16,false)⟩,
 ⟨some 20,.p (.bin .gtr (T 17) (T 19)),some (16,false)⟩,
 ⟨some 21,.p (.pick (T 16) (C (.bool true)) (T 20)),none⟩]
def zMm:List XO:=zMn
theorem xq108_5e:E3 zMm zMn:=E3.rfl
abbrev zMp:List XO:=[
 ⟨some 22,.p (.mov (T 0)),none⟩,
 ⟨some 23,.p (.mov (T 0)),none⟩,
 ⟨some 24,.p (.mov (T 5)),none⟩,
 ⟨some 25,.p (.nilc (T 22)),none⟩,
 ⟨some 26,.p (.faddr 1 (T 25)),none⟩,
 ⟨none,.e (.store 1 (T 26) (T 24)),none⟩,
 ⟨some 27,.p (.nilc (T 23)),none⟩,
 ⟨some 28,.p (.faddr 2 (T 27)),none⟩,
 ⟨none,.e (.store 1 (T 28) (C (.int .i64 3))),none⟩]
def zMo:List XO:=zMp
theorem xq108_6e:E3 zMo zMp:=E3.rfl
abbrev zMr:List XO:=[
 ⟨some 4,.p (.mov (C (.int .i64 0))),none⟩]
def zMq:List XO:=zMr
theorem xq108_7e:E3 zMq zMr:=E3.rfl
abbrev zMt:List XO:=[
 ⟨some 29,.p (.mov (T 6)),none⟩,
 ⟨some 30,.p (.cint .i64 (T 29)),none⟩,
 ⟨some 4,.p (.mov (T 30)),none⟩]
def zMs:List XO:=zMt
theorem xq108_8e:E3 zMs zMt:=E3.rfl
def xq108:XF:=⟨2,[.tmp 4],
 .seq (.ops zMc) (.seq (.ops zMe) (.seq (.ops zMg) (.seq (.seq (.ops zMi) (.cond (T 13) (.seq (.ops zMk) (.ret)) (.skip))) (.seq (.seq (.ops zMm) (.cond (T 21) (.seq (.ops zMo) (.seq (.ops zMq) (.ret))) (.skip))) (.seq (.ops zMs) (.ret))))))⟩
def yq108:=PLift.up (And.intro (And.intro (And.intro (@xq108_0e) (@xq108_1e)) (And.intro (@xq108_2e) (@xq108_3e))) (And.intro (And.intro (@xq108_4e) (@xq108_5e)) (And.intro (@xq108_6e) (And.intro (@xq108_7e) (@xq108_8e)))))
theorem cq108:zX Tryz.prog Tryz.f108=some xq108:=by kernel_rfl
abbrev zVo:List XO:=[
 ⟨some 4,.p (.mov (C (.string (strOf [])))),none⟩]
def xq87_0:List XO:=zVo
theorem xq87_0e:E3 xq87_0 zVo:=E3.rfl
abbrev zVp:List XO:=[
 ⟨some 7,.p (.mov (T 0)),none⟩,
 ⟨some 8,.call (.func 149) [(T 7)],none⟩,
 ⟨some 5,.p (.mov (T 8)),none⟩]
def xq87_1:List XO:=zVp
theorem xq87_1e:E3 xq87_1 zVp:=E3.rfl
abbrev zVq:List XO:=[
 ⟨some 9,.p (.mov (T 0)),none⟩,
 ⟨some 10,.p (.mov (T 0)),none⟩,
 ⟨some 11,.p (.mov (T 1)),none⟩,
 ⟨some 12,.call (.func 108) [(T 10),(T 11)],none⟩,
 ⟨some 13,.call (.func 150) [(T 9),(T 12)],none⟩,
 ⟨some 6,.p (.mov (T 13)),none⟩]
def xq87_2:List XO:=zVq
theorem xq87_2e:E3 xq87_2 zVq:=E3.rfl
abbrev zVr:List XO:=[
 ⟨some 14,.p (.mov (T 0)),none⟩,
 ⟨some 15,.call (.func 109) [(T 14)],none⟩,
 ⟨some 16,.p (.eql true .int (T 15) (C (.int .i64 0))),none⟩,
 ⟨some 17,.p (.mov (T 16)),none⟩,
 ⟨some 18,.p (.mov (T 0)),some (17,true)⟩,
 ⟨some 19,.p (.eql true .nptr (T 18) (C (.pointer none))),some (17,true)⟩,
 ⟨some 20,.p (.pick (T 17) (T 19) (C (.bool false))),none⟩]
def xq87_3:List XO:=zVr
theorem xq87_3e:E3 xq87_3 zVr:=E3.rfl
abbrev zVs:List XO:=[
 ⟨some 21,.p (.mov (T 0)),none⟩,
 ⟨some 22,.p (.mov (T 5)),none⟩,
 ⟨some 23,.p (.nilc (T 21)),none⟩,
 ⟨some 24,.p (.faddr 1 (T 23)),none⟩,
 ⟨none,.e (.store 1 (T 24) (T 22)),none⟩]
def xq87_4:List XO:=zVs
theorem xq87_4e:E3 xq87_4 zVs:=E3.rfl
abbrev zVt:List XO:=[
 ⟨some 25,.p (.mov (T 6)),none⟩,
 ⟨some 4,.p (.mov (T 25)),none⟩]
def xq87_5:List XO:=zVt
theorem xq87_5e:E3 xq87_5 zVt:=E3.rfl
def xq87:XF:=⟨2,[.tmp 4],
 .seq (.ops xq87_0) (.seq (.ops xq87_1) (.seq (.ops xq87_2) (.seq (.seq (.ops xq87_3) (.cond (T 20) (.ops xq87_4) (.skip))) (.seq (.ops xq87_5) (.ret)))))⟩
def yq87:=PLift.up (And.intro (And.intro (@xq87_0e) (And.intro (@xq87_1e) (@xq87_2e))) (And.intro (@xq87_3e) (And.intro (@xq87_4e) (@xq87_5e))))
theorem cq87:zX Tryz.prog Tryz.f87=some xq87:=by kernel_rfl
abbrev zWH:List XO:=[
 ⟨some 2,.p (.mov (C (.string (strOf [])))),none⟩]
def xq90_0:List XO:=zWH
theorem xq90_0e:E3 xq90_0 zWH:=E3.rfl
abbrev zWI:List XO:=[
 ⟨some 3,.p (.mov (T 0)),none⟩,
 ⟨some 4,.call (.func 150) [(T 3),(C (.int .i64 32))],none⟩,
 ⟨some 2,.p (.mov (T 4)),none⟩]
def xq90_1:List XO:=zWI
theorem xq90_1e:E3 xq90_1 zWI:=E3.rfl
def xq90:XF:=⟨1,[.tmp 2],
 .seq (.ops xq90_0) (.seq (.ops xq90_1) (.ret))⟩
def yq90:=PLift.up (And.intro (@xq90_0e) (@xq90_1e))
theorem cq90:zX Tryz.prog Tryz.f90=some xq90:=by kernel_rfl
abbrev zWJ:List XO:=[
 ⟨some 2,.p (.mov (C (.int .i64 0))),none⟩]
def xq91_0:List XO:=zWJ
theorem xq91_0e:E3 xq91_0 zWJ:=E3.rfl
abbrev zWK:List XO:=[
 ⟨some 3,.p (.mov (T 0)),none⟩,
 ⟨some 4,.call (.func 152) [(T 3)],none⟩,
 ⟨some 5,.p (.bin .gtr (T 4) (C (.int .i64 0))),none⟩]
def xq91_1:List XO:=zWK
theorem xq91_1e:E3 xq91_1 zWK:=E3.rfl
abbrev zWL:List XO:=[
 ⟨some 6,.p (.mov (T 0)),none⟩,
 ⟨some 7,.call (.func 151) [(T 6),(C (.int .i64 5))],none⟩]
def xq91_2:List XO:=zWL
theorem xq91_2e:E3 xq91_2 zWL:=E3.rfl
abbrev zWM:List XO:=[
 ⟨some 8,.p (.mov (T 0)),none⟩,
 ⟨some 9,.call (.func 109) [(T 8)],none⟩,
 ⟨some 2,.p (.mov (T 9)),none⟩]
def xq91_3:List XO:=zWM
theorem xq91_3e:E3 xq91_3 zWM:=E3.rfl
def xq91:XF:=⟨1,[.tmp 2],
 .seq (.ops xq91_0) (.seq (.seq (.ops xq91_1) (.cond (T 5) (.ops xq91_2) (.skip))) (.seq (.ops xq91_3) (.ret)))⟩
def yq91:=PLift.up (And.intro (And.intro (@xq91_0e) (@xq91_1e)) (And.intro (@xq91_2e) (@xq91_3e)))
theorem cq91:zX Tryz.prog Tryz.f91=some xq91:=by kernel_rfl
abbrev zN6:List XO:=[
 ⟨some 4,.p (.mov (T 0)),none⟩,
 ⟨some 5,.p (.eql true .nptr (T 4) (C (.pointer none))),none⟩,
 ⟨some 6,.p (.mov (T 5)),none⟩,
 ⟨some 7,.p (.mov (T 0)),some (6,true)⟩,
 ⟨some 8,.p (.nilc (T 7)),some (6,true)⟩,
 ⟨some 9,.p (.faddr 2 (T 8)),some (6,true)⟩,
 ⟨some 10,.r (.load1 (T 9)),some (6,true)⟩,
 ⟨some 11,.p (.eql false .int (T 10) (C (.int .i64 0))),some (6,true)⟩,
 ⟨some 12,.p (.pick (T 6) (T 11) (C (.bool false))),none⟩]
def zN5:List XO:=zN6
theorem xq151_0e:E3 zN5 zN6:=E3.rfl
abbrev zN8:List XO:=[
 ⟨some 13,.p (.mov (T 0)),none⟩,
 ⟨some 14,.p (.mov (T 1)),none⟩,
 ⟨some 15,.p (.nilc (T 13)),none⟩,
 ⟨some 16,.p (.faddr 2 (T 15)),none⟩,
 ⟨none,.e (.store 1 (T 16) (T 14)),none⟩]
def zN7:List XO:=zN8
theorem xq151_1e:E3 zN7 zN8:=E3.rfl
def xq151:XF:=⟨2,[],
 .seq (.ops zN5) (.cond (T 12) (.ops zN7) (.skip))⟩
def yq151:=PLift.up (And.intro (@xq151_0e) (@xq151_1e))
theorem cq151:zX Tryz.prog Tryz.f151=some xq151:=by kernel_rfl
abbrev zOA:List XO:=[
 ⟨some 2,.p (.mov (C (.int .i64 0))),none⟩]
def zN9:List XO:=zOA
theorem xq152_0e:E3 zN9 zOA:=E3.rfl
abbrev zOC:List XO:=[
 ⟨some 3,.p (.mov (T 0)),none⟩,
 ⟨some 4,.p (.eql false .nptr (T 3) (C (.pointer none))),none⟩]
def zOB:List XO:=zOC
theorem xq152_1e:E3 zOB zOC:=E3.rfl
abbrev zOE:List XO:=[
 ⟨some 2,.p (.mov (C (.int .i64 0))),none⟩]
def zOD:List XO:=zOE
theorem xq152_2e:E3 zOD zOE:=E3.rfl
abbrev zOG:List XO:=[
 ⟨some 5,.p (.mov (T 0)),none⟩,
 ⟨some 6,.p (.nilc (T 5)),none⟩,
 ⟨some 7,.p (.faddr 0 (T 6)),none⟩,
 ⟨some 8,.r (.load1 (T 7)),none⟩,
 ⟨some 9,.p (.lenS (T 8)),none⟩,
 ⟨some 10,.p (.mov (T 0)),none⟩,
 ⟨some 11,.p (.nilc (T 10)),none⟩,
 ⟨some 12,.p (.faddr 1 (T 11)),none⟩,
 ⟨some 13,.r (.load1 (T 12)),none⟩,
 ⟨some 14,.p (.bin .sub (T 9) (T 13)),none⟩,
 ⟨some 2,.p (.mov (T 14)),none⟩]
def zOF:List XO:=zOG
theorem xq152_3e:E3 zOF zOG:=E3.rfl
def xq152:XF:=⟨1,[.tmp 2],
 .seq (.ops zN9) (.seq (.seq (.ops zOB) (.cond (T 4) (.seq (.ops zOD) (.ret)) (.skip))) (.seq (.draw zOF []) (.ret)))⟩
def yq152:=PLift.up (And.intro (And.intro (@xq152_0e) (@xq152_1e)) (And.intro (@xq152_2e) (@xq152_3e)))
theorem cq152:zX Tryz.prog Tryz.f152=some xq152:=by kernel_rfl
abbrev zMv:List XO:=[
 ⟨some 2,.p (.mov (C (.int .i64 0))),none⟩]
def zMu:List XO:=zMv
theorem xq109_0e:E3 zMu zMv:=E3.rfl
abbrev zMx:List XO:=[
 ⟨some 3,.p (.mov (T 0)),none⟩,
 ⟨some 4,.p (.eql false .nptr (T 3) (C (.pointer none))),none⟩]
def zMw:List XO:=zMx
theorem xq109_1e:E3 zMw zMx:=E3.rfl
abbrev zMz:List XO:=[
 ⟨some 2,.p (.mov (C (.int .i64 1))),none⟩]
def zMy:List XO:=zMz
theorem xq109_2e:E3 zMy zMz:=E3.rfl
abbrev zM1:List XO:=[
 ⟨some 5,.p (.mov (T 0)),none⟩,
 ⟨some 6,.p (.nilc (T 5)),none⟩,
 ⟨some 7,.p (.faddr 2 (T 6)),none⟩,
 ⟨some 8,.r (.load1 (T 7)),none⟩,
 ⟨some 2,.p (.mov (T 8)),none⟩]
def zM0:List XO:=zM1
theorem xq109_3e:E3 zM0 zM1:=E3.rfl
def xq109:XF:=⟨1,[.tmp 2],
 .seq (.ops zMu) (.seq (.seq (.ops zMw) (.cond (T 4) (.seq (.ops zMy) (.ret)) (.skip))) (.seq (.ops zM0) (.ret)))⟩
def yq109:=PLift.up (And.intro (And.intro (@xq109_0e) (@xq109_1e)) (And.intro (@xq109_2e) (@xq109_3e)))
theorem cq109:zX Tryz.prog Tryz.f109=some xq109:=by kernel_rfl
abbrev zNc:List XO:=[
 ⟨some 2,.p (.mov (C (.int .i64 0))),none⟩]
def zNb:List XO:=zNc
theorem xq149_0e:E3 zNb zNc:=E3.rfl
abbrev zNe:List XO:=[
 ⟨some 3,.p (.mov (T 0)),none⟩,
 ⟨some 4,.p (.eql false .nptr (T 3) (C (.pointer none))),none⟩]
def zNd:List XO:=zNe
theorem xq149_1e:E3 zNd zNe:=E3.rfl
abbrev zNg:List XO:=[
 ⟨some 2,.p (.mov (C (.int .i64 0))),none⟩]
def zNf:List XO:=zNg
theorem xq149_2e:E3 zNf zNg:=E3.rfl
abbrev zNi:List XO:=[
 ⟨some 5,.p (.mov (T 0)),none⟩,
 ⟨some 6,.p (.nilc (T 5)),none⟩,
 ⟨some 7,.p (.faddr 1 (T 6)),none⟩,
 ⟨some 8,.r (.load1 (T 7)),none⟩,
 ⟨some 2,.p (.mov (T 8)),none⟩]
def zNh:List XO:=zNi
theorem xq149_3e:E3 zNh zNi:=E3.rfl
def xq149:XF:=⟨1,[.tmp 2],
 .seq (.ops zNb) (.seq (.seq (.ops zNd) (.cond (T 4) (.seq (.ops zNf) (.ret)) (.skip))) (.seq (.ops zNh) (.ret)))⟩
def yq149:=PLift.up (And.intro (And.intro (@xq149_0e) (@xq149_1e)) (And.intro (@xq149_2e) (@xq149_3e)))
theorem cq149:zX Tryz.prog Tryz.f149=some xq149:=by kernel_rfl
end Go.X
end
section
open Go Go.X
namespace Go.X
set_option linter.unusedVariables false
def numB (n k:Nat):List UInt8:=(List.range k).map fun i=>UInt8.ofNat (n >>> (8*(k - 1 - i)))
theorem zAc (n k:Nat):(numB n k).length=k:=by simp[numB]
def mmV (isMax:Bool) (x:Value):List Value→Option Value
 | []=>some x
 | y::ys=>match mm isMax x y with|some z=>mmV isMax z ys|none=>none
theorem zIB {t:Fr} {b:Bool} {x:Operand} {xs:List Operand}:zT t (.minmax b x xs)=mmV b (t.eval x) (xs.map t.eval):=by
 simp only[zT]
 generalize t.eval x=v
 induction xs generalizing v with
 | nil=>rfl
 | cons y ys ih =>
  simp only[mms,List.map_cons,mmV]
  cases mm b v (t.eval y) with
  | none=>rfl
  | some z=>exact ih z
theorem mm_max {k:IntKind} {x y:Int}:mmV true (.int k x) [.int k y]=some (.int k (if y>x then y else x)):=by simp[mmV,mm]
theorem mm_min {k:IntKind} {x y:Int}:mmV false (.int k x) [.int k y]=some (.int k (if y<x then y else x)):=by simp[mmV,mm]
def zEF:List Value→Option Value
 | [.int .u64 n,.int .i64 k]=>if 0≤n∧n<18446744073709551616∧0≤k∧k≤8 then some (.string (strOf (numB n.toNat k.toNat))) else none
 | _=>none
theorem wnum_ok (pr:Prog) (n k:Nat) (hn:n<18446744073709551616) (hk:k≤8) (h:Heap):Comes pr xq136 [uw .u64 n,.int .i64 (k:Int)] h (.string (strOf (numB n k))):=by
 apply Comes.of
 unfold xq136
 dsimp only[zW]
 have m1:=mm_max (k:=.i64) (x:=(k:Int)) (y:=0)
 have m2:=mm_min (k:=.i64) (x:=(k:Int)) (y:=8)
 rw[if_neg (by omega)] at m1 m2
 (repeat (first|refine zP ?_|refine zL ?_|refine zO ?_|refine zC ?_|refine zB ?_|refine zJ ?_|refine zK ?_|refine zM ?_|refine zF ?_|refine zH ?_|refine zG ?_|refine zI (by decide) ?_|refine zN ?_|((first|refine zE ?_|refine zQ ?_|refine zS rfl rfl ?_|refine zR rfl ?_|refine zD ?_);simp only[yq136.down,zA,lemS.down,lemC.down,zap,zao,zam,reduceIte,zan,zaq,zar,zas,zat,zau,zav,zaw,zax,reduceCtorEq,lemH.down,zIB,m1,m2])))
 have hl:∀i,i≤k→((numB n k).take i).length=i:=fun i hi=>by rw[List.length_take,zAc];omega
 refine zAY (fun m t g=>∃i v,m=k - i∧i≤k∧Own g (fun A=>h.next≤A) 1 v ((numB n k).take i).length (zV ((numB n k).take i))∧Grows h g∧t.get 0=uw .u64 n∧t.get 1=.int .i64 (k:Int)∧t.get 5=v∧t.get 9=.int .i64 (k:Int)∧t.get 10=.int .i64 (i:Int)) ?_ k _ _ ⟨0,_,rfl,by omega,Own.nil,Grows.refl h,by simp only[yq136.down,zA,lemS.down,lemC.down,zap,zao,zam,reduceIte,zan,zaq,zar,zas,zat,zau,zav,zaw,zax,reduceCtorEq],by simp only[yq136.down,zA,lemS.down,lemC.down,zap,zao,zam,reduceIte,zan,zaq,zar,zas,zat,zau,zav,zaw,zax,reduceCtorEq],by simp only[yq136.down,zA,lemS.down,lemC.down,zap,zao,zam,reduceIte,zan,zaq,zar,zas,zat,zau,zav,zaw,zax,reduceCtorEq],by simp only[yq136.down,zA,lemS.down,lemC.down,zap,zao,zam,reduceIte,zan,zaq,zar,zas,zat,zau,zav,zaw,zax,reduceCtorEq],by (simp only[yq136.down,zA,lemS.down,lemC.down,zap,zao,zam,reduceIte,zan,zaq,zar,zas,zat,zau,zav,zaw,zax,reduceCtorEq])<;>rfl⟩
 rintro m t g ⟨i,v,rfl,hi,gO,gg,t0,t1,t5,t9,t10⟩ hnext
 refine xq136_7k ?_
 dsimp only[zIn]
 (repeat (first|refine zP ?_|refine zL ?_|refine zO ?_|refine zC ?_|refine zB ?_|refine zJ ?_|refine zK ?_|refine zM ?_|refine zF ?_|refine zH ?_|refine zG ?_|refine zI (by decide) ?_|refine zN ?_|((first|refine zE ?_|refine zQ ?_|refine zS rfl rfl ?_|refine zR rfl ?_|refine zD ?_);simp only[yq136.down,zA,lemS.down,lemC.down,zap,zao,zam,reduceIte,zan,zaq,zar,zas,zat,zau,zav,zaw,zax,reduceCtorEq,lemH.down,t0,t1,t5,t9,t10])))
 refine⟨fun hlt=>?_,fun hge=>?_⟩
 ·have hi':i<k:=by omega
  have ww:IntKind.i64.wrap ((i:Int)+1)=((i+1:Nat):Int):=by rw[wrap_i64 (by omega) (by omega)];omega
  have w1:IntKind.i64.wrap ((k:Int) - 1)=((k - 1:Nat):Int):=by rw[wrap_i64 (by omega) (by omega)];omega
  have w2:IntKind.i64.wrap (((k - 1:Nat):Int) - (i:Int))=((k - 1 - i:Nat):Int):=by rw[wrap_i64 (by omega) (by omega)];omega
  have w3:IntKind.i64.wrap (8*((k - 1 - i:Nat):Int))=((8*(k - 1 - i):Nat):Int):=by rw[wrap_i64 (by omega) (by omega)];omega
  have sh:=zL4 (k':=.i64) (x:=n) (n:=8*(k - 1 - i)) (by omega)
  rw[Nat.mod_eq_of_lt hn] at sh
  have hnx:=gg.next
  obtain⟨v',g2,e2,hO2,k2⟩:=gO.push (n >>> (8*(k - 1 - i))) (by rw[hl i hi];unfold zU;omega) (fun A hA=>by show h.next≤A;omega)
  (repeat (first|refine zP ?_|refine zL ?_|refine zO ?_|refine zC ?_|refine zB ?_|refine zJ ?_|refine zK ?_|refine zM ?_|refine zF ?_|refine zH ?_|refine zG ?_|refine zI (by decide) ?_|refine zN ?_|((first|refine zE ?_|refine zQ ?_|refine zS rfl rfl ?_|refine zR rfl ?_|refine zD ?_);simp only[yq136.down,zA,lemS.down,lemC.down,zap,zao,zam,reduceIte,zan,zaq,zar,zas,zat,zau,zav,zaw,zax,reduceCtorEq,lemH.down,lemW.down,t0,t1,t5,t9,t10,zIB,m2,w1,w2,w3,sh,e2,ww])))
  refine hnext (k - (i+1)) _ _ (by omega) ⟨i+1,v',rfl,by omega,?_,gg.then k2 (fun A hA=>by show ¬(h.next≤A);omega),by simp only[yq136.down,zA,lemS.down,lemC.down,zap,zao,zam,reduceIte,zan,zaq,zar,zas,zat,zau,zav,zaw,zax,reduceCtorEq,t0],by simp only[yq136.down,zA,lemS.down,lemC.down,zap,zao,zam,reduceIte,zan,zaq,zar,zas,zat,zau,zav,zaw,zax,reduceCtorEq,t1],by simp only[yq136.down,zA,lemS.down,lemC.down,zap,zao,zam,reduceIte,zan,zaq,zar,zas,zat,zau,zav,zaw,zax,reduceCtorEq],by simp only[yq136.down,zA,lemS.down,lemC.down,zap,zao,zam,reduceIte,zan,zaq,zar,zas,zat,zau,zav,zaw,zax,reduceCtorEq,t9],by simp only[yq136.down,zA,lemS.down,lemC.down,zap,zao,zam,reduceIte,zan,zaq,zar,zas,zat,zau,zav,zaw,zax,reduceCtorEq]⟩
  rw[List.take_succ_eq_append_getElem (by rw[zAc];exact hi')]
  have:(numB n k)[i]'(by rw[zAc];exact hi')=UInt8.ofNat (n >>> (8*(k - 1 - i))):=by simp[numB]
  rw[this]
  exact hO2
 ·obtain rfl:i=k:=by omega
  rw[List.take_of_length_le (by rw[zAc];exact Nat.le_refl _)] at gO
  (repeat (first|refine zP ?_|refine zL ?_|refine zO ?_|refine zC ?_|refine zB ?_|refine zJ ?_|refine zK ?_|refine zM ?_|refine zF ?_|refine zH ?_|refine zG ?_|refine zI (by decide) ?_|refine zN ?_|((first|refine zE ?_|refine zQ ?_|refine zS rfl rfl ?_|refine zR rfl ?_|refine zD ?_);simp only[yq136.down,zA,lemS.down,lemC.down,zap,zao,zam,reduceIte,zan,zaq,zar,zas,zat,zau,zav,zaw,zax,reduceCtorEq,lemH.down,t0,t1,t5,t9,t10,gO.cb2s])))
  exact⟨.inr rfl,by simp only[yq136.down,zA,lemS.down,lemC.down,zap,zao,zam,reduceIte,zan,zaq,zar,zas,zat,zau,zav,zaw,zax,reduceCtorEq],gg⟩
end Go.X
end
section
open Go Go.X
namespace Go.X
set_option linter.unusedVariables false
def WrS (h:Heap) (W:Nat) (S:Nat→Prop) (b:List UInt8):Prop:=S W∧∃v,Var h W [v]∧Own h (fun A=>S A∧A≠W) 1 v b.length (zV b)
def Wr (h:Heap) (W N:Nat) (b:List UInt8):Prop:=WrS h W (fun A=>N≤A) b
theorem WrS.keep {S K:Nat→Prop} {h h':Heap} {W:Nat} {b:List UInt8} (hw:WrS h W S b) (hk:Keeps K h h') (hK:∀A,S A→¬K A):WrS h' W S b:=by
 obtain⟨h1,v,h2,h3⟩:=hw
 exact⟨h1,v,h2.keep hk (hK W h1),h3.keep hk fun A hA=>hK A hA.1⟩
theorem WrS.grow {S:Nat→Prop} {h h':Heap} {W:Nat} {b:List UInt8} (hw:WrS h W S b) (hg:Grows h h'):WrS h' W S b:=hw.keep (K:=zCq) hg.keeps (fun _ _=>id)
theorem WrS.mono {S S':Nat→Prop} {h:Heap} {W:Nat} {b:List UInt8} (hw:WrS h W S b) (hS:∀A,A<h.next→S A→S' A):WrS h W S' b:=by
 obtain⟨h1,v,h2,h3⟩:=hw
 exact⟨hS W h2.1 h1,v,h2,h3.bound.mono fun A hA=>⟨hS A hA.2 hA.1.1,hA.1.2⟩⟩
theorem Wr.next {h:Heap} {W N:Nat} {b:List UInt8} (hw:Wr h W N b):∀A,h.next≤A→N≤A:=fun A hA=>by
 obtain⟨h1,v,h2,h3⟩:=hw
 have:=h2.1
 show N≤A
 have:N≤W:=h1
 omega
theorem Wr.keep {K:Nat→Prop} {h h':Heap} {W N:Nat} {b:List UInt8} (hw:Wr h W N b) (hk:Keeps K h h') (hK:∀A,N≤A→¬K A):Wr h' W N b:=by
 obtain⟨h1,v,h2,h3⟩:=hw
 exact⟨h1,v,h2.keep hk (hK W h1),h3.keep hk fun A hA=>hK A hA.1⟩
theorem Wr.grow {h h':Heap} {W N:Nat} {b:List UInt8} (hw:Wr h W N b) (hg:Grows h h'):Wr h' W N b:=hw.keep (K:=zCq) hg.keeps (fun _ _=>id)
theorem zIk {args:List Value} {v:Value} (h:zEF args=some v):args.length=2∧zy v=true∧∀pr h,Comes pr xq136 args h v:=by
 unfold zEF at h
 split at h
 ·rename_i n k
  split at h
  ·rename_i hc
   cases h
   refine⟨rfl,rfl,fun pr h=>?_⟩
   have:=wnum_ok pr n.toNat k.toNat (by omega) (by omega) h
   rw[show (k.toNat:Int)=k by omega] at this
   have e:uw .u64 n.toNat=.int .u64 n:=by unfold uw;rw[zGU,Nat.mod_eq_of_lt (by omega)];congr 1;omega
   rw[e] at this
   exact this
  ·cases h
 ·cases h
theorem zMV {n k:Nat} (hn:n<18446744073709551616) (hk:k≤8):zEF [uw .u64 n,.int .i64 (OfNat.ofNat k)]=some (.string (strOf (numB n k))):=by
 have e:(OfNat.ofNat k:Int)=(k:Int):=rfl
 have e2:uw .u64 n=.int .u64 (n:Int):=(zCp hn).symm
 rw[e2,e]
 simp only[zEF]
 rw[if_pos (by omega)]
 simp
structure zAN (pr:Prog):Prop where
 num:pr.prim 136=some (za zEF)
 newW:pr.prim 75=none
 newWC:pr.code 75=some xq75
 wb:pr.prim 147=none
 wbC:pr.code 147=some xq147
 wn:pr.prim 78=none
 wnC:pr.code 78=some xq78
 wc:pr.prim 121=none
 wcC:pr.code 121=some xq121
 wt:pr.prim 76=none
 wtC:pr.code 76=some xq76
 wh:pr.prim 79=none
 whC:pr.code 79=some xq79
 wa:pr.prim 81=none
 waC:pr.code 81=some xq81
 newR:pr.prim 86=none
 newRC:pr.code 86=some xq86
 rn:pr.prim 89=none
 rnC:pr.code 89=some xq89
 rb:pr.prim 150=none
 rbC:pr.code 150=some xq150
 rc:pr.prim 108=none
 rcC:pr.code 108=some xq108
 rt:pr.prim 87=none
 rtC:pr.code 87=some xq87
 rh:pr.prim 90=none
 rhC:pr.code 90=some xq90
 re:pr.prim 91=none
 reC:pr.code 91=some xq91
 rf:pr.prim 151=none
 rfC:pr.code 151=some xq151
 rl:pr.prim 152=none
 rlC:pr.code 152=some xq152
 rr:pr.prim 109=none
 rrC:pr.code 109=some xq109
 ra:pr.prim 149=none
 raC:pr.code 149=some xq149
theorem zGg {pr:Prog} (T:zAN pr) (h:Heap):∃h',cfi pr 75 [] h=some (.pointer (some ⟨h.next,0,none⟩),h')∧Wr h' h.next h.next []∧Grows h h':=by
 have:∃v h',cfi pr 75 [] h=some (v,h')∧v=.pointer (some ⟨h.next,0,none⟩)∧Wr h' h.next h.next []∧Grows h h':=by
  refine zj T.newW T.newWC rfl ?_
  unfold xq75
  dsimp only[zW]
  refine wpk.out (k:=[]) ?_
  have hz:aggV (zt [.slice none 0 0] [])=some (.agg [Value.slice none 0 0].toArray):=rfl
  (repeat (first|refine zP ?_|refine zL ?_|refine zO ?_|refine zC ?_|refine zB ?_|refine zJ ?_|refine zK ?_|refine zM ?_|refine zF ?_|refine zH ?_|refine zG ?_|refine zI (by decide) ?_|refine zN ?_|((first|refine zE ?_|refine zQ ?_|refine zS rfl rfl ?_|refine zR rfl ?_|refine zD ?_);simp only[yq75.down,zA,lemS.down,lemC.down,zap,zao,zam,reduceIte,zan,zaq,zar,zas,zat,zau,zav,zaw,zax,reduceCtorEq,lemH.down,hz])))
  exact⟨.inr rfl,_,rfl,by simp only[yq75.down,zA,lemS.down,lemC.down,zap,zao,zam,reduceIte,zan,zaq,zar,zas,zat,zau,zav,zaw,zax,reduceCtorEq],⟨Nat.le_refl _,_,Var.new_self,Own.nil⟩,Grows.new⟩
 obtain⟨v,h',e,rfl,r⟩:=this
 exact⟨h',e,r⟩
theorem zGj {pr:Prog} (T:zAN pr) {h:Heap} {W:Nat} {S:Nat→Prop} {b:List UInt8} (hw:WrS h W S b) (hS:∀A,h.next≤A→S A) (s:List UInt8) (hroom:b.length+s.length≤zU) :
  ∃h',cfi pr 147 [.pointer (some ⟨W,0,none⟩),.string (strOf s)] h=some (.tuple #[],h')∧WrS h' W S (b++s)∧Keeps S h h':=by
 have:∃v h',cfi pr 147 [.pointer (some ⟨W,0,none⟩),.string (strOf s)] h=some (v,h')∧v=.tuple #[]∧WrS h' W S (b++s)∧Keeps S h h':=by
  refine zj T.wb T.wbC rfl ?_
  unfold xq147
  dsimp only[zW]
  refine wpk.out (k:=[]) ?_
  obtain⟨hN,v,hV,hO⟩:=hw
  have hlt:=hV.1
  obtain⟨v2,h2,e2,hO2,k2⟩:=hO.append (bytes:=1) (m:=s.length) (new:=zV s) (by simp[zCE]) zFV (by decide) (by decide) (by omega)
  have hV2:=hV.keep k2 (fun e=>e.2 rfl)
  have st:=hO2.store (i:=0) hV2 (by simp)
  simp only[List.set_cons_zero] at st
  (repeat (first|refine zP ?_|refine zL ?_|refine zO ?_|refine zC ?_|refine zB ?_|refine zJ ?_|refine zK ?_|refine zM ?_|refine zF ?_|refine zH ?_|refine zG ?_|refine zI (by decide) ?_|refine zN ?_|((first|refine zE ?_|refine zQ ?_|refine zS rfl rfl ?_|refine zR rfl ?_|refine zD ?_);simp only[yq147.down,zA,lemS.down,lemC.down,zap,zao,zam,reduceIte,zan,zaq,zar,zas,zat,zau,zav,zaw,zax,reduceCtorEq,lemH.down,zBj,hV.load,List.getElem?_cons_zero,e2,st])))
  refine⟨.inl rfl,_,rfl,rfl,⟨hN,v2,hV2.wr,?_⟩,(k2.mono fun A _ e=>e.1).trans Keeps.wr (fun A _ e=>e▸hN)⟩
  rw[List.length_append,zDF]
  refine (hO2.mono fun A hA=>?_).keep Keeps.wr (fun A hA=>hA.2)
  rcases hA with hA|hA
  ·exact hA
  ·exact⟨hS A (by omega),by omega⟩
 obtain⟨v,h',e,rfl,r⟩:=this
 exact⟨h',e,r⟩
theorem zFH {pr:Prog} (T:zAN pr) {h:Heap} {W:Nat} {S:Nat→Prop} {b:List UInt8} (hw:WrS h W S b) (hS:∀A,h.next≤A→S A) (n k:Nat) (hn:n<18446744073709551616) (hk:k≤8) (hroom:b.length+8≤zU) :
  ∃h',cfi pr 78 [.pointer (some ⟨W,0,none⟩),uw .u64 n,.int .i64 (OfNat.ofNat k)] h=some (.tuple #[],h')∧WrS h' W S (b++numB n k)∧Keeps S h h':=by
 have:∃v h',cfi pr 78 [.pointer (some ⟨W,0,none⟩),uw .u64 n,.int .i64 (OfNat.ofNat k)] h=some (v,h')∧v=.tuple #[]∧WrS h' W S (b++numB n k)∧Keeps S h h':=by
  refine zj T.wn T.wnC rfl ?_
  unfold xq78
  dsimp only[zW]
  refine wpk.out (k:=[]) ?_
  have c1:=zAQ (h:=h) T.num (zMV hn hk)
  obtain⟨h2,e2,w2,k2⟩:=zGj T hw hS (numB n k) (by rw[zAc];omega)
  (repeat (first|refine zP ?_|refine zL ?_|refine zO ?_|refine zC ?_|refine zB ?_|refine zJ ?_|refine zK ?_|refine zM ?_|refine zF ?_|refine zH ?_|refine zG ?_|refine zI (by decide) ?_|refine zN ?_|((first|refine zE ?_|refine zQ ?_|refine zS rfl rfl ?_|refine zR rfl ?_|refine zD ?_);simp only[yq78.down,zA,lemS.down,lemC.down,zap,zao,zam,reduceIte,zan,zaq,zar,zas,zat,zau,zav,zaw,zax,reduceCtorEq,lemH.down,c1,e2])))
  exact⟨.inl rfl,_,rfl,rfl,w2,k2⟩
 obtain⟨v,h',e,rfl,r⟩:=this
 exact⟨h',e,r⟩
theorem zJe {pr:Prog} (T:zAN pr) {h:Heap} {W:Nat} {S:Nat→Prop} {b:List UInt8} (hw:WrS h W S b) (hS:∀A,h.next≤A→S A) (n:Nat) (hn:n<9223372036854775808) (hroom:b.length+8≤zU) :
  ∃h',cfi pr 121 [.pointer (some ⟨W,0,none⟩),.int .i64 (n:Int)] h=some (.tuple #[],h')∧WrS h' W S (b++numB n 4)∧Keeps S h h':=by
 have:∃v h',cfi pr 121 [.pointer (some ⟨W,0,none⟩),.int .i64 (n:Int)] h=some (v,h')∧v=.tuple #[]∧WrS h' W S (b++numB n 4)∧Keeps S h h':=by
  refine zj T.wc T.wcC rfl ?_
  unfold xq121
  dsimp only[zW]
  refine wpk.out (k:=[]) ?_
  have m1:=mm_max (k:=.i64) (x:=(n:Int)) (y:=0)
  rw[if_neg (by omega)] at m1
  have c:=zE2 (k:=.u64) (k':=.i64) zGV (n:=n)
  obtain⟨h2,e2,w2,k2⟩:=zFH T hw hS n 4 (by omega) (by decide) hroom
  have e2:cfi pr 78 [.pointer (some ⟨W,0,none⟩),uw .u64 n,.int .i64 4] h=some (.tuple #[],h2):=e2
  (repeat (first|refine zP ?_|refine zL ?_|refine zO ?_|refine zC ?_|refine zB ?_|refine zJ ?_|refine zK ?_|refine zM ?_|refine zF ?_|refine zH ?_|refine zG ?_|refine zI (by decide) ?_|refine zN ?_|((first|refine zE ?_|refine zQ ?_|refine zS rfl rfl ?_|refine zR rfl ?_|refine zD ?_);simp only[yq121.down,zA,lemS.down,lemC.down,zap,zao,zam,reduceIte,zan,zaq,zar,zas,zat,zau,zav,zaw,zax,reduceCtorEq,lemH.down,zIB,m1,c,e2])))
  exact⟨.inl rfl,_,rfl,rfl,w2,k2⟩
 obtain⟨v,h',e,rfl,r⟩:=this
 exact⟨h',e,r⟩
theorem zEL {pr:Prog} (T:zAN pr) {h:Heap} {W:Nat} {S:Nat→Prop} {b:List UInt8} (hw:WrS h W S b) (hS:∀A,h.next≤A→S A) (s:List UInt8) (hroom:b.length+s.length+8≤zU) :
  ∃h',cfi pr 76 [.pointer (some ⟨W,0,none⟩),.string (strOf s)] h=some (.tuple #[],h')∧WrS h' W S (b++numB s.length 4++s)∧Keeps S h h':=by
 have:∃v h',cfi pr 76 [.pointer (some ⟨W,0,none⟩),.string (strOf s)] h=some (v,h')∧v=.tuple #[]∧WrS h' W S (b++numB s.length 4++s)∧Keeps S h h':=by
  refine zj T.wt T.wtC rfl ?_
  unfold xq76
  dsimp only[zW]
  refine wpk.out (k:=[]) ?_
  have hr64:zU=140737488355328:=rfl
  obtain⟨h2,e2,w2,k2⟩:=zJe T hw hS s.length (by omega) (by omega)
  obtain⟨h3,e3,w3,k3⟩:=zGj T w2 (fun A hA=>hS A (Nat.le_trans k2.next hA)) s (by rw[List.length_append,zAc];omega)
  (repeat (first|refine zP ?_|refine zL ?_|refine zO ?_|refine zC ?_|refine zB ?_|refine zJ ?_|refine zK ?_|refine zM ?_|refine zF ?_|refine zH ?_|refine zG ?_|refine zI (by decide) ?_|refine zN ?_|((first|refine zE ?_|refine zQ ?_|refine zS rfl rfl ?_|refine zR rfl ?_|refine zD ?_);simp only[yq76.down,zA,lemS.down,lemC.down,zap,zao,zam,reduceIte,zan,zaq,zar,zas,zat,zau,zav,zaw,zax,reduceCtorEq,lemH.down,e2,e3])))
  exact⟨.inl rfl,_,rfl,rfl,w3,k2.trans k3 (fun _ _ e=>e)⟩
 obtain⟨v,h',e,rfl,r⟩:=this
 exact⟨h',e,r⟩
theorem WAll_run {pr:Prog} (T:zAN pr) {h:Heap} {W N:Nat} {b:List UInt8} (hw:Wr h W N b):cfi pr 81 [.pointer (some ⟨W,0,none⟩)] h=some (.string (strOf b),h):=by
 refine zBW T.wa T.waC rfl ?_
 unfold xq81
 dsimp only[zW]
 refine wpk.out (k:=[]) ?_
 obtain⟨hN,v,hV,hO⟩:=hw
 (repeat (first|refine zP ?_|refine zL ?_|refine zO ?_|refine zC ?_|refine zB ?_|refine zJ ?_|refine zK ?_|refine zM ?_|refine zF ?_|refine zH ?_|refine zG ?_|refine zI (by decide) ?_|refine zN ?_|((first|refine zE ?_|refine zQ ?_|refine zS rfl rfl ?_|refine zR rfl ?_|refine zD ?_);simp only[yq81.down,zA,lemS.down,lemC.down,zap,zao,zam,reduceIte,zan,zaq,zar,zas,zat,zau,zav,zaw,zax,reduceCtorEq,lemH.down,zBj,hV.load,List.getElem?_cons_zero,hO.cb2s])))
 exact⟨.inr rfl,by simp only[yq81.down,zA,lemS.down,lemC.down,zap,zao,zam,reduceIte,zan,zaq,zar,zas,zat,zau,zav,zaw,zax,reduceCtorEq],rfl⟩
end Go.X
end
section
open Go Go.X
namespace Go.X
set_option linter.unusedVariables false
def zD0 (zero:List Value) (bytes:Nat) (l c:Value):Option (NBlk×Mk):=match l,c with
 | .int _ l,.int _ c=>if 0≤l∧l≤c∧c.toNat*bytes≤zU∧c<140737488355328 then some (.cells (List.replicate c.toNat zero).flatten,.slice l.toNat c.toNat none) else none
 | _,_=>none
theorem zJk {t:Fr} {z:List Value} {b:Nat} {l c:Operand}:zAT t (.mkslice z b l c)=zD0 z b (t.eval l) (t.eval c):=by
 simp only[zAT,zD0]
 cases t.eval l<;>try rfl
def srcV (h:Heap) (esz:Nat):Value→Option (Nat×List Value)
 | .string str=>if esz=1 then some (str.data.toList.length,zV str.data.toList) else none
 | .slice none n _=>if n=0 then some (0,[]) else none
 | .slice (some a) n _=>if n=0 then some (0,[]) else match h.loadN a (n*esz) with|some l=>some (n,l)|none=>none
 | _=>none
def copyV (h:Heap) (esz:Nat) (d:Value) (s:Option (Nat×List Value)):Option (Value×Heap):=match d,s with
 | .slice base dl _,some (n,l) =>
  if min n dl=0 then some (.int .i64 0,h) else
  (match base with
  | some a=>(match h.store ⟨a.block,a.off,none⟩ (l.take (min n dl*esz)) with|some h=>some (.int .i64 ((min n dl:Nat):Int),h)|none=>none)
  | none=>none)
 | _,_=>none
theorem e_copyV {t:Fr} {h:Heap} {esz:Nat} {d s:Operand}:effX t h (.copy esz d s)=copyV h esz (t.eval d) (srcV h esz (t.eval s)):=by
 have e:srcX t h esz s=srcV h esz (t.eval s):=by
  simp only[srcX,srcV]
  cases t.eval s with
  | slice a n c =>
   cases a with
   | none=>rfl
   | some a =>
    dsimp only
    cases h.loadN a (n*esz)<;>rfl
  | _=>rfl
 simp only[effX,copyV,e]
 cases t.eval d with
 | slice a n c =>
  cases srcV h esz (t.eval s) with
  | none=>rfl
  | some q =>
   obtain⟨m,l⟩:=q
   dsimp only
   split
   ·rfl
   ·cases a with
    | none=>rfl
    | some a=>dsimp only;cases h.store ⟨a.block,a.off,none⟩ (l.take (min m n*esz))<;>rfl
 | _=>rfl
theorem Var.cb2s {h:Heap} {A n c:Nat} {sp:Option Nat} {b:List UInt8} (hv:Var h A (zV b)) (hn:b.length=n):zCa h (.slice (some ⟨A,0,sp⟩) n c)=some (.string (strOf b)):=by
 simp only[zCa]
 by_cases h0:n=0
 ·rw[if_pos h0]
  obtain rfl:b=[]:=List.eq_nil_of_length_eq_zero (by omega)
  rfl
 ·rw[if_neg h0,hv.loadAll (by rw[zCE];exact hn)]
  simp only[zGx]
def zBO (s:List UInt8):List UInt8:=(s++List.replicate 32 0).take 32
theorem zFm (s:List UInt8):(zBO s).length=32:=by simp[zBO]
theorem hashB_32 {s:List UInt8} (h:s.length=32):zBO s=s:=by simp[zBO,←h]
theorem WHashS {pr:Prog} (T:zAN pr) {h:Heap} {W:Nat} {S:Nat→Prop} {b:List UInt8} (hw:WrS h W S b) (hS:∀A,h.next≤A→S A) (s:List UInt8) (hroom:b.length+40≤zU) :
  ∃h',cfi pr 79 [.pointer (some ⟨W,0,none⟩),.string (strOf s)] h=some (.tuple #[],h')∧WrS h' W S (b++zBO s)∧Keeps S h h':=by
 have:∃v h',cfi pr 79 [.pointer (some ⟨W,0,none⟩),.string (strOf s)] h=some (v,h')∧v=.tuple #[]∧WrS h' W S (b++zBO s)∧Keeps S h h':=by
  refine zj T.wh T.whC rfl ?_
  unfold xq79
  dsimp only[zW]
  refine wpk.out (k:=[]) ?_
  have hWlt:W<h.next:=by obtain⟨_,v,h2,_⟩:=hw;exact h2.1
  have mk:zD0 [.int .u8 0] 1 (.int .i64 32) (.int .i64 32)=some (.cells (zV (List.replicate 32 0)),.slice 32 32 none):=by
   simp only[zD0]
   rw[if_pos (by decide)]
   rfl
  have hV:Var (h.new (zV (List.replicate 32 0))) h.next (zV (List.replicate 32 0)):=Var.new_self
  have cp:∃h2 r,copyV (h.new (zV (List.replicate 32 0))) 1 (.slice (some ⟨h.next,0,none⟩) 32 32) (srcV (h.new (zV (List.replicate 32 0))) 1 (.string (strOf s)))=some (r,h2)∧Var h2 h.next (zV (zBO s))∧Grows h h2:=by
   simp only[srcV,zAk,if_true,copyV]
   by_cases h0:min s.length 32=0
   ·rw[if_pos h0]
    obtain rfl:s=[]:=List.eq_nil_of_length_eq_zero (by omega)
    exact⟨_,_,rfl,hV,Grows.new⟩
   ·rw[if_neg h0,hV.store (by simp[zCE];omega) (by rw[zFW];exact zFV)]
    refine⟨_,_,rfl,?_,Grows.new.wr (Nat.le_refl _)⟩
    have e:putN (zV (List.replicate 32 0)) 0 (List.take (min s.length 32*1) (zV s))=zV (zBO s):=by
     simp only[putN,zFW,List.take_zero,List.nil_append,Nat.mul_one,Nat.zero_add,zCE,zG7,←zDF]
     congr 1
     unfold zBO
     rw[List.take_append,List.length_take,List.drop_replicate]
     by_cases hs:s.length≤32
     ·rw[List.take_of_length_le (l:=s) (by omega),List.take_of_length_le (l:=s) (by omega),List.take_replicate]
      congr 2;omega
     ·have e1:min s.length 32=32:=by omega
      rw[e1,show (32:Nat) - s.length=0 by omega,show min 32 s.length=32 by omega]
      simp
    rw[e]
    exact hV.wr
  obtain⟨h2,r,e2,hV2,g2⟩:=cp
  obtain⟨h3,e3,w3,k3⟩:=zGj T (hw.grow g2) (fun A hA=>hS A (Nat.le_trans g2.next hA)) (zBO s) (by rw[zFm];omega)
  (repeat (first|refine zP ?_|refine zL ?_|refine zO ?_|refine zC ?_|refine zB ?_|refine zJ ?_|refine zK ?_|refine zM ?_|refine zF ?_|refine zH ?_|refine zG ?_|refine zI (by decide) ?_|refine zN ?_|((first|refine zE ?_|refine zQ ?_|refine zS rfl rfl ?_|refine zR rfl ?_|refine zD ?_);simp only[yq79.down,zA,lemS.down,lemC.down,zap,zao,zam,reduceIte,zan,zaq,zar,zas,zat,zau,zav,zaw,zax,reduceCtorEq,lemH.down,zJk,mk,e_copyV,e2,hV2.cb2s (zFm s),e3])))
  exact⟨.inl rfl,_,rfl,rfl,w3,Keeps.trans g2.keeps k3 (fun _ _ e=>e)⟩
 obtain⟨v,h',e,rfl,r⟩:=this
 exact⟨h',e,r⟩
end Go.X
end
section
open Go Go.X
namespace Go.X
set_option linter.unusedVariables false
structure RS where
 s:List UInt8
 pos:Nat
 err:Nat
def RS.ok (r:RS):Prop:=r.pos≤r.s.length∧r.s.length≤9223372036854775807
def zd (r:RS) (n:Int):RS×List UInt8 :=
 if r.err≠0 then (r,[]) else if n<0 then (⟨r.s,r.pos,1⟩,[]) else if (r.s.length:Int) - r.pos<n then (⟨r.s,r.pos,4⟩,[]) else (⟨r.s,r.pos+n.toNat,r.err⟩,(r.s.drop r.pos).take n.toNat)
theorem zGz (r:RS) (n:Int):(zd r n).1.s=r.s:=by
 unfold zd
 split
 ·rfl
 ·split
  ·rfl
  ·split<;>rfl
def zBp (r:RS):List Value:=[.string (strOf r.s),.int .i64 (r.pos:Int),.int .i64 (r.err:Int)]
def Rd (h:Heap) (R:Nat) (r:RS):Prop:=r.ok∧Var h R (zBp r)
theorem Rd.keep {K:Nat→Prop} {h h':Heap} {R:Nat} {r:RS} (hw:Rd h R r) (hk:Keeps K h h') (hK:¬K R):Rd h' R r:=⟨hw.1,hw.2.keep hk hK⟩
theorem Rd.grow {h h':Heap} {R:Nat} {r:RS} (hw:Rd h R r) (hg:Grows h h'):Rd h' R r:=⟨hw.1,hw.2.grow hg⟩
section
variable {h:Heap} {R:Nat} {r:RS}
theorem Rd.l0 (hr:Rd h R r):∀sp,h.load ⟨R,0,sp⟩=some (.string (strOf r.s)):=fun sp=>hr.2.load
theorem Rd.l1 (hr:Rd h R r):∀sp,h.load ⟨R,1,sp⟩=some (.int .i64 (r.pos:Int)):=fun sp=>hr.2.load
theorem Rd.l2 (hr:Rd h R r):∀sp,h.load ⟨R,2,sp⟩=some (.int .i64 (r.err:Int)):=fun sp=>hr.2.load
theorem Rd.s1 (hr:Rd h R r) (n:Nat):zAG h 1 (.pointer (some ⟨R,1,none⟩)) (.int .i64 (n:Int))=some (.tuple #[],h.wr R (zBp ⟨r.s,n,r.err⟩)):=by
 rw[zY rfl,hr.2.store1 (by simp[zBp]) rfl];rfl
theorem Rd.s2 (hr:Rd h R r) (n:Nat):zAG h 1 (.pointer (some ⟨R,2,none⟩)) (.int .i64 (n:Int))=some (.tuple #[],h.wr R (zBp ⟨r.s,r.pos,n⟩)):=by
 rw[zY rfl,hr.2.store1 (by simp[zBp]) rfl];rfl
theorem Rd.s2L (hr:Rd h R r) (n:Nat):zAG h 1 (.pointer (some ⟨R,2,none⟩)) (.int .i64 (OfNat.ofNat n))=some (.tuple #[],h.wr R (zBp ⟨r.s,r.pos,n⟩)):=hr.s2 n
theorem Rd.wr (hr:Rd h R r) {q:RS} (hq:q.ok):Rd (h.wr R (zBp q)) R q:=⟨hq,hr.2.wr⟩
theorem zJV {pr:Prog} (T:zAN pr) (h:Heap) (s:List UInt8) (hs:s.length≤9223372036854775807):∃h',cfi pr 86 [.string (strOf s)] h=some (.pointer (some ⟨h.next,0,none⟩),h')∧Rd h' h.next ⟨s,0,0⟩∧Grows h h':=by
 have:∃v h',cfi pr 86 [.string (strOf s)] h=some (v,h')∧v=.pointer (some ⟨h.next,0,none⟩)∧Rd h' h.next ⟨s,0,0⟩∧Grows h h':=by
  refine zj T.newR T.newRC rfl ?_
  unfold xq86
  dsimp only[zW]
  refine wpk.out (k:=[]) ?_
  have hz:aggV (zt [.string (strOf []),.int .i64 0,.int .i64 0] [(0,1,.string (strOf s))])=some (.agg (zBp ⟨s,0,0⟩).toArray):=by
   simp[zt,zHA,putN,zBp,aggV]
  (repeat (first|refine zP ?_|refine zL ?_|refine zO ?_|refine zC ?_|refine zB ?_|refine zJ ?_|refine zK ?_|refine zM ?_|refine zF ?_|refine zH ?_|refine zG ?_|refine zI (by decide) ?_|refine zN ?_|((first|refine zE ?_|refine zQ ?_|refine zS rfl rfl ?_|refine zR rfl ?_|refine zD ?_);simp only[yq86.down,zA,lemS.down,lemC.down,zap,zao,zam,reduceIte,zan,zaq,zar,zas,zat,zau,zav,zaw,zax,reduceCtorEq,lemH.down,hz])))
  exact⟨.inr rfl,_,rfl,by simp only[yq86.down,zA,lemS.down,lemC.down,zap,zao,zam,reduceIte,zan,zaq,zar,zas,zat,zau,zav,zaw,zax,reduceCtorEq],⟨⟨Nat.zero_le _,hs⟩,Var.new_self⟩,Grows.new⟩
 obtain⟨v,h',e,rfl,r⟩:=this
 exact⟨h',e,r⟩
theorem zBt {pr:Prog} (T:zAN pr) (hr:Rd h R r):cfi pr 109 [.pointer (some ⟨R,0,none⟩)] h=some (.int .i64 (r.err:Int),h):=by
 refine zBW T.rr T.rrC rfl ?_
 unfold xq109
 dsimp only[zW]
 refine wpk.out (k:=[]) ?_
 (repeat (first|refine zP ?_|refine zL ?_|refine zO ?_|refine zC ?_|refine zB ?_|refine zJ ?_|refine zK ?_|refine zM ?_|refine zF ?_|refine zH ?_|refine zG ?_|refine zI (by decide) ?_|refine zN ?_|((first|refine zE ?_|refine zQ ?_|refine zS rfl rfl ?_|refine zR rfl ?_|refine zD ?_);simp only[yq109.down,zA,lemS.down,lemC.down,zap,zao,zam,reduceIte,zan,zaq,zar,zas,zat,zau,zav,zaw,zax,reduceCtorEq,lemH.down,zBj,hr.l2])))
 exact⟨.inr rfl,by simp only[yq109.down,zA,lemS.down,lemC.down,zap,zao,zam,reduceIte,zan,zaq,zar,zas,zat,zau,zav,zaw,zax,reduceCtorEq],rfl⟩
theorem zJY {pr:Prog} (T:zAN pr) (hr:Rd h R r):cfi pr 149 [.pointer (some ⟨R,0,none⟩)] h=some (.int .i64 (r.pos:Int),h):=by
 refine zBW T.ra T.raC rfl ?_
 unfold xq149
 dsimp only[zW]
 refine wpk.out (k:=[]) ?_
 (repeat (first|refine zP ?_|refine zL ?_|refine zO ?_|refine zC ?_|refine zB ?_|refine zJ ?_|refine zK ?_|refine zM ?_|refine zF ?_|refine zH ?_|refine zG ?_|refine zI (by decide) ?_|refine zN ?_|((first|refine zE ?_|refine zQ ?_|refine zS rfl rfl ?_|refine zR rfl ?_|refine zD ?_);simp only[yq149.down,zA,lemS.down,lemC.down,zap,zao,zam,reduceIte,zan,zaq,zar,zas,zat,zau,zav,zaw,zax,reduceCtorEq,lemH.down,zBj,hr.l1])))
 exact⟨.inr rfl,by simp only[yq149.down,zA,lemS.down,lemC.down,zap,zao,zam,reduceIte,zan,zaq,zar,zas,zat,zau,zav,zaw,zax,reduceCtorEq],rfl⟩
theorem zXD {pr:Prog} (T:zAN pr) (hr:Rd h R r):cfi pr 152 [.pointer (some ⟨R,0,none⟩)] h=some (.int .i64 ((r.s.length:Int) - r.pos),h):=by
 refine zBW T.rl T.rlC rfl ?_
 unfold xq152
 dsimp only[zW]
 refine wpk.out (k:=[]) ?_
 have hr64:zU=140737488355328:=rfl
 have ok:=hr.1
 unfold RS.ok at ok
 have w:IntKind.i64.wrap ((r.s.length:Int) - r.pos)=(r.s.length:Int) - r.pos:=wrap_i64 (by omega) (by omega)
 (repeat (first|refine zP ?_|refine zL ?_|refine zO ?_|refine zC ?_|refine zB ?_|refine zJ ?_|refine zK ?_|refine zM ?_|refine zF ?_|refine zH ?_|refine zG ?_|refine zI (by decide) ?_|refine zN ?_|((first|refine zE ?_|refine zQ ?_|refine zS rfl rfl ?_|refine zR rfl ?_|refine zD ?_);simp only[yq152.down,zA,lemS.down,lemC.down,zap,zao,zam,reduceIte,zan,zaq,zar,zas,zat,zau,zav,zaw,zax,reduceCtorEq,lemH.down,zBj,hr.l0,hr.l1,w])))
 exact⟨.inr rfl,by simp only[yq152.down,zA,lemS.down,lemC.down,zap,zao,zam,reduceIte,zan,zaq,zar,zas,zat,zau,zav,zaw,zax,reduceCtorEq],rfl⟩
theorem zGi {pr:Prog} (T:zAN pr) (hr:Rd h R r) (n:Int) (hn:-9223372036854775808≤n∧n<9223372036854775808) :
  ∃h',cfi pr 150 [.pointer (some ⟨R,0,none⟩),.int .i64 n] h=some (.string (strOf (zd r n).2),h')∧Rd h' R (zd r n).1∧Keeps (fun A=>A=R) h h':=by
 have:∃v h',cfi pr 150 [.pointer (some ⟨R,0,none⟩),.int .i64 n] h=some (v,h')∧v=.string (strOf (zd r n).2)∧Rd h' R (zd r n).1∧Keeps (fun A=>A=R) h h':=by
  refine zj T.rb T.rbC rfl ?_
  unfold xq150
  dsimp only[zW]
  refine wpk.out (k:=[]) ?_
  have hr64:zU=140737488355328:=rfl
  have ok:=hr.1
  unfold RS.ok at ok
  have er:=zBt T hr
  have w:IntKind.i64.wrap ((r.s.length:Int) - r.pos)=(r.s.length:Int) - r.pos:=wrap_i64 (by omega) (by omega)
  by_cases h0:r.err=0
  ·have b0:((r.err:Int)==0)=true:=by rw[h0];rfl
   by_cases h1:n<0
   ·have d1:decide (n<0)=true:=by simpa using h1
    (repeat (first|refine zP ?_|refine zL ?_|refine zO ?_|refine zC ?_|refine zB ?_|refine zJ ?_|refine zK ?_|refine zM ?_|refine zF ?_|refine zH ?_|refine zG ?_|refine zI (by decide) ?_|refine zN ?_|((first|refine zE ?_|refine zQ ?_|refine zS rfl rfl ?_|refine zR rfl ?_|refine zD ?_);simp only[yq150.down,zA,lemS.down,lemC.down,zap,zao,zam,reduceIte,zan,zaq,zar,zas,zat,zau,zav,zaw,zax,reduceCtorEq,lemH.down,er,b0,d1,hr.s2L])))
    refine⟨.inr rfl,_,rfl,?_,?_,Keeps.wr⟩
    ·simp only[yq150.down,zA,lemS.down,lemC.down,zap,zao,zam,reduceIte,zan,zaq,zar,zas,zat,zau,zav,zaw,zax,reduceCtorEq]
     unfold zd
     rw[if_neg (by omega),if_pos h1]
    ·unfold zd
     rw[if_neg (by omega),if_pos h1]
     exact hr.wr ok
   ·have d1:decide (n<0)=false:=by simpa using h1
    by_cases h2:(r.s.length:Int) - r.pos<n
    ·have d2:decide (n>(r.s.length:Int) - r.pos)=true:=by simpa using h2
     (repeat (first|refine zP ?_|refine zL ?_|refine zO ?_|refine zC ?_|refine zB ?_|refine zJ ?_|refine zK ?_|refine zM ?_|refine zF ?_|refine zH ?_|refine zG ?_|refine zI (by decide) ?_|refine zN ?_|((first|refine zE ?_|refine zQ ?_|refine zS rfl rfl ?_|refine zR rfl ?_|refine zD ?_);simp only[yq150.down,zA,lemS.down,lemC.down,zap,zao,zam,reduceIte,zan,zaq,zar,zas,zat,zau,zav,zaw,zax,reduceCtorEq,lemH.down,er,b0,d1,hr.l0,hr.l1,w,d2,hr.s2L])))
     refine⟨.inr rfl,_,rfl,?_,?_,Keeps.wr⟩
     ·simp only[yq150.down,zA,lemS.down,lemC.down,zap,zao,zam,reduceIte,zan,zaq,zar,zas,zat,zau,zav,zaw,zax,reduceCtorEq]
      unfold zd
      rw[if_neg (by omega),if_neg h1,if_pos h2]
     ·unfold zd
      rw[if_neg (by omega),if_neg h1,if_pos h2]
      exact hr.wr ok
    ·have d2:decide (n>(r.s.length:Int) - r.pos)=false:=by simp only[gt_iff_lt,decide_eq_false_iff_not];exact h2
     obtain⟨m,rfl⟩:∃m:Nat,n=(m:Int):=⟨n.toNat,by omega⟩
     have w2:IntKind.i64.wrap ((r.pos:Int)+(m:Int))=((r.pos+m:Nat):Int):=by rw[wrap_i64 (by omega) (by omega)];omega
     have w3:IntKind.i64.wrap (((r.pos+m:Nat):Int) - (m:Int))=(r.pos:Int):=by rw[wrap_i64 (by omega) (by omega)];omega
     have hr2:Rd (h.wr R (zBp ⟨r.s,r.pos+m,r.err⟩)) R ⟨r.s,r.pos+m,r.err⟩:=hr.wr ⟨by show r.pos+m≤r.s.length;omega,ok.2⟩
     have ct:=cut_both (s:=r.s) (n:=r.pos) (m:=r.pos+m) (k:=.i64) (k':=.i64) (by omega) (by omega)
     (repeat (first|refine zP ?_|refine zL ?_|refine zO ?_|refine zC ?_|refine zB ?_|refine zJ ?_|refine zK ?_|refine zM ?_|refine zF ?_|refine zH ?_|refine zG ?_|refine zI (by decide) ?_|refine zN ?_|((first|refine zE ?_|refine zQ ?_|refine zS rfl rfl ?_|refine zR rfl ?_|refine zD ?_);simp only[yq150.down,zA,lemS.down,lemC.down,zap,zao,zam,reduceIte,zan,zaq,zar,zas,zat,zau,zav,zaw,zax,reduceCtorEq,lemH.down,er,b0,d1,hr.l0,hr.l1,w,d2,w2,hr.s1,hr2.l0,hr2.l1,w3,ct])))
     refine⟨.inr rfl,_,rfl,?_,?_,Keeps.wr⟩
     ·simp only[yq150.down,zA,lemS.down,lemC.down,zap,zao,zam,reduceIte,zan,zaq,zar,zas,zat,zau,zav,zaw,zax,reduceCtorEq]
      unfold zd
      rw[if_neg (by omega),if_neg h1,if_neg h2]
      simp
     ·unfold zd
      rw[if_neg (by omega),if_neg h1,if_neg h2]
      exact hr2
  ·have b0:((r.err:Int)==0)=false:=by rw[beq_eq_false_iff_ne];omega
   (repeat (first|refine zP ?_|refine zL ?_|refine zO ?_|refine zC ?_|refine zB ?_|refine zJ ?_|refine zK ?_|refine zM ?_|refine zF ?_|refine zH ?_|refine zG ?_|refine zI (by decide) ?_|refine zN ?_|((first|refine zE ?_|refine zQ ?_|refine zS rfl rfl ?_|refine zR rfl ?_|refine zD ?_);simp only[yq150.down,zA,lemS.down,lemC.down,zap,zao,zam,reduceIte,zan,zaq,zar,zas,zat,zau,zav,zaw,zax,reduceCtorEq,lemH.down,er,b0])))
   refine⟨.inr rfl,_,rfl,?_,?_,Keeps.refl⟩
   ·simp only[yq150.down,zA,lemS.down,lemC.down,zap,zao,zam,reduceIte,zan,zaq,zar,zas,zat,zau,zav,zaw,zax,reduceCtorEq]
    unfold zd
    rw[if_pos h0]
   ·unfold zd
    rw[if_pos h0]
    exact hr
 obtain⟨v,h',e,rfl,r⟩:=this
 exact⟨h',e,r⟩
end
end Go.X
end
section
open Go Go.X
namespace Go.X
set_option linter.unusedVariables false
def numV (b:List UInt8):Nat:=b.foldl (fun n b=>n*256+b.toNat) 0
theorem zLD (b:List UInt8) (x:UInt8):numV (b++[x])=numV b*256+x.toNat:=by simp[numV]
theorem numV_lt:∀ (b:List UInt8),numV b<256 ^ b.length:=by
 intro b
 have key:∀ (b:List UInt8) (n m:Nat),n<256 ^ m→b.foldl (fun n b=>n*256+b.toNat) n<256 ^ (m+b.length):=by
  intro b
  induction b with
  | nil=>intro n m h;simpa using h
  | cons x b ih =>
   intro n m h
   have hx:=x.toNat_lt
   have:=ih (n*256+x.toNat) (m+1) (by rw[Nat.pow_succ];omega)
   simp only[List.foldl_cons,List.length_cons]
   rw[show m+(b.length+1)=m+1+b.length by omega]
   exact this
 have:=key b 0 0 (by decide)
 rw[Nat.zero_add] at this
 exact this
def zb (r:RS) (k:Nat):RS×Nat:=((zd r k).1,numV (zd r k).2)
theorem zGy (r:RS) (k:Nat):(zd r k).2.length≤k:=by
 unfold zd
 split
 ·simp
 ·split
  ·simp
  ·split
   ·simp
   ·simp;omega
theorem zFy (r:RS) {k:Nat} (hk:k≤8):(zb r k).2<256 ^ k:=by
 refine Nat.lt_of_lt_of_le (numV_lt _) (Nat.pow_le_pow_right (by decide) (zGy r k))
section
variable {h:Heap} {R:Nat} {r:RS}
theorem zFF {pr:Prog} (T:zAN pr) (hr:Rd h R r) (k:Nat) (hk:k≤8) :
  ∃h',cfi pr 89 [.pointer (some ⟨R,0,none⟩),.int .i64 (OfNat.ofNat k)] h=some (uw .u64 (zb r k).2,h')∧Rd h' R (zb r k).1∧Keeps (fun A=>A=R) h h':=by
 have:∃v h',cfi pr 89 [.pointer (some ⟨R,0,none⟩),.int .i64 (OfNat.ofNat k)] h=some (v,h')∧v=uw .u64 (zb r k).2∧Rd h' R (zb r k).1∧Keeps (fun A=>A=R) h h':=by
  refine zj T.rn T.rnC rfl ?_
  unfold xq89
  dsimp only[zW]
  refine wpk.out (k:=[]) ?_
  have hRlt:=hr.2.1
  have er:=zBt T hr
  have ek:(OfNat.ofNat k:Int)=(k:Int):=rfl
  have d1:decide ((OfNat.ofNat k:Int)>8)=false:=by rw[ek];simp;omega
  obtain⟨h2,e2,r2,k2⟩:=zGi T hr (k:Int) (by omega)
  have e2:cfi pr 150 [.pointer (some ⟨R,0,none⟩),.int .i64 (OfNat.ofNat k)] h=some (.string (strOf (zd r (k:Int)).2),h2):=e2
  have hb:=zGy r k
  have tail:∀t:Fr,t.get 5=uw .u64 0→t.get 21=.slice (some ⟨h2.next,0,some 1⟩) (zd r (k:Int)).2.length (zd r (k:Int)).2.length→t.get 22=.int .i64 ((zd r (k:Int)).2.length:Int)→t.get 23=.int .i64 0 →
    wpk pr (.loop zJR) [KI.blk 0,KI.code ((XC.ops zJQ).seq XC.ret)] (fun e t' h1=>(e=XE.normal∨e=XE.ret)∧∃v,t'.get 4=v∧v=uw .u64 (zb r k).2∧Rd h1 R (zb r k).1∧Keeps (fun A=>A=R) h h1) t (h2.newB (zV (zd r (k:Int)).2)):=by
   intro t t5 t21 t22 t23
   have r3:=r2.grow (Grows.newB (l:=zV (zd r (k:Int)).2))
   have hO:=Own.newB (h:=h2) (l:=zV (zd r (k:Int)).2) (n:=(zd r (k:Int)).2.length) (esz:=1) (sp:=some 1) (by simp[zCE]) (.inr rfl)
   have k3:Keeps (fun A=>A=R) h (h2.newB (zV (zd r (k:Int)).2)):=k2.trans Keeps.newB (fun _ _ e=>e)
   have hnum:zb r k=((zd r (k:Int)).1,numV (zd r (k:Int)).2):=rfl
   rw[hnum]
   generalize (zd r (k:Int)).2=b at *
   generalize (zd r (k:Int)).1=r' at *
   generalize h2.newB (zV b)=h3 at *
   refine zAY (fun m t g=>∃i,m=b.length - i∧i≤b.length∧g=h3∧t.get 5=uw .u64 (numV (b.take i))∧t.get 21=.slice (some ⟨h2.next,0,some 1⟩) b.length b.length∧t.get 22=.int .i64 (b.length:Int)∧t.get 23=.int .i64 (i:Int)) ?_ b.length _ _ ⟨0,rfl,by omega,rfl,t5,t21,t22,t23⟩
   rintro m t _ ⟨i,rfl,hi,rfl,t5,t21,t22,t23⟩ hnext
   refine xq89_9k ?_
   dsimp only[zJS]
   (repeat (first|refine zP ?_|refine zL ?_|refine zO ?_|refine zC ?_|refine zB ?_|refine zJ ?_|refine zK ?_|refine zM ?_|refine zF ?_|refine zH ?_|refine zG ?_|refine zI (by decide) ?_|refine zN ?_|((first|refine zE ?_|refine zQ ?_|refine zS rfl rfl ?_|refine zR rfl ?_|refine zD ?_);simp only[yq89.down,zA,lemS.down,lemC.down,zap,zao,zam,reduceIte,zan,zaq,zar,zas,zat,zau,zav,zaw,zax,reduceCtorEq,lemH.down,lemW.down,t5,t21,t22,t23])))
   refine⟨fun hlt=>?_,fun hge=>?_⟩
   ·have hi':i<b.length:=by omega
    have ww:IntKind.i64.wrap ((i:Int)+1)=((i+1:Nat):Int):=by rw[wrap_i64 (by omega) (by omega)];omega
    obtain⟨B,o,ia,ld⟩:=hO.addr1 hi' (k:=.i64)
    rw[zG8 hi'] at ld
    (repeat (first|refine zP ?_|refine zL ?_|refine zO ?_|refine zC ?_|refine zB ?_|refine zJ ?_|refine zK ?_|refine zM ?_|refine zF ?_|refine zH ?_|refine zG ?_|refine zI (by decide) ?_|refine zN ?_|((first|refine zE ?_|refine zQ ?_|refine zS rfl rfl ?_|refine zR rfl ?_|refine zD ?_);simp only[yq89.down,zA,lemS.down,lemC.down,zap,zao,zam,reduceIte,zan,zaq,zar,zas,zat,zau,zav,zaw,zax,reduceCtorEq,lemH.down,lemW.down,t5,t21,t22,t23,zBT,ia,ld,zL2 (n:=8) (by decide),ww])))
    refine hnext (b.length - (i+1)) _ _ (by omega) ⟨i+1,rfl,by omega,rfl,?_,by simp only[yq89.down,zA,lemS.down,lemC.down,zap,zao,zam,reduceIte,zan,zaq,zar,zas,zat,zau,zav,zaw,zax,reduceCtorEq,t21],by simp only[yq89.down,zA,lemS.down,lemC.down,zap,zao,zam,reduceIte,zan,zaq,zar,zas,zat,zau,zav,zaw,zax,reduceCtorEq,t22],by simp only[yq89.down,zA,lemS.down,lemC.down,zap,zao,zam,reduceIte,zan,zaq,zar,zas,zat,zau,zav,zaw,zax,reduceCtorEq]⟩
    simp only[yq89.down,zA,lemS.down,lemC.down,zap,zao,zam,reduceIte,zan,zaq,zar,zas,zat,zau,zav,zaw,zax,reduceCtorEq]
    rw[List.take_succ_eq_append_getElem hi',zLD]
    have hx:=(b[i]).toNat_lt
    have e1:b.getD i 0=b[i]:=by simp[List.getD_eq_getElem?_getD,List.getElem?_eq_getElem hi']
    rw[e1,Nat.mod_eq_of_lt (by simpa using hx),←Nat.shiftLeft_add_eq_or_of_lt (i:=8) (by simpa using hx),Nat.shiftLeft_eq]
   ·obtain rfl:i=b.length:=by omega
    rw[List.take_length] at t5
    (repeat (first|refine zP ?_|refine zL ?_|refine zO ?_|refine zC ?_|refine zB ?_|refine zJ ?_|refine zK ?_|refine zM ?_|refine zF ?_|refine zH ?_|refine zG ?_|refine zI (by decide) ?_|refine zN ?_|((first|refine zE ?_|refine zQ ?_|refine zS rfl rfl ?_|refine zR rfl ?_|refine zD ?_);simp only[yq89.down,zA,lemS.down,lemC.down,zap,zao,zam,reduceIte,zan,zaq,zar,zas,zat,zau,zav,zaw,zax,reduceCtorEq,lemH.down,lemW.down,t5,t21,t22,t23])))
    exact⟨.inr rfl,_,rfl,by simp only[yq89.down,zA,lemS.down,lemC.down,zap,zao,zam,reduceIte,zan,zaq,zar,zas,zat,zau,zav,zaw,zax,reduceCtorEq],r3,k3⟩
  by_cases h0:r.err=0
  ·have b0:((r.err:Int)==0)=true:=by rw[h0];rfl
   (repeat (first|refine zP ?_|refine zL ?_|refine zO ?_|refine zC ?_|refine zB ?_|refine zJ ?_|refine zK ?_|refine zM ?_|refine zF ?_|refine zH ?_|refine zG ?_|refine zI (by decide) ?_|refine zN ?_|((first|refine zE ?_|refine zQ ?_|refine zS rfl rfl ?_|refine zR rfl ?_|refine zD ?_);simp only[yq89.down,zA,lemS.down,lemC.down,zap,zao,zam,reduceIte,zan,zaq,zar,zas,zat,zau,zav,zaw,zax,reduceCtorEq,lemH.down,er,b0,d1,e2,zFa])))
   exact tail _ (by (simp only[yq89.down,zA,lemS.down,lemC.down,zap,zao,zam,reduceIte,zan,zaq,zar,zas,zat,zau,zav,zaw,zax,reduceCtorEq])<;>rfl) (by simp only[yq89.down,zA,lemS.down,lemC.down,zap,zao,zam,reduceIte,zan,zaq,zar,zas,zat,zau,zav,zaw,zax,reduceCtorEq]) (by simp only[yq89.down,zA,lemS.down,lemC.down,zap,zao,zam,reduceIte,zan,zaq,zar,zas,zat,zau,zav,zaw,zax,reduceCtorEq]) (by simp only[yq89.down,zA,lemS.down,lemC.down,zap,zao,zam,reduceIte,zan,zaq,zar,zas,zat,zau,zav,zaw,zax,reduceCtorEq])
  ·have b0:((r.err:Int)==0)=false:=by rw[beq_eq_false_iff_ne];omega
   (repeat (first|refine zP ?_|refine zL ?_|refine zO ?_|refine zC ?_|refine zB ?_|refine zJ ?_|refine zK ?_|refine zM ?_|refine zF ?_|refine zH ?_|refine zG ?_|refine zI (by decide) ?_|refine zN ?_|((first|refine zE ?_|refine zQ ?_|refine zS rfl rfl ?_|refine zR rfl ?_|refine zD ?_);simp only[yq89.down,zA,lemS.down,lemC.down,zap,zao,zam,reduceIte,zan,zaq,zar,zas,zat,zau,zav,zaw,zax,reduceCtorEq,lemH.down,er,b0,d1,e2,zFa])))
   exact tail _ (by (simp only[yq89.down,zA,lemS.down,lemC.down,zap,zao,zam,reduceIte,zan,zaq,zar,zas,zat,zau,zav,zaw,zax,reduceCtorEq])<;>rfl) (by simp only[yq89.down,zA,lemS.down,lemC.down,zap,zao,zam,reduceIte,zan,zaq,zar,zas,zat,zau,zav,zaw,zax,reduceCtorEq]) (by simp only[yq89.down,zA,lemS.down,lemC.down,zap,zao,zam,reduceIte,zan,zaq,zar,zas,zat,zau,zav,zaw,zax,reduceCtorEq]) (by simp only[yq89.down,zA,lemS.down,lemC.down,zap,zao,zam,reduceIte,zan,zaq,zar,zas,zat,zau,zav,zaw,zax,reduceCtorEq])
 obtain⟨v,h',e,rfl,r⟩:=this
 exact⟨h',e,r⟩
end
end Go.X
end
section
open Go Go.X
namespace Go.X
set_option linter.unusedVariables false
def zp (r:RS) (most:Nat):RS×Nat :=
 if (zb r 4).1.err≠0 then ((zb r 4).1,0) else if most<(zb r 4).2 then (⟨r.s,r.pos,3⟩,0) else zb r 4
def zBV (r:RS) (most:Nat):RS×List UInt8 :=
 let q:=zd (zp r most).1 (zp r most).2
 (if q.1.err≠0 then ⟨q.1.s,r.pos,q.1.err⟩ else q.1,q.2)
def endR (r:RS):RS:=if 0<r.s.length - r.pos∧r.err=0 then ⟨r.s,r.pos,5⟩ else r
theorem zCP (r:RS) (k:Nat):(zb r k).1.s=r.s:=zGz r _
theorem countR_s (r:RS) (m:Nat):(zp r m).1.s=r.s:=by
 unfold zp
 split
 ·exact zCP r 4
 ·split
  ·rfl
  ·exact zCP r 4
theorem zXw (r:RS) (m:Nat):(zp r m).2<4294967296:=by
 unfold zp
 split
 ·exact Nat.zero_lt_succ _
 ·split
  ·exact Nat.zero_lt_succ _
  ·exact zFy r (by decide)
section
variable {h:Heap} {R:Nat} {r:RS}
theorem zJZ {pr:Prog} (T:zAN pr) (hr:Rd h R r) (m:Nat) (hm:m<9223372036854775808) :
  ∃h',cfi pr 108 [.pointer (some ⟨R,0,none⟩),.int .i64 (OfNat.ofNat m)] h=some (.int .i64 ((zp r m).2:Int),h')∧Rd h' R (zp r m).1∧Keeps (fun A=>A=R) h h':=by
 have:∃v h',cfi pr 108 [.pointer (some ⟨R,0,none⟩),.int .i64 (OfNat.ofNat m)] h=some (v,h')∧v=.int .i64 ((zp r m).2:Int)∧Rd h' R (zp r m).1∧Keeps (fun A=>A=R) h h':=by
  refine zj T.rc T.rcC rfl ?_
  unfold xq108
  dsimp only[zW]
  refine wpk.out (k:=[]) ?_
  have em:(OfNat.ofNat m:Int)=(m:Int):=rfl
  rw[em]
  have at0:=zJY T hr
  obtain⟨h2,e2,r2,k2⟩:=zFF T hr 4 (by decide)
  have e2:cfi pr 89 [.pointer (some ⟨R,0,none⟩),.int .i64 4] h=some (uw .u64 (zb r 4).2,h2):=e2
  have er:=zBt T r2
  have hlt:=zFy r (k:=4) (by decide)
  have e4:uw .u64 (zb r 4).2=.int .u64 ((zb r 4).2:Int):=(zCp (by omega)).symm
  rw[e4] at e2
  have c:=zE2 (k:=.u64) (k':=.i64) zGV (n:=m)
  rw[←zCp (by omega)] at c
  have d1:decide ((m:Int)<0)=false:=by simp
  have ci:IntKind.i64.wrap ((zb r 4).2:Int)=((zb r 4).2:Int):=wrap_i64 (by omega) (by omega)
  unfold zp
  by_cases h0:(zb r 4).1.err=0
  ·have b0:(((zb r 4).1.err:Int)==0)=true:=by rw[h0];rfl
   rw[if_neg (by omega)]
   by_cases h1:m<(zb r 4).2
   ·rw[if_pos h1]
    have d2:decide (((zb r 4).2:Int)>(m:Int))=true:=by simp;omega
    have r3:Rd (h2.wr R (zBp ⟨(zb r 4).1.s,r.pos,(zb r 4).1.err⟩)) R ⟨(zb r 4).1.s,r.pos,(zb r 4).1.err⟩:=r2.wr ⟨by rw[zCP];exact hr.1.1,by rw[zCP];exact hr.1.2⟩
    (repeat (first|refine zP ?_|refine zL ?_|refine zO ?_|refine zC ?_|refine zB ?_|refine zJ ?_|refine zK ?_|refine zM ?_|refine zF ?_|refine zH ?_|refine zG ?_|refine zI (by decide) ?_|refine zN ?_|((first|refine zE ?_|refine zQ ?_|refine zS rfl rfl ?_|refine zR rfl ?_|refine zD ?_);simp only[yq108.down,zA,lemS.down,lemC.down,zap,zao,zam,reduceIte,zan,zaq,zar,zas,zat,zau,zav,zaw,zax,reduceCtorEq,lemH.down,at0,e2,er,b0,d1,c,d2,r2.s1,r3.s2L])))
    refine⟨.inr rfl,_,rfl,by (simp only[yq108.down,zA,lemS.down,lemC.down,zap,zao,zam,reduceIte,zan,zaq,zar,zas,zat,zau,zav,zaw,zax,reduceCtorEq])<;>rfl,?_,?_⟩
    ·have:=r3.wr (q:=⟨r.s,r.pos,3⟩) hr.1
     rw[zCP]
     rw[zCP] at this
     exact this
    ·exact (k2.trans Keeps.wr (fun _ _ e=>e)).trans Keeps.wr (fun _ _ e=>e)
   ·rw[if_neg h1]
    have d2:decide (((zb r 4).2:Int)>(m:Int))=false:=by simp;omega
    (repeat (first|refine zP ?_|refine zL ?_|refine zO ?_|refine zC ?_|refine zB ?_|refine zJ ?_|refine zK ?_|refine zM ?_|refine zF ?_|refine zH ?_|refine zG ?_|refine zI (by decide) ?_|refine zN ?_|((first|refine zE ?_|refine zQ ?_|refine zS rfl rfl ?_|refine zR rfl ?_|refine zD ?_);simp only[yq108.down,zA,lemS.down,lemC.down,zap,zao,zam,reduceIte,zan,zaq,zar,zas,zat,zau,zav,zaw,zax,reduceCtorEq,lemH.down,at0,e2,er,b0,d1,c,d2,ci])))
    exact⟨.inr rfl,_,rfl,by simp only[yq108.down,zA,lemS.down,lemC.down,zap,zao,zam,reduceIte,zan,zaq,zar,zas,zat,zau,zav,zaw,zax,reduceCtorEq],r2,k2⟩
  ·have b0:(((zb r 4).1.err:Int)==0)=false:=by rw[beq_eq_false_iff_ne];omega
   rw[if_pos h0]
   (repeat (first|refine zP ?_|refine zL ?_|refine zO ?_|refine zC ?_|refine zB ?_|refine zJ ?_|refine zK ?_|refine zM ?_|refine zF ?_|refine zH ?_|refine zG ?_|refine zI (by decide) ?_|refine zN ?_|((first|refine zE ?_|refine zQ ?_|refine zS rfl rfl ?_|refine zR rfl ?_|refine zD ?_);simp only[yq108.down,zA,lemS.down,lemC.down,zap,zao,zam,reduceIte,zan,zaq,zar,zas,zat,zau,zav,zaw,zax,reduceCtorEq,lemH.down,at0,e2,er,b0])))
   exact⟨.inr rfl,_,rfl,by (simp only[yq108.down,zA,lemS.down,lemC.down,zap,zao,zam,reduceIte,zan,zaq,zar,zas,zat,zau,zav,zaw,zax,reduceCtorEq])<;>rfl,r2,k2⟩
 obtain⟨v,h',e,rfl,r⟩:=this
 exact⟨h',e,r⟩
theorem zFG {pr:Prog} (T:zAN pr) (hr:Rd h R r) (m:Nat) (hm:m<9223372036854775808) :
  ∃h',cfi pr 87 [.pointer (some ⟨R,0,none⟩),.int .i64 (OfNat.ofNat m)] h=some (.string (strOf (zBV r m).2),h')∧Rd h' R (zBV r m).1∧Keeps (fun A=>A=R) h h':=by
 have:∃v h',cfi pr 87 [.pointer (some ⟨R,0,none⟩),.int .i64 (OfNat.ofNat m)] h=some (v,h')∧v=.string (strOf (zBV r m).2)∧Rd h' R (zBV r m).1∧Keeps (fun A=>A=R) h h':=by
  refine zj T.rt T.rtC rfl ?_
  unfold xq87
  dsimp only[zW]
  refine wpk.out (k:=[]) ?_
  have at0:=zJY T hr
  obtain⟨h2,e2,r2,k2⟩:=zJZ T hr m hm
  have hc:=zXw r m
  obtain⟨h3,e3,r3,k3⟩:=zGi T r2 ((zp r m).2:Int) (by omega)
  have er:=zBt T r3
  have hs3:(zd (zp r m).1 ((zp r m).2:Int)).1.s=r.s:=by rw[zGz,countR_s]
  unfold zBV
  dsimp only
  by_cases h0:(zd (zp r m).1 ((zp r m).2:Int)).1.err=0
  ·have b0:(((zd (zp r m).1 ((zp r m).2:Int)).1.err:Int)==0)=true:=by rw[h0];rfl
   rw[if_neg (by omega)]
   (repeat (first|refine zP ?_|refine zL ?_|refine zO ?_|refine zC ?_|refine zB ?_|refine zJ ?_|refine zK ?_|refine zM ?_|refine zF ?_|refine zH ?_|refine zG ?_|refine zI (by decide) ?_|refine zN ?_|((first|refine zE ?_|refine zQ ?_|refine zS rfl rfl ?_|refine zR rfl ?_|refine zD ?_);simp only[yq87.down,zA,lemS.down,lemC.down,zap,zao,zam,reduceIte,zan,zaq,zar,zas,zat,zau,zav,zaw,zax,reduceCtorEq,lemH.down,at0,e2,e3,er,b0])))
   exact⟨.inr rfl,_,rfl,by simp only[yq87.down,zA,lemS.down,lemC.down,zap,zao,zam,reduceIte,zan,zaq,zar,zas,zat,zau,zav,zaw,zax,reduceCtorEq],r3,k2.trans k3 (fun _ _ e=>e)⟩
  ·have b0:(((zd (zp r m).1 ((zp r m).2:Int)).1.err:Int)==0)=false:=by rw[beq_eq_false_iff_ne];omega
   rw[if_pos h0]
   (repeat (first|refine zP ?_|refine zL ?_|refine zO ?_|refine zC ?_|refine zB ?_|refine zJ ?_|refine zK ?_|refine zM ?_|refine zF ?_|refine zH ?_|refine zG ?_|refine zI (by decide) ?_|refine zN ?_|((first|refine zE ?_|refine zQ ?_|refine zS rfl rfl ?_|refine zR rfl ?_|refine zD ?_);simp only[yq87.down,zA,lemS.down,lemC.down,zap,zao,zam,reduceIte,zan,zaq,zar,zas,zat,zau,zav,zaw,zax,reduceCtorEq,lemH.down,at0,e2,e3,er,b0,zBj,r3.s1])))
   refine⟨.inr rfl,_,rfl,by simp only[yq87.down,zA,lemS.down,lemC.down,zap,zao,zam,reduceIte,zan,zaq,zar,zas,zat,zau,zav,zaw,zax,reduceCtorEq],r3.wr ⟨by rw[hs3];exact hr.1.1,by rw[hs3];exact hr.1.2⟩,(k2.trans k3 (fun _ _ e=>e)).trans Keeps.wr (fun _ _ e=>e)⟩
 obtain⟨v,h',e,rfl,r⟩:=this
 exact⟨h',e,r⟩
theorem zXC {pr:Prog} (T:zAN pr) (hr:Rd h R r) :
  ∃h',cfi pr 90 [.pointer (some ⟨R,0,none⟩)] h=some (.string (strOf (zd r 32).2),h')∧Rd h' R (zd r 32).1∧Keeps (fun A=>A=R) h h':=by
 have:∃v h',cfi pr 90 [.pointer (some ⟨R,0,none⟩)] h=some (v,h')∧v=.string (strOf (zd r 32).2)∧Rd h' R (zd r 32).1∧Keeps (fun A=>A=R) h h':=by
  refine zj T.rh T.rhC rfl ?_
  unfold xq90
  dsimp only[zW]
  refine wpk.out (k:=[]) ?_
  obtain⟨h3,e3,r3,k3⟩:=zGi T hr 32 (by decide)
  (repeat (first|refine zP ?_|refine zL ?_|refine zO ?_|refine zC ?_|refine zB ?_|refine zJ ?_|refine zK ?_|refine zM ?_|refine zF ?_|refine zH ?_|refine zG ?_|refine zI (by decide) ?_|refine zN ?_|((first|refine zE ?_|refine zQ ?_|refine zS rfl rfl ?_|refine zR rfl ?_|refine zD ?_);simp only[yq90.down,zA,lemS.down,lemC.down,zap,zao,zam,reduceIte,zan,zaq,zar,zas,zat,zau,zav,zaw,zax,reduceCtorEq,lemH.down,e3])))
  exact⟨.inr rfl,_,rfl,by simp only[yq90.down,zA,lemS.down,lemC.down,zap,zao,zam,reduceIte,zan,zaq,zar,zas,zat,zau,zav,zaw,zax,reduceCtorEq],r3,k3⟩
 obtain⟨v,h',e,rfl,r⟩:=this
 exact⟨h',e,r⟩
theorem zFE {pr:Prog} (T:zAN pr) (hr:Rd h R r) (m:Nat) :
  ∃h',cfi pr 151 [.pointer (some ⟨R,0,none⟩),.int .i64 (OfNat.ofNat m)] h=some (.tuple #[],h')∧Rd h' R (if r.err=0 then ⟨r.s,r.pos,m⟩ else r)∧Keeps (fun A=>A=R) h h':=by
 have:∃v h',cfi pr 151 [.pointer (some ⟨R,0,none⟩),.int .i64 (OfNat.ofNat m)] h=some (v,h')∧v=.tuple #[]∧Rd h' R (if r.err=0 then ⟨r.s,r.pos,m⟩ else r)∧Keeps (fun A=>A=R) h h':=by
  refine zj T.rf T.rfC rfl ?_
  unfold xq151
  dsimp only[zW]
  refine wpk.out (k:=[]) ?_
  by_cases h0:r.err=0
  ·have b0:((r.err:Int)==0)=true:=by rw[h0];rfl
   rw[if_pos h0]
   (repeat (first|refine zP ?_|refine zL ?_|refine zO ?_|refine zC ?_|refine zB ?_|refine zJ ?_|refine zK ?_|refine zM ?_|refine zF ?_|refine zH ?_|refine zG ?_|refine zI (by decide) ?_|refine zN ?_|((first|refine zE ?_|refine zQ ?_|refine zS rfl rfl ?_|refine zR rfl ?_|refine zD ?_);simp only[yq151.down,zA,lemS.down,lemC.down,zap,zao,zam,reduceIte,zan,zaq,zar,zas,zat,zau,zav,zaw,zax,reduceCtorEq,lemH.down,zBj,hr.l2,b0,hr.s2L])))
   exact⟨.inl rfl,_,rfl,rfl,hr.wr hr.1,Keeps.wr⟩
  ·have b0:((r.err:Int)==0)=false:=by rw[beq_eq_false_iff_ne];omega
   rw[if_neg h0]
   (repeat (first|refine zP ?_|refine zL ?_|refine zO ?_|refine zC ?_|refine zB ?_|refine zJ ?_|refine zK ?_|refine zM ?_|refine zF ?_|refine zH ?_|refine zG ?_|refine zI (by decide) ?_|refine zN ?_|((first|refine zE ?_|refine zQ ?_|refine zS rfl rfl ?_|refine zR rfl ?_|refine zD ?_);simp only[yq151.down,zA,lemS.down,lemC.down,zap,zao,zam,reduceIte,zan,zaq,zar,zas,zat,zau,zav,zaw,zax,reduceCtorEq,lemH.down,zBj,hr.l2,b0])))
   exact⟨.inl rfl,_,rfl,rfl,hr,Keeps.refl⟩
 obtain⟨v,h',e,rfl,r⟩:=this
 exact⟨h',e,r⟩
theorem zJa {pr:Prog} (T:zAN pr) (hr:Rd h R r) :
  ∃h',cfi pr 91 [.pointer (some ⟨R,0,none⟩)] h=some (.int .i64 ((endR r).err:Int),h')∧Rd h' R (endR r)∧Keeps (fun A=>A=R) h h':=by
 have:∃v h',cfi pr 91 [.pointer (some ⟨R,0,none⟩)] h=some (v,h')∧v=.int .i64 ((endR r).err:Int)∧Rd h' R (endR r)∧Keeps (fun A=>A=R) h h':=by
  refine zj T.re T.reC rfl ?_
  unfold xq91
  dsimp only[zW]
  refine wpk.out (k:=[]) ?_
  have lf:=zXD T hr
  have ok:=hr.1
  unfold RS.ok at ok
  unfold endR
  by_cases h1:0<r.s.length - r.pos
  ·have d1:decide ((r.s.length:Int) - r.pos>0)=true:=by simp;omega
   obtain⟨h2,e2,r2,k2⟩:=zFE T hr 5
   have e2:cfi pr 151 [.pointer (some ⟨R,0,none⟩),.int .i64 5] h=some (.tuple #[],h2):=e2
   have er:=zBt T r2
   have eq:(if r.err=0 then (⟨r.s,r.pos,5⟩:RS) else r)=if 0<r.s.length - r.pos∧r.err=0 then ⟨r.s,r.pos,5⟩ else r:=by
    by_cases h0:r.err=0
    ·rw[if_pos h0,if_pos ⟨h1,h0⟩]
    ·rw[if_neg h0,if_neg (fun h=>h0 h.2)]
   rw[eq] at r2 er
   (repeat (first|refine zP ?_|refine zL ?_|refine zO ?_|refine zC ?_|refine zB ?_|refine zJ ?_|refine zK ?_|refine zM ?_|refine zF ?_|refine zH ?_|refine zG ?_|refine zI (by decide) ?_|refine zN ?_|((first|refine zE ?_|refine zQ ?_|refine zS rfl rfl ?_|refine zR rfl ?_|refine zD ?_);simp only[yq91.down,zA,lemS.down,lemC.down,zap,zao,zam,reduceIte,zan,zaq,zar,zas,zat,zau,zav,zaw,zax,reduceCtorEq,lemH.down,lf,d1,e2,er])))
   exact⟨.inr rfl,_,rfl,by simp only[yq91.down,zA,lemS.down,lemC.down,zap,zao,zam,reduceIte,zan,zaq,zar,zas,zat,zau,zav,zaw,zax,reduceCtorEq],r2,k2⟩
  ·have d1:decide ((r.s.length:Int) - r.pos>0)=false:=by simp;omega
   have er:=zBt T hr
   rw[if_neg (fun h=>h1 h.1)]
   (repeat (first|refine zP ?_|refine zL ?_|refine zO ?_|refine zC ?_|refine zB ?_|refine zJ ?_|refine zK ?_|refine zM ?_|refine zF ?_|refine zH ?_|refine zG ?_|refine zI (by decide) ?_|refine zN ?_|((first|refine zE ?_|refine zQ ?_|refine zS rfl rfl ?_|refine zR rfl ?_|refine zD ?_);simp only[yq91.down,zA,lemS.down,lemC.down,zap,zao,zam,reduceIte,zan,zaq,zar,zas,zat,zau,zav,zaw,zax,reduceCtorEq,lemH.down,lf,d1,er])))
   exact⟨.inr rfl,_,rfl,by simp only[yq91.down,zA,lemS.down,lemC.down,zap,zao,zam,reduceIte,zan,zaq,zar,zas,zat,zau,zav,zaw,zax,reduceCtorEq],hr,Keeps.refl⟩
 obtain⟨v,h',e,rfl,r⟩:=this
 exact⟨h',e,r⟩
end
end Go.X
end
section
open Go Go.X
namespace Go.X
set_option linter.unusedVariables false
theorem zo {b:Bool}:zCU (.tuple #[]) b=false:=rfl
theorem zYz (n k:Nat):numB n (k+1)=numB (n / 256) k++[UInt8.ofNat n]:=by
 unfold numB
 rw[List.range_succ,List.map_append]
 congr 1
 ·apply List.map_congr_left
  intro i hi
  have hi:i<k:=by simpa using hi
  congr 1
  rw[Nat.shiftRight_eq_div_pow,Nat.shiftRight_eq_div_pow,Nat.div_div_eq_div_mul]
  congr 1
  have:8*(k+1 - 1 - i)=8+8*(k - 1 - i):=by omega
  rw[this,Nat.pow_add]
 ·simp
theorem zYy (b:List UInt8):numB (numV b) b.length=b:=by
 induction h:b.length generalizing b with
 | zero=>simp at h;subst h;rfl
 | succ n ih =>
  obtain⟨c,x,rfl⟩:∃c x,b=c++[x]:=by
   rcases List.eq_nil_or_concat b with rfl|⟨c,x,e⟩
   ·simp at h
   ·exact⟨c,x,by simpa using e⟩
  have hc:c.length=n:=by simpa using h
  have hx:=x.toNat_lt
  rw[zYz,zLD,show (numV c*256+x.toNat) / 256=numV c by omega,ih c hc]
  congr 2
  apply UInt8.toNat.inj
  simp
theorem zHb {a:Addr} {n c i e:Nat} {k:IntKind} (hi:i<n):zA9 e (.slice (some a) n c) (.int k (i:Int))=some (.pointer (some ⟨a.block,a.off+i*e,none⟩)):=by
 simp only[zA9]
 rw[if_pos (by omega),Int.toNat_natCast]
theorem zK1 {h:Heap} {a:Addr} {n:Nat} {l:List Value} (hl:h.loadN a n=some l) {i k:Nat} (hik:i+k≤n) {sp:Option Nat}:h.loadN ⟨a.block,a.off+i,sp⟩ k=some ((l.drop i).take k):=by
 unfold Heap.loadN at hl ⊢
 split at hl
 ·rename_i c hc
  simp only[hc]
  unfold zAg at hl ⊢
  cases hb:(a.off+n).ble c.cells.length with
  | false=>rw[hb] at hl;cases hl
  | true =>
   rw[hb] at hl
   cases hl
   have:=Nat.le_of_ble_eq_true hb
   rw[Nat.ble_eq_true_of_le (by omega)]
   simp only[cond_true]
   rw[List.drop_take,List.drop_drop,List.take_take,Nat.min_eq_left (by omega)]
 ·cases hl
theorem box1 {h:Heap} {v:Value} (hc:zl v=[v]):∃g,h.new [v]=g∧Var g h.next [v]∧Grows h g∧g.next=h.next+1:=⟨_,rfl,Var.new_self,Grows.new,rfl⟩
theorem ci64 {n:Nat} (hn:n<9223372036854775808):zAi .i64 (uw .u64 n)=some (.int .i64 (n:Int)):=by
 rw[←zCp (by omega),zA,wrap_i64 (by omega) (by omega)]
theorem zKU {z:List Value}:zt z []=some z:=rfl
theorem zZA {t:Fr} {h:Heap} {i n:Nat} {a:Addr} {vs:List Value} (ht:t.get i=.pointer (some a)) (hl:h.loadN a n=some vs):zAI t h [.cellN i n]=some (.agg vs.toArray):=by
 simp[zAI,zBF,resX,ht,hl,zB8]
end Go.X
end
