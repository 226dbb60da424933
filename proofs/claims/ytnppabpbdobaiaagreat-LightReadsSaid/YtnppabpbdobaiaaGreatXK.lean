/- Headers and certificates are taken. -/
import Derived.Test.YtnppabpbdobaiaaGreatProg
import Derived.KernelRfl
import Derived.Test.YtnppabpbdobaiaaGreatXC
import Derived.Test.YtnppabpbdobaiaaGreatXJ
set_option linter.unusedSimpArgs false
set_option linter.unusedVariables false
set_option maxHeartbeats 2000000
open Nat renaming reduceLeDiff → zdL, reduceEqDiff → zdM, reduceAdd → zdN
open Int renaming reduceBEq → zdO, reduceLT → zdP, reduceLE → zdQ, reduceGT → zdR, reduceGE → zdS, reduceEq → zdT, reduceAdd → zdU, reduceSub → zdV, reduceMul → zdW
section
namespace Go.X
open Go.Proofs
abbrev zYB:List XO:=[
 ⟨some 2,.p (.mov (C (.bool false))),none⟩]
def xq56_0:List XO:=zYB
theorem xq56_0e:E3 xq56_0 zYB:=E3.rfl
abbrev zYC:List XO:=[
 ⟨some 5,.p (.mov (T 0)),none⟩,
 ⟨some 6,.p (.lenV (T 5)),none⟩,
 ⟨some 7,.p (.mov (C (.int .i64 0))),none⟩]
def xq56_1:List XO:=zYC
theorem xq56_1e:E3 xq56_1 zYC:=E3.rfl
abbrev zYD:List XO:=[
 ⟨some 8,.p (.bin .lss (T 7) (T 6)),none⟩]
def xq56_2:List XO:=zYD
theorem xq56_2e:E3 xq56_2 zYD:=E3.rfl
abbrev zYE:List XO:=[
 ⟨some 9,.p (.mov (T 7)),none⟩,
 ⟨some 10,.p (.iaddrS 1 (T 5) (T 7)),none⟩,
 ⟨some 11,.r (.load1 (T 10)),none⟩,
 ⟨some 3,.p (.mov (T 9)),none⟩,
 ⟨some 4,.p (.mov (T 11)),none⟩]
def xq56_3:List XO:=zYE
theorem xq56_3e:E3 xq56_3 zYE:=E3.rfl
abbrev zYF:List XO:=[
 ⟨some 12,.p (.mov (T 4)),none⟩,
 ⟨some 13,.p (.bin .lss (T 12) (C (.int .i64 0))),none⟩,
 ⟨some 14,.p (.mov (T 13)),none⟩,
 ⟨some 15,.p (.mov (T 4)),some (14,false)⟩,
 ⟨some 16,.p (.bin .geq (T 15) (C (.int .i64 16))),some (14,false)⟩,
 ⟨some 17,.p (.pick (T 14) (C (.bool true)) (T 16)),none⟩,
 ⟨some 18,.p (.mov (T 17)),none⟩,
 ⟨some 19,.p (.mov (T 3)),some (18,false)⟩,
 ⟨some 20,.p (.bin .gtr (T 19) (C (.int .i64 0))),some (18,false)⟩,
 ⟨some 21,.p (.mov (T 20)),some (18,false)⟩,
 ⟨some 22,.p (.mov (T 0)),some (21,true)⟩,
 ⟨some 23,.p (.mov (T 3)),some (21,true)⟩,
 ⟨some 24,.p (.bin .sub (T 23) (C (.int .i64 1))),some (21,true)⟩,
 ⟨some 25,.p (.iaddrS 1 (T 22) (T 24)),some (21,true)⟩,
 ⟨some 26,.r (.load1 (T 25)),some (21,true)⟩,
 ⟨some 27,.p (.mov (T 4)),some (21,true)⟩,
 ⟨some 28,.p (.bin .geq (T 26) (T 27)),some (21,true)⟩,
 ⟨some 29,.p (.pick (T 21) (T 28) (C (.bool false))),some (18,false)⟩,
 ⟨some 30,.p (.pick (T 18) (C (.bool true)) (T 29)),none⟩]
def xq56_4:List XO:=zYF
theorem xq56_4e:E3 xq56_4 zYF:=E3.rfl
abbrev zYG:List XO:=[
 ⟨some 2,.p (.mov (C (.bool false))),none⟩]
def xq56_5:List XO:=zYG
theorem xq56_5e:E3 xq56_5 zYG:=E3.rfl
abbrev zYH:List XO:=[
 ⟨some 31,.p (.bin .add (T 7) (C (.int .i64 1))),none⟩,
 ⟨some 7,.p (.mov (T 31)),none⟩]
def xq56_6:List XO:=zYH
theorem xq56_6e:E3 xq56_6 zYH:=E3.rfl
def zJj:XC :=
 .seq (.ops xq56_2) (.seq (.cond (T 8) (.skip) (.exit 0)) (.seq (.block 1 (.seq (.ops xq56_3) (.seq (.ops xq56_4) (.cond (T 30) (.seq (.ops xq56_5) (.ret)) (.skip))))) (.ops xq56_6)))
def xq56_7:XC:=zJj
theorem xq56_7k {pr:Prog} {k:List KI} {Q:XE→Fr→Heap→Prop} {t:Fr} {h:Heap} (hw:wpk pr zJj k Q t h):wpk pr xq56_7 k Q t h:=hw
abbrev zYI:List XO:=[
 ⟨some 32,.p (.mov (T 0)),none⟩,
 ⟨some 33,.p (.lenV (T 32)),none⟩,
 ⟨some 34,.p (.bin .geq (T 33) (C (.int .i64 1))),none⟩,
 ⟨some 2,.p (.mov (T 34)),none⟩]
def xq56_8:List XO:=zYI
theorem xq56_8e:E3 xq56_8 zYI:=E3.rfl
def xq56:XF:=⟨1,[.tmp 2],
 .seq (.ops xq56_0) (.seq (.seq (.ops xq56_1) (.block 0 (.loop xq56_7))) (.seq (.ops xq56_8) (.ret)))⟩
def yq56:=PLift.up (And.intro (And.intro (And.intro (@xq56_0e) (@xq56_1e)) (And.intro (@xq56_2e) (@xq56_3e))) (And.intro (And.intro (@xq56_4e) (@xq56_5e)) (And.intro (@xq56_6e) (@xq56_8e))))
theorem cq56:zX Tryz.prog Tryz.f56=some xq56:=by kernel_rfl
abbrev zYN:List XO:=[
 ⟨some 1,.a (.box (T 0)),none⟩,
 ⟨some 2,.p (.mov (C (.int .i64 0))),none⟩]
def xq64_0:List XO:=zYN
theorem xq64_0e:E3 xq64_0 zYN:=E3.rfl
abbrev zYO:List XO:=[
 ⟨some 3,.p (.faddr 0 (T 1)),none⟩,
 ⟨some 4,.r (.load1 (T 3)),none⟩,
 ⟨some 5,.p (.bin .lss (T 4) (C (.int .u64 1))),none⟩,
 ⟨some 6,.p (.mov (T 5)),none⟩,
 ⟨some 7,.p (.faddr 1 (T 1)),some (6,false)⟩,
 ⟨some 8,.r (.load1 (T 7)),some (6,false)⟩,
 ⟨some 9,.p (.lenS (T 8)),some (6,false)⟩,
 ⟨some 10,.p (.eql true .int (T 9) (C (.int .i64 32))),some (6,false)⟩,
 ⟨some 11,.p (.pick (T 6) (C (.bool true)) (T 10)),none⟩,
 ⟨some 12,.p (.mov (T 11)),none⟩,
 ⟨some 13,.p (.faddr 2 (T 1)),some (12,false)⟩,
 ⟨some 14,.r (.load1 (T 13)),some (12,false)⟩,
 ⟨some 15,.p (.lenS (T 14)),some (12,false)⟩,
 ⟨some 16,.p (.eql true .int (T 15) (C (.int .i64 32))),some (12,false)⟩,
 ⟨some 17,.p (.pick (T 12) (C (.bool true)) (T 16)),none⟩,
 ⟨some 18,.p (.mov (T 17)),none⟩,
 ⟨some 19,.p (.faddr 3 (T 1)),some (18,false)⟩,
 ⟨some 20,.r (.load1 (T 19)),some (18,false)⟩,
 ⟨some 21,.p (.lenS (T 20)),some (18,false)⟩,
 ⟨some 22,.p (.eql true .int (T 21) (C (.int .i64 32))),some (18,false)⟩,
 ⟨some 23,.p (.pick (T 18) (C (.bool true)) (T 22)),none⟩,
 ⟨some 24,.p (.mov (T 23)),none⟩,
 ⟨some 25,.p (.faddr 4 (T 1)),some (24,false)⟩,
 ⟨some 26,.r (.load1 (T 25)),some (24,false)⟩,
 ⟨some 27,.call (.func 56) [(T 26)],some (24,false)⟩,
 ⟨some 28,.p (.un .not (T 27)),some (24,false)⟩,
 ⟨some 29,.p (.pick (T 24) (C (.bool true)) (T 28)),none⟩]
def xq64_1:List XO:=zYO
theorem xq64_1e:E3 xq64_1 zYO:=E3.rfl
abbrev zYP:List XO:=[
 ⟨some 2,.p (.mov (C (.int .i64 80))),none⟩]
def xq64_2:List XO:=zYP
theorem xq64_2e:E3 xq64_2 zYP:=E3.rfl
abbrev zYQ:List XO:=[
 ⟨some 2,.p (.mov (C (.int .i64 0))),none⟩]
def xq64_3:List XO:=zYQ
theorem xq64_3e:E3 xq64_3 zYQ:=E3.rfl
def xq64:XF:=⟨1,[.tmp 2],
 .seq (.ops xq64_0) (.seq (.seq (.ops xq64_1) (.cond (T 29) (.seq (.ops xq64_2) (.ret)) (.skip))) (.seq (.ops xq64_3) (.ret)))⟩
def yq64:=PLift.up (And.intro (And.intro (@xq64_0e) (@xq64_1e)) (And.intro (@xq64_2e) (@xq64_3e)))
theorem cq64:zX Tryz.prog Tryz.f64=some xq64:=by kernel_rfl
abbrev zYV:List XO:=[
 ⟨some 6,.p (.mov (T 0)),none⟩,
 ⟨some 7,.p (.mov (T 1)),none⟩,
 ⟨some 8,.p (.lenV (T 7)),none⟩,
 ⟨some 9,.p (.cint .u64 (T 8)),none⟩,
 ⟨some 10,.call (.func 78) [(T 6),(T 9),(C (.int .i64 1))],none⟩]
def xq77_0:List XO:=zYV
theorem xq77_0e:E3 xq77_0 zYV:=E3.rfl
abbrev zYW:List XO:=[
 ⟨some 11,.p (.mov (T 1)),none⟩,
 ⟨some 12,.p (.lenV (T 11)),none⟩,
 ⟨some 13,.p (.mov (C (.int .i64 0))),none⟩]
def xq77_1:List XO:=zYW
theorem xq77_1e:E3 xq77_1 zYW:=E3.rfl
abbrev zYX:List XO:=[
 ⟨some 14,.p (.bin .lss (T 13) (T 12)),none⟩]
def xq77_2:List XO:=zYX
theorem xq77_2e:E3 xq77_2 zYX:=E3.rfl
abbrev zYY:List XO:=[
 ⟨some 15,.p (.iaddrS 1 (T 11) (T 13)),none⟩,
 ⟨some 16,.r (.load1 (T 15)),none⟩,
 ⟨some 5,.p (.mov (T 16)),none⟩]
def xq77_3:List XO:=zYY
theorem xq77_3e:E3 xq77_3 zYY:=E3.rfl
abbrev zYZ:List XO:=[
 ⟨some 17,.p (.mov (T 0)),none⟩,
 ⟨some 18,.p (.mov (T 5)),none⟩,
 ⟨some 19,.p (.cint .u64 (T 18)),none⟩,
 ⟨some 20,.call (.func 78) [(T 17),(T 19),(C (.int .i64 1))],none⟩]
def xq77_4:List XO:=zYZ
theorem xq77_4e:E3 xq77_4 zYZ:=E3.rfl
abbrev zYa:List XO:=[
 ⟨some 21,.p (.bin .add (T 13) (C (.int .i64 1))),none⟩,
 ⟨some 13,.p (.mov (T 21)),none⟩]
def xq77_5:List XO:=zYa
theorem xq77_5e:E3 xq77_5 zYa:=E3.rfl
def zJk:XC :=
 .seq (.ops xq77_2) (.seq (.cond (T 14) (.skip) (.exit 0)) (.seq (.block 1 (.seq (.ops xq77_3) (.ops xq77_4))) (.ops xq77_5)))
def xq77_6:XC:=zJk
theorem xq77_6k {pr:Prog} {k:List KI} {Q:XE→Fr→Heap→Prop} {t:Fr} {h:Heap} (hw:wpk pr zJk k Q t h):wpk pr xq77_6 k Q t h:=hw
def xq77:XF:=⟨2,[],
 .seq (.ops xq77_0) (.seq (.ops xq77_1) (.block 0 (.loop xq77_6)))⟩
def yq77:=PLift.up (And.intro (And.intro (@xq77_0e) (And.intro (@xq77_1e) (@xq77_2e))) (And.intro (@xq77_3e) (And.intro (@xq77_4e) (@xq77_5e))))
theorem cq77:zX Tryz.prog Tryz.f77=some xq77:=by kernel_rfl
abbrev zPH:List XO:=[
 ⟨some 3,.a (.box (T 1)),none⟩]
def zPG:List XO:=zPH
theorem xq115_0e:E3 zPG zPH:=E3.rfl
abbrev zPJ:List XO:=[
 ⟨some 4,.p (.mov (T 0)),none⟩,
 ⟨some 5,.p (.faddr 0 (T 3)),none⟩,
 ⟨some 6,.r (.load1 (T 5)),none⟩,
 ⟨some 7,.call (.func 78) [(T 4),(T 6),(C (.int .i64 8))],none⟩]
def zPI:List XO:=zPJ
theorem xq115_1e:E3 zPI zPJ:=E3.rfl
abbrev zPL:List XO:=[
 ⟨some 8,.p (.mov (T 0)),none⟩,
 ⟨some 9,.p (.faddr 1 (T 3)),none⟩,
 ⟨some 10,.r (.load1 (T 9)),none⟩,
 ⟨some 11,.call (.func 79) [(T 8),(T 10)],none⟩]
def zPK:List XO:=zPL
theorem xq115_2e:E3 zPK zPL:=E3.rfl
abbrev zPN:List XO:=[
 ⟨some 12,.p (.mov (T 0)),none⟩,
 ⟨some 13,.p (.faddr 2 (T 3)),none⟩,
 ⟨some 14,.r (.load1 (T 13)),none⟩,
 ⟨some 15,.call (.func 79) [(T 12),(T 14)],none⟩]
def zPM:List XO:=zPN
theorem xq115_3e:E3 zPM zPN:=E3.rfl
abbrev zPP:List XO:=[
 ⟨some 16,.p (.mov (T 0)),none⟩,
 ⟨some 17,.p (.faddr 3 (T 3)),none⟩,
 ⟨some 18,.r (.load1 (T 17)),none⟩,
 ⟨some 19,.call (.func 79) [(T 16),(T 18)],none⟩]
def zPO:List XO:=zPP
theorem xq115_4e:E3 zPO zPP:=E3.rfl
abbrev zPR:List XO:=[
 ⟨some 20,.p (.mov (T 0)),none⟩,
 ⟨some 21,.p (.faddr 4 (T 3)),none⟩,
 ⟨some 22,.r (.load1 (T 21)),none⟩,
 ⟨some 23,.call (.func 77) [(T 20),(T 22)],none⟩]
def zPQ:List XO:=zPR
theorem xq115_5e:E3 zPQ zPR:=E3.rfl
def xq115:XF:=⟨2,[],
 .seq (.ops zPG) (.seq (.ops zPI) (.seq (.ops zPK) (.seq (.ops zPM) (.seq (.ops zPO) (.ops zPQ)))))⟩
def yq115:=PLift.up (And.intro (And.intro (@xq115_0e) (And.intro (@xq115_1e) (@xq115_2e))) (And.intro (@xq115_3e) (And.intro (@xq115_4e) (@xq115_5e))))
theorem cq115:zX Tryz.prog Tryz.f115=some xq115:=by kernel_rfl
abbrev zMy:List XO:=[
 ⟨some 1,.a (.box (T 0)),none⟩,
 ⟨some 2,.p (.mov (C (.string (strOf [])))),none⟩]
def zMx:List XO:=zMy
theorem xq102_0e:E3 zMx zMy:=E3.rfl
abbrev zM0:List XO:=[
 ⟨some 4,.call (.func 75) [],none⟩,
 ⟨some 3,.p (.mov (T 4)),none⟩]
def zMz:List XO:=zM0
theorem xq102_1e:E3 zMz zM0:=E3.rfl
abbrev zM2:List XO:=[
 ⟨some 5,.p (.mov (T 3)),none⟩,
 ⟨some 6,.r (.loadN 5 (T 1)),none⟩,
 ⟨some 7,.call (.func 115) [(T 5),(T 6)],none⟩]
def zM1:List XO:=zM2
theorem xq102_2e:E3 zM1 zM2:=E3.rfl
abbrev zM4:List XO:=[
 ⟨some 8,.p (.mov (T 3)),none⟩,
 ⟨some 9,.call (.func 81) [(T 8)],none⟩,
 ⟨some 10,.a (.bslice [(.string (strOf []))] 1 [(0,1,(T 9))]),none⟩,
 ⟨some 11,.call (.func 160) [(C (.int .u8 72)),(T 10)],none⟩,
 ⟨some 2,.p (.mov (T 11)),none⟩]
def zM3:List XO:=zM4
theorem xq102_3e:E3 zM3 zM4:=E3.rfl
def xq102:XF:=⟨1,[.tmp 2],
 .seq (.ops zMx) (.seq (.ops zMz) (.seq (.ops zM1) (.seq (.ops zM3) (.ret))))⟩
def yq102:=PLift.up (And.intro (And.intro (@xq102_0e) (@xq102_1e)) (And.intro (@xq102_2e) (@xq102_3e)))
theorem cq102:zX Tryz.prog Tryz.f102=some xq102:=by kernel_rfl
abbrev zNK:List XO:=[
 ⟨some 2,.a (.alloc [(.slice none 0 0)]),none⟩]
def zNJ:List XO:=zNK
theorem xq104_0e:E3 zNJ zNK:=E3.rfl
abbrev zNP:List XO:=[
 ⟨some 3,.a (.alloc [(.slice none 0 0)]),none⟩]
def zNL:List XO:=zNP
theorem xq104_1e:E3 zNL zNP:=E3.rfl
abbrev zNR:List XO:=[
 ⟨some 6,.p (.mov (T 0)),none⟩,
 ⟨some 7,.call (.func 89) [(T 6),(C (.int .i64 1))],none⟩,
 ⟨some 4,.p (.mov (T 7)),none⟩]
def zNQ:List XO:=zNR
theorem xq104_2e:E3 zNQ zNR:=E3.rfl
abbrev zNT:List XO:=[
 ⟨some 8,.p (.mov (T 4)),none⟩,
 ⟨some 9,.p (.bin .gtr (T 8) (C (.int .u64 0))),none⟩,
 ⟨some 10,.p (.mov (T 9)),none⟩,
 ⟨some 11,.p (.mov (T 0)),some (10,true)⟩,
 ⟨some 12,.call (.func 109) [(T 11)],some (10,true)⟩,
 ⟨some 13,.p (.eql false .int (T 12) (C (.int .i64 0))),some (10,true)⟩,
 ⟨some 14,.p (.pick (T 10) (T 13) (C (.bool false))),none⟩]
def zNS:List XO:=zNT
theorem xq104_3e:E3 zNS zNT:=E3.rfl
abbrev zNV:List XO:=[
 ⟨some 17,.p (.mov (T 0)),none⟩,
 ⟨some 18,.call (.func 89) [(T 17),(C (.int .i64 1))],none⟩,
 ⟨some 19,.p (.cint .i64 (T 18)),none⟩,
 ⟨some 20,.p (.mov (T 0)),none⟩,
 ⟨some 21,.call (.func 90) [(T 20)],none⟩,
 ⟨some 22,.p (.build [(.int .i64 0),(.string (strOf []))] [(0,1,(T 19)),(1,1,(T 21))]),none⟩,
 ⟨some 5,.a (.alloc [(.int .i64 0),(.string (strOf []))]),none⟩,
 ⟨none,.e (.store 2 (T 5) (T 22)),none⟩]
def zNU:List XO:=zNV
theorem xq104_4e:E3 zNU zNV:=E3.rfl
abbrev zNX:List XO:=[
 ⟨some 23,.p (.mov (T 0)),none⟩,
 ⟨some 24,.call (.func 109) [(T 23)],none⟩,
 ⟨some 25,.p (.eql false .int (T 24) (C (.int .i64 0))),none⟩,
 ⟨some 26,.p (.mov (T 25)),none⟩,
 ⟨some 27,.p (.faddr 0 (T 5)),some (26,true)⟩,
 ⟨some 28,.r (.load1 (T 27)),some (26,true)⟩,
 ⟨some 29,.p (.bin .geq (T 28) (C (.int .i64 16))),some (26,true)⟩,
 ⟨some 30,.p (.mov (T 29)),some (26,true)⟩,
 ⟨some 31,.p (.faddr 0 (T 3)),some (30,false)⟩,
 ⟨some 32,.r (.load1 (T 31)),some (30,false)⟩,
 ⟨some 33,.p (.lenV (T 32)),some (30,false)⟩,
 ⟨some 34,.p (.bin .gtr (T 33) (C (.int .i64 0))),some (30,false)⟩,
 ⟨some 35,.p (.mov (T 34)),some (30,false)⟩,
 ⟨some 36,.p (.faddr 0 (T 3)),some (35,true)⟩,
 ⟨some 37,.r (.load1 (T 36)),some (35,true)⟩,
 ⟨some 38,.p (.faddr 0 (T 3)),some (35,true)⟩,
 ⟨some 39,.r (.load1 (T 38)),some (35,true)⟩,
 ⟨some 40,.p (.lenV (T 39)),some (35,true)⟩,
 ⟨some 41,.p (.bin .sub (T 40) (C (.int .i64 1))),some (35,true)⟩,
 ⟨some 42,.p (.iaddrS 2 (T 37) (T 41)),some (35,true)⟩,
 ⟨some 43,.p (.faddr 0 (T 42)),some (35,true)⟩,
 ⟨some 44,.r (.load1 (T 43)),some (35,true)⟩,
 ⟨some 45,.p (.faddr 0 (T 5)),some (35,true)⟩,
 ⟨some 46,.r (.load1 (T 45)),some (35,true)⟩,
 ⟨some 47,.p (.bin .geq (T 44) (T 46)),some (35,true)⟩,
 ⟨some 48,.p (.pick (T 35) (T 47) (C (.bool false))),some (30,false)⟩,
 ⟨some 49,.p (.pick (T 30) (C (.bool true)) (T 48)),some (26,true)⟩,
 ⟨some 50,.p (.pick (T 26) (T 49) (C (.bool false))),none⟩]
def zNW:List XO:=zNX
theorem xq104_5e:E3 zNW zNX:=E3.rfl
abbrev zNZ:List XO:=[
 ⟨some 51,.p (.mov (T 0)),none⟩,
 ⟨some 52,.call (.func 151) [(T 51),(C (.int .i64 6))],none⟩]
def zNY:List XO:=zNZ
theorem xq104_6e:E3 zNY zNZ:=E3.rfl
abbrev zNb:List XO:=[
 ⟨some 53,.p (.faddr 0 (T 3)),none⟩,
 ⟨some 54,.r (.load1 (T 53)),none⟩,
 ⟨some 55,.r (.loadN 2 (T 5)),none⟩,
 ⟨some 56,.a (.bslice [(.int .i64 0),(.string (strOf []))] 1 [(0,2,(T 55))]),none⟩,
 ⟨some 57,.e (.append 2 24 (T 54) (T 56)),none⟩,
 ⟨some 58,.p (.faddr 0 (T 3)),none⟩,
 ⟨none,.e (.store 1 (T 58) (T 57)),none⟩]
def zNa:List XO:=zNb
theorem xq104_7e:E3 zNa zNb:=E3.rfl
abbrev zNd:List XO:=[
 ⟨some 15,.p (.mov (T 4)),none⟩,
 ⟨some 16,.p (.bin .sub (T 15) (C (.int .u64 1))),none⟩,
 ⟨some 4,.p (.mov (T 16)),none⟩]
def zNc:List XO:=zNd
theorem xq104_8e:E3 zNc zNd:=E3.rfl
def zJB:XC :=
 .seq (.seq (.ops zNS) (.cond (T 14) (.skip) (.exit 0))) (.seq (.block 1 (.seq (.ops zNU) (.seq (.seq (.draw zNW []) (.cond (T 50) (.ops zNY) (.skip))) (.ops zNa)))) (.ops zNc))
def zJA:XC:=zJB
theorem xq104_9k {pr:Prog} {k:List KI} {Q:XE→Fr→Heap→Prop} {t:Fr} {h:Heap} (hw:wpk pr zJB k Q t h):wpk pr zJA k Q t h:=hw
abbrev zNM:List XO:=[
 ⟨some 59,.p (.mov (T 0)),none⟩,
 ⟨some 60,.call (.func 109) [(T 59)],none⟩,
 ⟨some 61,.p (.eql true .int (T 60) (C (.int .i64 0))),none⟩]
def zI7:List XO:=zNM
theorem zcR:E3 zI7 zNM:=E3.rfl
abbrev zNN:List XO:=[
 ⟨some 62,.p (.build [(.slice none 0 0)] []),none⟩,
 ⟨none,.e (.store 1 (T 2) (T 62)),none⟩]
def zI8:List XO:=zNN
theorem zcS:E3 zI8 zNN:=E3.rfl
abbrev zNO:List XO:=[
 ⟨some 63,.r (.loadN 1 (T 3)),none⟩,
 ⟨none,.e (.store 1 (T 2) (T 63)),none⟩]
def zI9:List XO:=zNO
theorem zcT:E3 zI9 zNO:=E3.rfl
def xq104:XF:=⟨1,[.cellN 2 1],
 .seq (.ops zNJ) (.seq (.ops zNL) (.seq (.seq (.ops zNQ) (.block 0 (.loop zJA))) (.seq (.seq (.ops zI7) (.cond (T 61) (.seq (.ops zI8) (.ret)) (.skip))) (.seq (.ops zI9) (.ret)))))⟩
def yq104:=PLift.up (And.intro (And.intro (And.intro (@xq104_0e) (And.intro (@xq104_1e) (@xq104_2e))) (And.intro (@xq104_3e) (And.intro (@xq104_4e) (@xq104_5e)))) (And.intro (And.intro (@xq104_6e) (And.intro (@xq104_7e) (@xq104_8e))) (And.intro (@zcR) (And.intro (@zcS) (@zcT)))))
theorem cq104:zX Tryz.prog Tryz.f104=some xq104:=by kernel_rfl
end Go.X
end
section
open Go Go.X
namespace Go.X
set_option linter.unusedVariables false
def zEA:List Value→Option (List Int)
 | []=>some []
 | .int .i64 x::r=>if -9223372036854775808≤x∧x<9223372036854775808 then (match zEA r with|some l=>some (x::l)|none=>none) else none
 | _::_=>none
def zAA (l:List Int):List Value:=l.map fun x=>.int .i64 x
theorem zDy (l:List Int):(zAA l).length=l.length:=by simp[zAA]
theorem zHr:∀ {cs:List Value} {l:List Int},zEA cs=some l→cs=zAA l∧∀x∈l,-9223372036854775808≤x∧x<9223372036854775808
 | [],l,h=>by cases h;exact⟨rfl,by simp⟩
 | c::cs,l,h=>by
  unfold zEA at h
  split at h
  ·rename_i heq;cases heq
  ·rename_i s r heq
   cases heq
   split at h
   ·rename_i hr
    split at h
    ·rename_i q hq
     cases h
     obtain⟨h1,h2⟩:=zHr hq
     refine⟨by rw[h1];rfl,fun x hx=>?_⟩
     rcases List.mem_cons.1 hx with rfl|hx
     ·exact hr
     ·exact h2 x hx
    ·cases h
   ·cases h
  ·cases h
theorem zHq:∀ {l:List Int},(∀x∈l,-9223372036854775808≤x∧x<9223372036854775808)→zEA (zAA l)=some l
 | [],_=>rfl
 | x::l,h=>by
  have:=zHq (l:=l) (fun y hy=>h y (by simp[hy]))
  unfold zAA at this ⊢
  simp only[List.map_cons,zEA,this]
  rw[if_pos (h x (by simp))]
def zAH (h:Heap):Value→Option (List Int)
 | .slice none n _=>if n=0 then some [] else none
 | .slice (some a) n _=>if n=0 then some [] else (match h.loadN a n with|some cs=>zEA cs|none=>none)
 | _=>none
theorem zEu {h h':Heap} (wf:HWF h) (g:Grows h h') {v:Value} {l:List Int} (hs:zAH h v=some l):zAH h' v=some l:=by
 unfold zAH at hs ⊢
 split at hs
 ·exact hs
 ·split at hs
  ·rename_i h0;rw[if_pos h0];exact hs
  ·rename_i h0
   rw[if_neg h0]
   split at hs
   ·rename_i cs hcs;rw[g.loadN wf hcs];exact hs
   ·cases hs
 ·cases hs
theorem zCU {h:Heap} {v:Value} {l:List Int} (hs:zAH h v=some l):(∀x∈l,-9223372036854775808≤x∧x<9223372036854775808)∧∃a cap,v=.slice a l.length cap∧∀i,i<l.length→∃B o,(∀k:IntKind,zBb 1 v (.int k (i:Int))=some (.pointer (some ⟨B,o,none⟩)))∧h.load ⟨B,o,none⟩=some (.int .i64 (l.getD i 0)):=by
 unfold zAH at hs
 split at hs
 ·rename_i n c
  split at hs
  ·rename_i h0
   cases hs
   subst h0
   exact⟨by simp,none,c,rfl,fun i hi=>by simp at hi⟩
  ·cases hs
 ·rename_i a n c
  split at hs
  ·rename_i h0
   cases hs
   subst h0
   exact⟨by simp,some a,c,rfl,fun i hi=>by simp at hi⟩
  ·split at hs
   ·rename_i cs hcs
    obtain⟨rfl,hb⟩:=zHr hs
    have hn:l.length=n:=by
     have:=zF5 hcs
     rw[zDy] at this
     exact this
    subst hn
    refine⟨hb,some a,c,rfl,fun i hi=>⟨a.block,a.off+i,fun k=>zCw hi,zE0 hcs ?_⟩⟩
    simp[zAA,List.getElem?_eq_getElem hi,List.getD_eq_getElem?_getD]
   ·cases hs
 ·cases hs
def zBT (l:List Int) (i:Nat):Bool:=!(decide (l.getD i 0<0)||decide (l.getD i 0≥16)||(decide (0<i)&&decide (l.getD (i - 1) 0≥l.getD i 0)))
def zAt (l:List Int):Bool:=(List.range l.length).all (zBT l)&&decide (1≤l.length)
def zCX:Prim:=fun args h=>match args with
 | [v]=>match zAH h v with|some l=>if l.length≤9223372036854775807 then some (.bool (zAt l),h) else none|none=>none
 | _=>none
theorem zGA {h:Heap} {v:Value} {l:List Int} (hs:zAH h v=some l) (hl:l.length≤9223372036854775807):zCX [v] h=some (.bool (zAt l),h):=by simp only[zCX,hs,if_pos hl]
theorem zH6 {l:List Int} {i:Nat} (hi:i<l.length) (h:zBT l i=false):zAt l=false:=by
 unfold zAt
 rw[Bool.and_eq_false_iff]
 left
 rw[List.all_eq_false]
 exact⟨i,by simpa using hi,by simp[h]⟩
theorem zbM {l:List Int} (h:∀j,j<l.length→zBT l j=true):zAt l=decide (1≤l.length):=by
 unfold zAt
 have:(List.range l.length).all (zBT l)=true:=by
  rw[List.all_eq_true]
  intro j hj
  exact h j (by simpa using hj)
 rw[this,Bool.true_and]
theorem zbN (pr:Prog) (h:Heap) (v:Value) (l:List Int) (hs:zAH h v=some l) (hl:l.length≤9223372036854775807):Comes pr xq56 [v] h (.bool (zAt l)):=by
 apply Comes.of
 unfold xq56
 dsimp only[zY]
 have hr64:zT=140737488355328:=rfl
 obtain⟨hb,a,cap,rfl,hel⟩:=zCU hs
 (repeat (first|refine zS ?_|refine zK ?_|refine zR ?_|refine zD ?_|refine zB ?_|refine zI ?_|refine zJ ?_|refine zP ?_|refine zE ?_|refine zG ?_|refine zF ?_|refine zH (by decide) ?_|refine zQ ?_|((first|refine zC ?_|refine zM ?_|refine zO rfl rfl ?_|refine zN rfl ?_|refine zL ?_);simp only[yq56.down,zA,lemS.down,lemC.down,zdO,zdN,zdL,reduceIte,zdM,zdP,zdQ,zdR,zdS,zdT,zdU,zdV,zdW,reduceCtorEq,lemH.down])))
 refine zAU (fun m t g=>∃i,m=l.length - i∧i≤l.length∧g=h∧(∀j,j<i→zBT l j=true)∧t.get 0=.slice a l.length cap∧t.get 5=.slice a l.length cap∧t.get 6=.int .i64 (l.length:Int)∧t.get 7=.int .i64 (i:Int)) ?_ l.length _ _ ⟨0,rfl,by omega,rfl,by simp,by simp only[yq56.down,zA,lemS.down,lemC.down,zdO,zdN,zdL,reduceIte,zdM,zdP,zdQ,zdR,zdS,zdT,zdU,zdV,zdW,reduceCtorEq],by simp only[yq56.down,zA,lemS.down,lemC.down,zdO,zdN,zdL,reduceIte,zdM,zdP,zdQ,zdR,zdS,zdT,zdU,zdV,zdW,reduceCtorEq],by simp only[yq56.down,zA,lemS.down,lemC.down,zdO,zdN,zdL,reduceIte,zdM,zdP,zdQ,zdR,zdS,zdT,zdU,zdV,zdW,reduceCtorEq],by (simp only[yq56.down,zA,lemS.down,lemC.down,zdO,zdN,zdL,reduceIte,zdM,zdP,zdQ,zdR,zdS,zdT,zdU,zdV,zdW,reduceCtorEq])<;>rfl⟩
 rintro m t g ⟨i,rfl,hi,rfl,hall,t0,t5,t6,t7⟩ hnext
 refine xq56_7k ?_
 dsimp only[zJj]
 (repeat (first|refine zS ?_|refine zK ?_|refine zR ?_|refine zD ?_|refine zB ?_|refine zI ?_|refine zJ ?_|refine zP ?_|refine zE ?_|refine zG ?_|refine zF ?_|refine zH (by decide) ?_|refine zQ ?_|((first|refine zC ?_|refine zM ?_|refine zO rfl rfl ?_|refine zN rfl ?_|refine zL ?_);simp only[yq56.down,zA,lemS.down,lemC.down,zdO,zdN,zdL,reduceIte,zdM,zdP,zdQ,zdR,zdS,zdT,zdU,zdV,zdW,reduceCtorEq,lemH.down,t0,t5,t6,t7])))
 refine⟨fun hlt=>?_,fun hge=>?_⟩
 ·have hi':i<l.length:=by omega
  obtain⟨B,o,ia,ld⟩:=hel i hi'
  have ld:∀sp,g.load ⟨B,o,sp⟩=some (.int .i64 (l.getD i 0)):=fun sp=>ld
  have w1:IntKind.i64.wrap ((i:Int)+1)=((i+1:Nat):Int):=by rw[wrap_i64 (by omega) (by omega)];omega
  have w2:IntKind.i64.wrap ((i:Int) - 1)=(i:Int) - 1:=by rw[wrap_i64 (by omega) (by omega)]
  have fin:=fun (hm:zBT l i=true) (t':Fr) (s0:t'.get 0=.slice a l.length cap) (s5:t'.get 5=.slice a l.length cap) (s6:t'.get 6=.int .i64 (l.length:Int)) (s7:t'.get 7=.int .i64 ((i+1:Nat):Int))=>hnext (l.length - (i+1)) t' g (by omega) ⟨i+1,rfl,by omega,rfl,fun j hj=>by
   rcases Nat.lt_or_ge j i with h|h
   ·exact hall j h
   ·obtain rfl:j=i:=by omega
    exact hm,s0,s5,s6,s7⟩
  by_cases c1:l.getD i 0<0
  ·have d1:decide (l.getD i 0<0)=true:=by simpa using c1
   (repeat (first|refine zS ?_|refine zK ?_|refine zR ?_|refine zD ?_|refine zB ?_|refine zI ?_|refine zJ ?_|refine zP ?_|refine zE ?_|refine zG ?_|refine zF ?_|refine zH (by decide) ?_|refine zQ ?_|((first|refine zC ?_|refine zM ?_|refine zO rfl rfl ?_|refine zN rfl ?_|refine zL ?_);simp only[yq56.down,zA,lemS.down,lemC.down,zdO,zdN,zdL,reduceIte,zdM,zdP,zdQ,zdR,zdS,zdT,zdU,zdV,zdW,reduceCtorEq,lemH.down,t0,t5,t6,t7,zAd,ia,ld,d1,zc])))
   refine⟨.inr rfl,?_,Grows.refl _⟩
   rw[zH6 hi' (by simp only[zBT,d1];rfl)]
   simp only[yq56.down,zA,lemS.down,lemC.down,zdO,zdN,zdL,reduceIte,zdM,zdP,zdQ,zdR,zdS,zdT,zdU,zdV,zdW,reduceCtorEq]
  have d1:decide (l.getD i 0<0)=false:=by simpa using c1
  by_cases c2:l.getD i 0≥16
  ·have d2:decide (l.getD i 0≥16)=true:=by simpa using c2
   (repeat (first|refine zS ?_|refine zK ?_|refine zR ?_|refine zD ?_|refine zB ?_|refine zI ?_|refine zJ ?_|refine zP ?_|refine zE ?_|refine zG ?_|refine zF ?_|refine zH (by decide) ?_|refine zQ ?_|((first|refine zC ?_|refine zM ?_|refine zO rfl rfl ?_|refine zN rfl ?_|refine zL ?_);simp only[yq56.down,zA,lemS.down,lemC.down,zdO,zdN,zdL,reduceIte,zdM,zdP,zdQ,zdR,zdS,zdT,zdU,zdV,zdW,reduceCtorEq,lemH.down,t0,t5,t6,t7,zAd,ia,ld,d1,d2,zc])))
   refine⟨.inr rfl,?_,Grows.refl _⟩
   rw[zH6 hi' (by simp only[zBT,d1,d2];rfl)]
   simp only[yq56.down,zA,lemS.down,lemC.down,zdO,zdN,zdL,reduceIte,zdM,zdP,zdQ,zdR,zdS,zdT,zdU,zdV,zdW,reduceCtorEq]
  have d2:decide (l.getD i 0≥16)=false:=by simp only[ge_iff_le,decide_eq_false_iff_not];exact c2
  by_cases c3:0<i
  ·have d3:decide ((i:Int)>0)=true:=by simp;omega
   have d3':decide (0<i)=true:=by simpa using c3
   obtain⟨B2,o2,ia2,ld2⟩:=hel (i - 1) (by omega)
   have e:((i - 1:Nat):Int)=(i:Int) - 1:=by omega
   rw[e] at ia2
   have ld2:∀sp,g.load ⟨B2,o2,sp⟩=some (.int .i64 (l.getD (i - 1) 0)):=fun sp=>ld2
   cases d4:decide (l.getD (i - 1) 0≥l.getD i 0)
   ·(repeat (first|refine zS ?_|refine zK ?_|refine zR ?_|refine zD ?_|refine zB ?_|refine zI ?_|refine zJ ?_|refine zP ?_|refine zE ?_|refine zG ?_|refine zF ?_|refine zH (by decide) ?_|refine zQ ?_|((first|refine zC ?_|refine zM ?_|refine zO rfl rfl ?_|refine zN rfl ?_|refine zL ?_);simp only[yq56.down,zA,lemS.down,lemC.down,zdO,zdN,zdL,reduceIte,zdM,zdP,zdQ,zdR,zdS,zdT,zdU,zdV,zdW,reduceCtorEq,lemH.down,t0,t5,t6,t7,zAd,ia,ld,d1,d2,d3,w2,ia2,ld2,d4,zc,w1])))
    exact fin (by simp only[zBT,d1,d2,d3',d4];rfl) _ (by simp only[yq56.down,zA,lemS.down,lemC.down,zdO,zdN,zdL,reduceIte,zdM,zdP,zdQ,zdR,zdS,zdT,zdU,zdV,zdW,reduceCtorEq,t0]) (by simp only[yq56.down,zA,lemS.down,lemC.down,zdO,zdN,zdL,reduceIte,zdM,zdP,zdQ,zdR,zdS,zdT,zdU,zdV,zdW,reduceCtorEq,t5]) (by simp only[yq56.down,zA,lemS.down,lemC.down,zdO,zdN,zdL,reduceIte,zdM,zdP,zdQ,zdR,zdS,zdT,zdU,zdV,zdW,reduceCtorEq,t6]) (by simp only[yq56.down,zA,lemS.down,lemC.down,zdO,zdN,zdL,reduceIte,zdM,zdP,zdQ,zdR,zdS,zdT,zdU,zdV,zdW,reduceCtorEq])
   ·(repeat (first|refine zS ?_|refine zK ?_|refine zR ?_|refine zD ?_|refine zB ?_|refine zI ?_|refine zJ ?_|refine zP ?_|refine zE ?_|refine zG ?_|refine zF ?_|refine zH (by decide) ?_|refine zQ ?_|((first|refine zC ?_|refine zM ?_|refine zO rfl rfl ?_|refine zN rfl ?_|refine zL ?_);simp only[yq56.down,zA,lemS.down,lemC.down,zdO,zdN,zdL,reduceIte,zdM,zdP,zdQ,zdR,zdS,zdT,zdU,zdV,zdW,reduceCtorEq,lemH.down,t0,t5,t6,t7,zAd,ia,ld,d1,d2,d3,w2,ia2,ld2,d4,zc])))
    refine⟨.inr rfl,?_,Grows.refl _⟩
    rw[zH6 hi' (by simp only[zBT,d1,d2,d3',d4];rfl)]
    simp only[yq56.down,zA,lemS.down,lemC.down,zdO,zdN,zdL,reduceIte,zdM,zdP,zdQ,zdR,zdS,zdT,zdU,zdV,zdW,reduceCtorEq]
  ·have d3:decide ((i:Int)>0)=false:=by simp;omega
   have d3':decide (0<i)=false:=by simpa using c3
   (repeat (first|refine zS ?_|refine zK ?_|refine zR ?_|refine zD ?_|refine zB ?_|refine zI ?_|refine zJ ?_|refine zP ?_|refine zE ?_|refine zG ?_|refine zF ?_|refine zH (by decide) ?_|refine zQ ?_|((first|refine zC ?_|refine zM ?_|refine zO rfl rfl ?_|refine zN rfl ?_|refine zL ?_);simp only[yq56.down,zA,lemS.down,lemC.down,zdO,zdN,zdL,reduceIte,zdM,zdP,zdQ,zdR,zdS,zdT,zdU,zdV,zdW,reduceCtorEq,lemH.down,t0,t5,t6,t7,zAd,ia,ld,d1,d2,d3,zc,w1])))
   exact fin (by simp only[zBT,d1,d2,d3'];rfl) _ (by simp only[yq56.down,zA,lemS.down,lemC.down,zdO,zdN,zdL,reduceIte,zdM,zdP,zdQ,zdR,zdS,zdT,zdU,zdV,zdW,reduceCtorEq,t0]) (by simp only[yq56.down,zA,lemS.down,lemC.down,zdO,zdN,zdL,reduceIte,zdM,zdP,zdQ,zdR,zdS,zdT,zdU,zdV,zdW,reduceCtorEq,t5]) (by simp only[yq56.down,zA,lemS.down,lemC.down,zdO,zdN,zdL,reduceIte,zdM,zdP,zdQ,zdR,zdS,zdT,zdU,zdV,zdW,reduceCtorEq,t6]) (by simp only[yq56.down,zA,lemS.down,lemC.down,zdO,zdN,zdL,reduceIte,zdM,zdP,zdQ,zdR,zdS,zdT,zdU,zdV,zdW,reduceCtorEq])
 ·obtain rfl:i=l.length:=by omega
  have d5:decide ((l.length:Int)≥1)=decide (1≤l.length):=by rw[Bool.eq_iff_iff];simp;omega
  (repeat (first|refine zS ?_|refine zK ?_|refine zR ?_|refine zD ?_|refine zB ?_|refine zI ?_|refine zJ ?_|refine zP ?_|refine zE ?_|refine zG ?_|refine zF ?_|refine zH (by decide) ?_|refine zQ ?_|((first|refine zC ?_|refine zM ?_|refine zO rfl rfl ?_|refine zN rfl ?_|refine zL ?_);simp only[yq56.down,zA,lemS.down,lemC.down,zdO,zdN,zdL,reduceIte,zdM,zdP,zdQ,zdR,zdS,zdT,zdU,zdV,zdW,reduceCtorEq,lemH.down,t0,t5,t6,t7,d5])))
  refine⟨.inr rfl,?_,Grows.refl _⟩
  rw[zbM hall]
  simp only[yq56.down,zA,lemS.down,lemC.down,zdO,zdN,zdL,reduceIte,zdM,zdP,zdQ,zdR,zdS,zdT,zdU,zdV,zdW,reduceCtorEq]
end Go.X
end
section
open Go Go.X
namespace Go.X
set_option linter.unusedVariables false
structure Hdr where
 n:Nat
 p:List UInt8
 t:List UInt8
 s:List UInt8
 m:List Int
def hcells (x:Hdr) (mv:Value):List Value:=[.int .u64 (x.n:Int),.string (strOf x.p),.string (strOf x.t),.string (strOf x.s),mv]
def HdAt (h:Heap) (x:Hdr) (mv:Value):Prop:=x.n<18446744073709551616∧zAH h mv=some x.m∧x.m.length≤1000000∧x.p.length+10000000≤zT∧x.t.length+10000000≤zT∧x.s.length+10000000≤zT
theorem HdAt.grow {h h':Heap} {x:Hdr} {mv:Value} (hx:HdAt h x mv) (wf:HWF h) (g:Grows h h'):HdAt h' x mv:=⟨hx.1,zEu wf g hx.2.1,hx.2.2⟩
def hdrL (h:Heap):List Value→Option (Hdr×Value)
 | [.int .u64 n,.string p,.string t,.string s,mv]=>match zAH h mv with
  | some m=>if 0≤n∧n<18446744073709551616∧m.length≤1000000∧p.data.toList.length+10000000≤zT∧t.data.toList.length+10000000≤zT∧s.data.toList.length+10000000≤zT then some (⟨n.toNat,p.data.toList,t.data.toList,s.data.toList,m⟩,mv) else none
  | none=>none
 | _=>none
theorem hdrL_eq {h:Heap} {l:List Value} {x:Hdr} {mv:Value} (hl:hdrL h l=some (x,mv)):l=hcells x mv∧HdAt h x mv:=by
 unfold hdrL at hl
 split at hl
 ·rename_i n p t s v
  split at hl
  ·rename_i m hm
   split at hl
   ·rename_i hc
    cases hl
    refine⟨?_,by show n.toNat<_;omega,hm,hc.2.2.1,hc.2.2.2.1,hc.2.2.2.2.1,hc.2.2.2.2.2⟩
    simp only[hcells,strOf_data]
    rw[show ((n.toNat:Nat):Int)=n by omega]
   ·cases hl
  ·cases hl
 ·cases hl
theorem zHl {h:Heap} {x:Hdr} {mv:Value} (hx:HdAt h x mv):hdrL h (hcells x mv)=some (x,mv):=by
 obtain⟨h1,h2,h3,h4,h5,h6⟩:=hx
 simp only[hdrL,hcells,h2,zAx]
 rw[if_pos ⟨by omega,by omega,h3,h4,h5,h6⟩]
 simp
theorem zG3 {h:Heap} {c:Array Value} {x:Hdr} {mv:Value} (hl:hdrL h c.toList=some (x,mv)):Value.agg c=.agg (hcells x mv).toArray∧HdAt h x mv:=by
 obtain⟨h1,h2⟩:=hdrL_eq hl
 exact⟨by rw[←h1],h2⟩
def zAP (x:Hdr):Nat:=if x.n<1∨x.p.length≠32∨x.t.length≠32∨x.s.length≠32∨zAt x.m=false then 80 else 0
def HdW (h:Heap) (x:Hdr) (mv:Value):Prop:=x.n<18446744073709551616∧zAH h mv=some x.m∧x.m.length≤9223372036854775807
theorem HdAt.w {h:Heap} {x:Hdr} {mv:Value} (hx:HdAt h x mv):HdW h x mv:=⟨hx.1,hx.2.1,by have:=hx.2.2.1;omega⟩
theorem HdW.grow {h h':Heap} {x:Hdr} {mv:Value} (hx:HdW h x mv) (wf:HWF h) (g:Grows h h'):HdW h' x mv:=⟨hx.1,zEu wf g hx.2.1,hx.2.2⟩
def hdrW (h:Heap):List Value→Option (Hdr×Value)
 | [.int .u64 n,.string p,.string t,.string s,mv]=>match zAH h mv with
  | some m=>if 0≤n∧n<18446744073709551616∧m.length≤9223372036854775807 then some (⟨n.toNat,p.data.toList,t.data.toList,s.data.toList,m⟩,mv) else none
  | none=>none
 | _=>none
theorem zK5 {h:Heap} {x:Hdr} {mv:Value} (hx:HdW h x mv):hdrW h (hcells x mv)=some (x,mv):=by
 obtain⟨h1,h2,h3⟩:=hx
 simp only[hdrW,hcells,h2,zAx]
 rw[if_pos ⟨by omega,by omega,h3⟩]
 simp
theorem zJ4 {h:Heap} {c:Array Value} {x:Hdr} {mv:Value} (hl:hdrW h c.toList=some (x,mv)):Value.agg c=.agg (hcells x mv).toArray∧HdW h x mv:=by
 have:c.toList=hcells x mv∧HdW h x mv:=by
  unfold hdrW at hl
  split at hl
  ·rename_i e
   rw[e]
   split at hl
   ·rename_i m hm
    split at hl
    ·rename_i hc
     cases hl
     refine⟨?_,⟨by show Int.toNat _<_;omega,hm,hc.2.2⟩⟩
     simp only[hcells,strOf_data]
     rw[Int.toNat_of_nonneg hc.1]
    ·cases hl
   ·cases hl
  ·cases hl
 exact⟨by rw[←this.1],this.2⟩
def zCS:Prim:=fun args h=>match args with
 | [.agg c]=>match hdrW h c.toList with|some (x,_)=>some (.int .i64 (zAP x:Int),h)|none=>none
 | _=>none
theorem zFw {h:Heap} {x:Hdr} {mv:Value} (hx:HdW h x mv):zCS [.agg (hcells x mv).toArray] h=some (.int .i64 (zAP x:Int),h):=by
 simp only[zCS,zK5 hx]
theorem zLS {l:List Int} (h:∀j,j<l.length→zBT l j=true):∀i,i<l.length→(i:Int)≤l.getD i 0∧l.getD i 0<16
 | 0,hi=>by
  have:=h 0 hi
  simp only[zBT,Bool.not_eq_true',Bool.or_eq_false_iff,decide_eq_false_iff_not] at this
  omega
 | i+1,hi=>by
  have a:=zLS h i (by omega)
  have:=h (i+1) hi
  simp only[zBT,Bool.not_eq_true',Bool.or_eq_false_iff,Bool.and_eq_false_iff,decide_eq_false_iff_not,Nat.add_sub_cancel] at this
  omega
theorem zbL {l:List Int} (h:zAt l=true):l.length≤16:=by
 unfold zAt at h
 rw[Bool.and_eq_true,List.all_eq_true] at h
 by_cases h0:l.length=0
 ·omega
 ·have:=zLS (fun j hj=>h.1 j (by simpa using hj)) (l.length - 1) (by omega)
  omega
theorem HdW.small {h:Heap} {x:Hdr} {mv:Value} (hx:HdW h x mv) (he:zAP x=0):HdAt h x mv:=by
 unfold zAP at he
 split at he
 ·cases he
 ·rename_i hc
  have hr64:zT=140737488355328:=rfl
  have hm:zAt x.m=true:=by
   cases q:zAt x.m
   ·exact absurd (.inr (.inr (.inr (.inr q)))) hc
   ·rfl
  have:=zbL hm
  refine⟨hx.1,hx.2.1,by omega,?_,?_,?_⟩<;>omega
theorem zAa {x:Hdr} {mv:Value}:cellsOf (.agg (hcells x mv).toArray)=hcells x mv:=by simp[cellsOf]
theorem zK4 {h:Heap} {x:Hdr} {mv:Value} (hx:HdW h x mv) (wf:HWF h):∃g,h.new (hcells x mv)=g∧Grows h g∧HdW g x mv∧(∀sp,g.loadN ⟨h.next,0,sp⟩ 5=some (hcells x mv))∧(∀sp,g.load ⟨h.next,0,sp⟩=some (.int .u64 (x.n:Int)))∧(∀sp,g.load ⟨h.next,1,sp⟩=some (.string (strOf x.p))) ∧
  (∀sp,g.load ⟨h.next,2,sp⟩=some (.string (strOf x.t)))∧(∀sp,g.load ⟨h.next,3,sp⟩=some (.string (strOf x.s)))∧(∀sp,g.load ⟨h.next,4,sp⟩=some mv):=by
 have hv:Var (h.new (hcells x mv)) h.next (hcells x mv):=Var.new_self
 exact⟨_,rfl,Grows.new,hx.grow wf Grows.new,fun sp=>hv.loadAll rfl,fun sp=>hv.load,fun sp=>hv.load,fun sp=>hv.load,fun sp=>hv.load,fun sp=>hv.load⟩
theorem zHk {h:Heap} {x:Hdr} {mv:Value} (hx:HdAt h x mv) (wf:HWF h):∃g,h.new (hcells x mv)=g∧Grows h g∧HdAt g x mv∧(∀sp,g.loadN ⟨h.next,0,sp⟩ 5=some (hcells x mv))∧(∀sp,g.load ⟨h.next,0,sp⟩=some (.int .u64 (x.n:Int)))∧(∀sp,g.load ⟨h.next,1,sp⟩=some (.string (strOf x.p))) ∧
  (∀sp,g.load ⟨h.next,2,sp⟩=some (.string (strOf x.t)))∧(∀sp,g.load ⟨h.next,3,sp⟩=some (.string (strOf x.s)))∧(∀sp,g.load ⟨h.next,4,sp⟩=some mv):=by
 have hv:Var (h.new (hcells x mv)) h.next (hcells x mv):=Var.new_self
 exact⟨_,rfl,Grows.new,hx.grow wf Grows.new,fun sp=>hv.loadAll rfl,fun sp=>hv.load,fun sp=>hv.load,fun sp=>hv.load,fun sp=>hv.load,fun sp=>hv.load⟩
theorem zax (pr:Prog) (hm:pr.prim 56=some zCX) (h:Heap) (wf:HWF h) (x:Hdr) (mv:Value) (hx:HdW h x mv):Comes pr xq64 [.agg (hcells x mv).toArray] h (.int .i64 (zAP x:Int)):=by
 apply Comes.of
 unfold xq64
 dsimp only[zY]
 have hr64:zT=140737488355328:=rfl
 obtain⟨g,hg,gg,gx,lN,l0,l1,l2,l3,l4⟩:=zK4 hx wf
 have cm:=zAr hm (zGA gx.2.1 gx.2.2)
 have hne:∀ {l:List UInt8},l.length=32→((l.length:Int)==32)=true:=fun {l} h=>by rw[h];rfl
 have hnf:∀ {l:List UInt8},¬l.length=32→((l.length:Int)==32)=false:=fun {l} h=>by rw[beq_eq_false_iff_ne];omega
 unfold zAP
 by_cases c0:x.n<1
 ·have d0:decide ((x.n:Int)<1)=true:=by simp;omega
  rw[if_pos (.inl c0)]
  (repeat (first|refine zS ?_|refine zK ?_|refine zR ?_|refine zD ?_|refine zB ?_|refine zI ?_|refine zJ ?_|refine zP ?_|refine zE ?_|refine zG ?_|refine zF ?_|refine zH (by decide) ?_|refine zQ ?_|((first|refine zC ?_|refine zM ?_|refine zO rfl rfl ?_|refine zN rfl ?_|refine zL ?_);simp only[yq64.down,zA,lemS.down,lemC.down,zdO,zdN,zdL,reduceIte,zdM,zdP,zdQ,zdR,zdS,zdT,zdU,zdV,zdW,reduceCtorEq,lemH.down,zAa,hg,l0,l1,l2,l3,l4,d0,zc])))
  exact⟨.inr rfl,by (simp only[yq64.down,zA,lemS.down,lemC.down,zdO,zdN,zdL,reduceIte,zdM,zdP,zdQ,zdR,zdS,zdT,zdU,zdV,zdW,reduceCtorEq])<;>rfl,gg⟩
 have d0:decide ((x.n:Int)<1)=false:=by simp;omega
 by_cases c1:x.p.length=32
 ·have d1:=hne c1
  by_cases c2:x.t.length=32
  ·have d2:=hne c2
   by_cases c3:x.s.length=32
   ·have d3:=hne c3
    cases c4:zAt x.m
    ·rw[if_pos (.inr (.inr (.inr (.inr rfl))))]
     rw[c4] at cm
     (repeat (first|refine zS ?_|refine zK ?_|refine zR ?_|refine zD ?_|refine zB ?_|refine zI ?_|refine zJ ?_|refine zP ?_|refine zE ?_|refine zG ?_|refine zF ?_|refine zH (by decide) ?_|refine zQ ?_|((first|refine zC ?_|refine zM ?_|refine zO rfl rfl ?_|refine zN rfl ?_|refine zL ?_);simp only[yq64.down,zA,lemS.down,lemC.down,zdO,zdN,zdL,reduceIte,zdM,zdP,zdQ,zdR,zdS,zdT,zdU,zdV,zdW,reduceCtorEq,lemH.down,zAa,hg,l0,l1,l2,l3,l4,d0,d1,d2,d3,cm,zc])))
     exact⟨.inr rfl,by (simp only[yq64.down,zA,lemS.down,lemC.down,zdO,zdN,zdL,reduceIte,zdM,zdP,zdQ,zdR,zdS,zdT,zdU,zdV,zdW,reduceCtorEq])<;>rfl,gg⟩
    ·rw[if_neg (by simp[c0,c1,c2,c3])]
     rw[c4] at cm
     (repeat (first|refine zS ?_|refine zK ?_|refine zR ?_|refine zD ?_|refine zB ?_|refine zI ?_|refine zJ ?_|refine zP ?_|refine zE ?_|refine zG ?_|refine zF ?_|refine zH (by decide) ?_|refine zQ ?_|((first|refine zC ?_|refine zM ?_|refine zO rfl rfl ?_|refine zN rfl ?_|refine zL ?_);simp only[yq64.down,zA,lemS.down,lemC.down,zdO,zdN,zdL,reduceIte,zdM,zdP,zdQ,zdR,zdS,zdT,zdU,zdV,zdW,reduceCtorEq,lemH.down,zAa,hg,l0,l1,l2,l3,l4,d0,d1,d2,d3,cm,zc])))
     exact⟨.inr rfl,by (simp only[yq64.down,zA,lemS.down,lemC.down,zdO,zdN,zdL,reduceIte,zdM,zdP,zdQ,zdR,zdS,zdT,zdU,zdV,zdW,reduceCtorEq])<;>rfl,gg⟩
   ·have d3:=hnf c3
    rw[if_pos (.inr (.inr (.inr (.inl c3))))]
    (repeat (first|refine zS ?_|refine zK ?_|refine zR ?_|refine zD ?_|refine zB ?_|refine zI ?_|refine zJ ?_|refine zP ?_|refine zE ?_|refine zG ?_|refine zF ?_|refine zH (by decide) ?_|refine zQ ?_|((first|refine zC ?_|refine zM ?_|refine zO rfl rfl ?_|refine zN rfl ?_|refine zL ?_);simp only[yq64.down,zA,lemS.down,lemC.down,zdO,zdN,zdL,reduceIte,zdM,zdP,zdQ,zdR,zdS,zdT,zdU,zdV,zdW,reduceCtorEq,lemH.down,zAa,hg,l0,l1,l2,l3,l4,d0,d1,d2,d3,zc])))
    exact⟨.inr rfl,by (simp only[yq64.down,zA,lemS.down,lemC.down,zdO,zdN,zdL,reduceIte,zdM,zdP,zdQ,zdR,zdS,zdT,zdU,zdV,zdW,reduceCtorEq])<;>rfl,gg⟩
  ·have d2:=hnf c2
   rw[if_pos (.inr (.inr (.inl c2)))]
   (repeat (first|refine zS ?_|refine zK ?_|refine zR ?_|refine zD ?_|refine zB ?_|refine zI ?_|refine zJ ?_|refine zP ?_|refine zE ?_|refine zG ?_|refine zF ?_|refine zH (by decide) ?_|refine zQ ?_|((first|refine zC ?_|refine zM ?_|refine zO rfl rfl ?_|refine zN rfl ?_|refine zL ?_);simp only[yq64.down,zA,lemS.down,lemC.down,zdO,zdN,zdL,reduceIte,zdM,zdP,zdQ,zdR,zdS,zdT,zdU,zdV,zdW,reduceCtorEq,lemH.down,zAa,hg,l0,l1,l2,l3,l4,d0,d1,d2,zc])))
   exact⟨.inr rfl,by (simp only[yq64.down,zA,lemS.down,lemC.down,zdO,zdN,zdL,reduceIte,zdM,zdP,zdQ,zdR,zdS,zdT,zdU,zdV,zdW,reduceCtorEq])<;>rfl,gg⟩
 ·have d1:=hnf c1
  rw[if_pos (.inr (.inl c1))]
  (repeat (first|refine zS ?_|refine zK ?_|refine zR ?_|refine zD ?_|refine zB ?_|refine zI ?_|refine zJ ?_|refine zP ?_|refine zE ?_|refine zG ?_|refine zF ?_|refine zH (by decide) ?_|refine zQ ?_|((first|refine zC ?_|refine zM ?_|refine zO rfl rfl ?_|refine zN rfl ?_|refine zL ?_);simp only[yq64.down,zA,lemS.down,lemC.down,zdO,zdN,zdL,reduceIte,zdM,zdP,zdQ,zdR,zdS,zdT,zdU,zdV,zdW,reduceCtorEq,lemH.down,zAa,hg,l0,l1,l2,l3,l4,d0,d1,zc])))
  exact⟨.inr rfl,by (simp only[yq64.down,zA,lemS.down,lemC.down,zdO,zdN,zdL,reduceIte,zdM,zdP,zdQ,zdR,zdS,zdT,zdU,zdV,zdW,reduceCtorEq])<;>rfl,gg⟩
end Go.X
end
section
open Go Go.X
namespace Go.X
set_option linter.unusedVariables false
def w64 (m:Int):Nat:=(m % 18446744073709551616).toNat
theorem w64_lt (m:Int):w64 m<18446744073709551616:=by unfold w64;omega
theorem cint_u64 (m:Int):zAn .u64 (.int .i64 m)=some (uw .u64 (w64 m)):=by
 rw[zA,←zBj (w64_lt m)]
 congr 2
 unfold w64
 have:IntKind.u64.wrap m=m % 18446744073709551616:=by
  simp[IntKind.wrap,IntKind.signed,IntKind.bits]
 rw[this]
 omega
def zCY (l:List Int):List UInt8:=l.flatMap fun m=>numB (w64 m) 1
def zEI (l:List Int):List UInt8:=numB l.length 1++zCY l
theorem zH7 (l:List Int):(zCY l).length=l.length:=by
 induction l with
 | nil=>rfl
 | cons x l ih=>unfold zCY at ih ⊢;simp only[List.flatMap_cons,List.length_append,zBK,ih,List.length_cons];omega
theorem zbO {l:List Int} {i:Nat} (hi:i<l.length):zCY (l.take (i+1))=zCY (l.take i)++numB (w64 (l.getD i 0)) 1:=by
 unfold zCY
 rw[List.take_succ_eq_append_getElem hi,List.flatMap_append,List.flatMap_cons,List.flatMap_nil,List.append_nil]
 simp[List.getD_eq_getElem?_getD,List.getElem?_eq_getElem hi]
structure zGs (pr:Prog):Prop where
 wire:zAL pr
 mem:pr.prim 56=some zCX
 chk:pr.prim 64=some zCS
 pm:pr.prim 77=none
 pmC:pr.code 77=some xq77
 put:pr.prim 115=none
 putC:pr.code 115=some xq115
theorem zJu {pr:Prog} (T:zAL pr) (hp:pr.prim 77=none) (hc:pr.code 77=some xq77) {h0 h:Heap} (hg:Grows h0 h) {W:Nat} {S:Nat→Prop} {b:List UInt8} (hS0:∀A,A<h0.next→¬S A) (hw:WrS h W S b) (hS:∀A,h.next≤A→S A) {mv:Value} {l:List Int} (st:∀h',Grows h0 h'→zAH h' mv=some l) (hl:l.length≤1000000) (hroom:b.length+2000000≤zT) :
  ∃h',cfi pr 77 [.pointer (some ⟨W,0,none⟩),mv] h=some (.tuple #[],h')∧WrS h' W S (b++zEI l)∧Keeps S h h':=by
 have hr64:zT=140737488355328:=rfl
 have hs:=st h0 (Grows.refl h0)
 have:∃v h',cfi pr 77 [.pointer (some ⟨W,0,none⟩),mv] h=some (v,h')∧v=.tuple #[]∧WrS h' W S (b++zEI l)∧Keeps S h h':=by
  refine zq hp hc rfl ?_
  unfold xq77
  dsimp only[zY]
  refine wpk.out (k:=[]) ?_
  obtain⟨hb,a,cap,rfl,_⟩:=zCU hs
  have c0:=zEU (k:=.u64) (k':=.i64) zGk (n:=l.length)
  obtain⟨h1,e1,w1,k1⟩:=zFS T hw hS l.length 1 (by omega) (by decide) (by omega)
  have e1:cfi pr 78 [.pointer (some ⟨W,0,none⟩),uw .u64 l.length,.int .i64 1] h=some (.tuple #[],h1):=e1
  (repeat (first|refine zS ?_|refine zK ?_|refine zR ?_|refine zD ?_|refine zB ?_|refine zI ?_|refine zJ ?_|refine zP ?_|refine zE ?_|refine zG ?_|refine zF ?_|refine zH (by decide) ?_|refine zQ ?_|((first|refine zC ?_|refine zM ?_|refine zO rfl rfl ?_|refine zN rfl ?_|refine zL ?_);simp only[yq77.down,zA,lemS.down,lemC.down,zdO,zdN,zdL,reduceIte,zdM,zdP,zdQ,zdR,zdS,zdT,zdU,zdV,zdW,reduceCtorEq,lemH.down,c0,e1])))
  refine zAU (fun m t g=>∃i,m=l.length - i∧i≤l.length∧WrS g W S (b++numB l.length 1++zCY (l.take i))∧Keeps S h g∧t.get 0=.pointer (some ⟨W,0,none⟩)∧t.get 11=.slice a l.length cap∧t.get 12=.int .i64 (l.length:Int)∧t.get 13=.int .i64 (i:Int)) ?_ l.length _ _ ⟨0,rfl,by omega,by simpa [zCY] using w1,k1,by simp only[yq77.down,zA,lemS.down,lemC.down,zdO,zdN,zdL,reduceIte,zdM,zdP,zdQ,zdR,zdS,zdT,zdU,zdV,zdW,reduceCtorEq],by simp only[yq77.down,zA,lemS.down,lemC.down,zdO,zdN,zdL,reduceIte,zdM,zdP,zdQ,zdR,zdS,zdT,zdU,zdV,zdW,reduceCtorEq],by simp only[yq77.down,zA,lemS.down,lemC.down,zdO,zdN,zdL,reduceIte,zdM,zdP,zdQ,zdR,zdS,zdT,zdU,zdV,zdW,reduceCtorEq],by (simp only[yq77.down,zA,lemS.down,lemC.down,zdO,zdN,zdL,reduceIte,zdM,zdP,zdQ,zdR,zdS,zdT,zdU,zdV,zdW,reduceCtorEq])<;>rfl⟩
  rintro m t g ⟨i,rfl,hi,gw,gk,t0,t11,t12,t13⟩ hnext
  refine xq77_6k ?_
  dsimp only[zJk]
  (repeat (first|refine zS ?_|refine zK ?_|refine zR ?_|refine zD ?_|refine zB ?_|refine zI ?_|refine zJ ?_|refine zP ?_|refine zE ?_|refine zG ?_|refine zF ?_|refine zH (by decide) ?_|refine zQ ?_|((first|refine zC ?_|refine zM ?_|refine zO rfl rfl ?_|refine zN rfl ?_|refine zL ?_);simp only[yq77.down,zA,lemS.down,lemC.down,zdO,zdN,zdL,reduceIte,zdM,zdP,zdQ,zdR,zdS,zdT,zdU,zdV,zdW,reduceCtorEq,lemH.down,t0,t11,t12,t13])))
  refine⟨fun hlt=>?_,fun hge=>?_⟩
  ·have hi':i<l.length:=by omega
   have hgg:Grows h0 g:=hg.then gk hS0
   obtain⟨_,a',cap',ea,hel⟩:=zCU (st _ hgg)
   obtain⟨B,o,ia,ld⟩:=hel i hi'
   have ld:∀sp,g.load ⟨B,o,sp⟩=some (.int .i64 (l.getD i 0)):=fun sp=>ld
   have ww:IntKind.i64.wrap ((i:Int)+1)=((i+1:Nat):Int):=by rw[wrap_i64 (by omega) (by omega)];omega
   have cm:=cint_u64 (l.getD i 0)
   have hlen:(b++numB l.length 1++zCY (l.take i)).length+8≤zT:=by
    simp only[List.length_append,zBK,zH7,List.length_take];omega
   obtain⟨g2,e2,w2,k2⟩:=zFS T gw (fun A hA=>hS A (Nat.le_trans gk.next hA)) (w64 (l.getD i 0)) 1 (w64_lt _) (by decide) hlen
   have e2:cfi pr 78 [.pointer (some ⟨W,0,none⟩),uw .u64 (w64 (l.getD i 0)),.int .i64 1] g=some (.tuple #[],g2):=e2
   (repeat (first|refine zS ?_|refine zK ?_|refine zR ?_|refine zD ?_|refine zB ?_|refine zI ?_|refine zJ ?_|refine zP ?_|refine zE ?_|refine zG ?_|refine zF ?_|refine zH (by decide) ?_|refine zQ ?_|((first|refine zC ?_|refine zM ?_|refine zO rfl rfl ?_|refine zN rfl ?_|refine zL ?_);simp only[yq77.down,zA,lemS.down,lemC.down,zdO,zdN,zdL,reduceIte,zdM,zdP,zdQ,zdR,zdS,zdT,zdU,zdV,zdW,reduceCtorEq,lemH.down,t0,t11,t12,t13,zAd,ia,ld,cm,e2,ww])))
   exact hnext (l.length - (i+1)) _ g2 (by omega) ⟨i+1,rfl,by omega,by rw[zbO hi',←List.append_assoc];exact w2,gk.trans k2 (fun _ _ q=>q),by simp only[yq77.down,zA,lemS.down,lemC.down,zdO,zdN,zdL,reduceIte,zdM,zdP,zdQ,zdR,zdS,zdT,zdU,zdV,zdW,reduceCtorEq,t0],by simp only[yq77.down,zA,lemS.down,lemC.down,zdO,zdN,zdL,reduceIte,zdM,zdP,zdQ,zdR,zdS,zdT,zdU,zdV,zdW,reduceCtorEq,t11],by simp only[yq77.down,zA,lemS.down,lemC.down,zdO,zdN,zdL,reduceIte,zdM,zdP,zdQ,zdR,zdS,zdT,zdU,zdV,zdW,reduceCtorEq,t12],by simp only[yq77.down,zA,lemS.down,lemC.down,zdO,zdN,zdL,reduceIte,zdM,zdP,zdQ,zdR,zdS,zdT,zdU,zdV,zdW,reduceCtorEq]⟩
  ·obtain rfl:i=l.length:=by omega
   (repeat (first|refine zS ?_|refine zK ?_|refine zR ?_|refine zD ?_|refine zB ?_|refine zI ?_|refine zJ ?_|refine zP ?_|refine zE ?_|refine zG ?_|refine zF ?_|refine zH (by decide) ?_|refine zQ ?_|((first|refine zC ?_|refine zM ?_|refine zO rfl rfl ?_|refine zN rfl ?_|refine zL ?_);simp only[yq77.down,zA,lemS.down,lemC.down,zdO,zdN,zdL,reduceIte,zdM,zdP,zdQ,zdR,zdS,zdT,zdU,zdV,zdW,reduceCtorEq,lemH.down,t0,t11,t12,t13])))
   refine⟨.inl rfl,_,rfl,rfl,?_,gk⟩
   rw[List.take_length,List.append_assoc] at gw
   exact gw
 obtain⟨v,h',e,rfl,r⟩:=this
 exact⟨h',e,r⟩
def zCt (x:Hdr):List UInt8:=numB x.n 8++zBs x.p++zBs x.t++zBs x.s++zEI x.m
theorem zaw (x:Hdr):(zCt x).length=105+x.m.length:=by simp[zCt,zEI,zBK,zD7,zH7];omega
theorem PutS {pr:Prog} (T:zGs pr) {h0 h:Heap} (hg:Grows h0 h) {W:Nat} {S:Nat→Prop} {b:List UInt8} (hS0:∀A,A<h0.next→¬S A) (hw:WrS h W S b) (hS:∀A,h.next≤A→S A) {x:Hdr} {mv:Value} (hx:HdAt h0 x mv) (sti:∀h',Grows h0 h'→zAH h' mv=some x.m) (hroom:b.length+3000000≤zT) :
  ∃h',cfi pr 115 [.pointer (some ⟨W,0,none⟩),.agg (hcells x mv).toArray] h=some (.tuple #[],h')∧WrS h' W S (b++zCt x)∧Keeps S h h':=by
 have hr64:zT=140737488355328:=rfl
 have:∃v h',cfi pr 115 [.pointer (some ⟨W,0,none⟩),.agg (hcells x mv).toArray] h=some (v,h')∧v=.tuple #[]∧WrS h' W S (b++zCt x)∧Keeps S h h':=by
  refine zq T.put T.putC rfl ?_
  unfold xq115
  dsimp only[zY]
  refine wpk.out (k:=[]) ?_
  obtain⟨hx1,hx2,hx3,hx4,hx5,hx6⟩:=hx
  have hWlt:W<h.next:=by obtain⟨_,v,h2,_⟩:=hw;exact h2.1
  obtain⟨g,hgn,v0,gg⟩:∃g,h.new (hcells x mv)=g∧Var g h.next (hcells x mv)∧Grows h g:=⟨_,rfl,Var.new_self,Grows.new⟩
  have gnx:g.next=h.next+1:=by rw[←hgn];rfl
  have w0:WrS g W (fun A=>S A∧A≠h.next) b:=(hw.mono fun A h1 h2=>⟨h2,by omega⟩).grow gg
  have hS':∀A,g.next≤A→S A∧A≠h.next:=fun A hA=>⟨hS A (by omega),by omega⟩
  have hS0':∀A,A<h0.next→¬(S A∧A≠h.next):=fun A hA q=>hS0 A hA q.1
  have hnk:¬(S h.next∧h.next≠h.next):=fun q=>q.2 rfl
  have la:∀sp,g.load ⟨h.next,0,sp⟩=some (.int .u64 (x.n:Int)):=fun sp=>v0.load
  obtain⟨g1,e1,w1,k1⟩:=zFS T.wire w0 hS' x.n 8 hx1 (by decide) (by omega)
  rw[←zBj hx1] at e1
  have e1:cfi pr 78 [.pointer (some ⟨W,0,none⟩),.int .u64 (x.n:Int),.int .i64 8] g=some (.tuple #[],g1):=e1
  have v1:=v0.keep k1 hnk
  have lb:∀sp,g1.load ⟨h.next,1,sp⟩=some (.string (strOf x.p)):=fun sp=>v1.load
  obtain⟨g2,e2,w2,k2⟩:=zGz T.wire w1 (fun A hA=>hS' A (Nat.le_trans k1.next hA)) x.p (by simp only[List.length_append,zBK];omega)
  have k2':=k1.trans k2 (fun _ _ q=>q)
  have v2:=v0.keep k2' hnk
  have lc:∀sp,g2.load ⟨h.next,2,sp⟩=some (.string (strOf x.t)):=fun sp=>v2.load
  obtain⟨g3,e3,w3,k3⟩:=zGz T.wire w2 (fun A hA=>hS' A (Nat.le_trans k2'.next hA)) x.t (by simp only[List.length_append,zBK,zD7];omega)
  have k3':=k2'.trans k3 (fun _ _ q=>q)
  have v3:=v0.keep k3' hnk
  have ld:∀sp,g3.load ⟨h.next,3,sp⟩=some (.string (strOf x.s)):=fun sp=>v3.load
  obtain⟨g4,e4,w4,k4⟩:=zGz T.wire w3 (fun A hA=>hS' A (Nat.le_trans k3'.next hA)) x.s (by simp only[List.length_append,zBK,zD7];omega)
  have k4':=k3'.trans k4 (fun _ _ q=>q)
  have v4:=v0.keep k4' hnk
  have le:∀sp,g4.load ⟨h.next,4,sp⟩=some mv:=fun sp=>v4.load
  obtain⟨g5,e5,w5,k5⟩:=zJu T.wire T.pm T.pmC ((hg.trans gg).then k4' hS0') hS0' w4 (fun A hA=>hS' A (Nat.le_trans k4'.next hA)) sti hx3 (by simp only[List.length_append,zBK,zD7];omega)
  have k5':=k4'.trans k5 (fun _ _ q=>q)
  (repeat (first|refine zS ?_|refine zK ?_|refine zR ?_|refine zD ?_|refine zB ?_|refine zI ?_|refine zJ ?_|refine zP ?_|refine zE ?_|refine zG ?_|refine zF ?_|refine zH (by decide) ?_|refine zQ ?_|((first|refine zC ?_|refine zM ?_|refine zO rfl rfl ?_|refine zN rfl ?_|refine zL ?_);simp only[yq115.down,zA,lemS.down,lemC.down,zdO,zdN,zdL,reduceIte,zdM,zdP,zdQ,zdR,zdS,zdT,zdU,zdV,zdW,reduceCtorEq,lemH.down,zAa,hgn,la,e1,lb,e2,lc,e3,ld,e4,le,e5])))
  refine⟨.inl rfl,_,rfl,rfl,?_,?_⟩
  ·have:=w5.mono (S':=S) (fun A _ q=>q.1)
   simp only[List.append_assoc] at this
   unfold zCt
   simp only[List.append_assoc]
   exact this
  ·exact Keeps.trans (gg.keeps) (k5'.mono fun A _ q=>q.1) (fun _ _ q=>q)
 obtain⟨v,h',e,rfl,r⟩:=this
 exact⟨h',e,r⟩
def zCs (x:Hdr):List UInt8:=tagged 72 [zCt x]
theorem zIG {h:Heap} {a:List UInt8}:zBO (h.new [.string (strOf a)]) (.slice (some ⟨h.next,0,none⟩) 1 1)=some [a]:=by
 have hO:=Own.newSlice (h:=h) (l:=zAJ [a]) (n:=1) (esz:=1) (sp:=none) rfl (.inl rfl)
 exact hO.strs
theorem zHd {a:List UInt8}:z8 [.string (strOf [])] [(0,1,.string (strOf a))]=some [.string (strOf a)]:=rfl
def zEr:Prim:=fun args h=>match args with
 | [.agg c]=>match hdrL h c.toList with|some (x,_)=>some (.string (strOf (zCs x)),h)|none=>none
 | _=>none
theorem zay {h:Heap} {x:Hdr} {mv:Value} (hx:HdAt h x mv):zEr [.agg (hcells x mv).toArray] h=some (.string (strOf (zCs x)),h):=by
 simp only[zEr,zHl hx]
theorem zaz (pr:Prog) (T:zGs pr) (ht:pr.prim 160=some zBn) (h:Heap) (wf:HWF h) (x:Hdr) (mv:Value) (hx:HdAt h x mv):Comes pr xq102 [.agg (hcells x mv).toArray] h (.string (strOf (zCs x))):=by
 apply Comes.of
 unfold xq102
 dsimp only[zY]
 have hr64:zT=140737488355328:=rfl
 obtain⟨g,hg,gg,gx,lN,_⟩:=zHk hx wf
 have gnx:g.next=h.next+1:=by rw[←hg];rfl
 obtain⟨g1,e1,w1,k1⟩:=zJs T.wire g
 have lN1:∀sp,g1.loadN ⟨h.next,0,sp⟩ 5=some (hcells x mv):=fun sp=>by
  have hv:Var g h.next (hcells x mv):=by rw[←hg];exact Var.new_self
  exact (hv.grow k1).loadAll rfl
 obtain⟨g2,e2,w2,k2⟩:=PutS T (gg.trans k1) (S:=fun A=>g.next≤A) (fun A hA q=>by omega) w1 (fun A hA=>by have:=k1.next;show g.next≤A;omega) hx (fun h' q=>zEu wf q hx.2.1) (by simp;omega)
 rw[List.nil_append] at w2
 have e3:=zJy T.wire (N:=g.next) w2
 have hl:=zaw x
 have hx3:=hx.2.2.1
 have tg:=zAr ht (zGg (p:=72) (zIG (h:=g2) (a:=zCt x)) (by decide) (by simp[zAe,zDa,zBD];omega))
 have tg:cfi pr 160 [.int .u8 72,.slice (some ⟨g2.next,0,none⟩) 1 1] (g2.new [.string (strOf (zCt x))])=some (.string (strOf (zCs x)),_):=tg
 (repeat (first|refine zS ?_|refine zK ?_|refine zR ?_|refine zD ?_|refine zB ?_|refine zI ?_|refine zJ ?_|refine zP ?_|refine zE ?_|refine zG ?_|refine zF ?_|refine zH (by decide) ?_|refine zQ ?_|((first|refine zC ?_|refine zM ?_|refine zO rfl rfl ?_|refine zN rfl ?_|refine zL ?_);simp only[yq102.down,zA,lemS.down,lemC.down,zdO,zdN,zdL,reduceIte,zdM,zdP,zdQ,zdR,zdS,zdT,zdU,zdV,zdW,reduceCtorEq,lemH.down,zAa,hg,e1,lN1,e2,e3,zHd,tg])))
 exact⟨.inr rfl,by simp only[yq102.down,zA,lemS.down,lemC.down,zdO,zdN,zdL,reduceIte,zdM,zdP,zdQ,zdR,zdS,zdT,zdU,zdV,zdW,reduceCtorEq],((gg.trans k1).then k2 (fun A hA=>by omega)).trans Grows.new⟩
end Go.X
end
section
open Go Go.X
namespace Go.X
set_option linter.unusedVariables false
abbrev TagL:=List (Int×List UInt8)
def zw (l:TagL):List Value:=l.flatMap fun q=>[.int .i64 q.1,.string (strOf q.2)]
theorem zDz (l:TagL):(zw l).length=l.length*2:=by
 induction l with
 | nil=>rfl
 | cons x l ih=>unfold zw at ih ⊢;simp only[List.flatMap_cons,List.length_append,ih,List.length_cons,List.length_nil];omega
theorem zKW (l m:TagL):zw (l++m)=zw l++zw m:=by simp[zw]
theorem zaB (l:TagL) (i:Nat):(zw l).drop (i*2)=zw (l.drop i):=by
 induction l generalizing i with
 | nil=>simp[zw]
 | cons x l ih =>
  cases i with
  | zero=>simp[zw]
  | succ i =>
   have:=ih i
   unfold zw at this ⊢
   rw[show (i+1)*2=i*2+2 by omega]
   simp only[List.drop_succ_cons,List.flatMap_cons,List.cons_append,List.nil_append]
   rw[this]
abbrev inI (x:Int):Prop:=-9223372036854775808≤x∧x<9223372036854775808
def zDj:List Value→Option TagL
 | []=>some []
 | .int .i64 x::.string s::r=>if inI x then (match zDj r with|some l=>some ((x,s.data.toList)::l)|none=>none) else none
 | _::_=>none
theorem zMg:∀ {cs:List Value} {l:TagL},zDj cs=some l→cs=zw l∧∀q∈l,inI q.1
 | [],l,h=>by cases h;exact⟨rfl,by simp⟩
 | [c],l,h=>by simp[zDj] at h
 | c::d::cs,l,h=>by
  unfold zDj at h
  split at h
  ·rename_i heq;cases heq
  ·rename_i x s r heq
   cases heq
   split at h
   ·rename_i hr
    split at h
    ·rename_i q hq
     cases h
     obtain⟨h1,h2⟩:=zMg hq
     refine⟨by rw[h1];simp[zw,strOf_data],fun y hy=>?_⟩
     rcases List.mem_cons.1 hy with rfl|hy
     ·exact hr
     ·exact h2 y hy
    ·cases h
   ·cases h
  ·cases h
theorem zIj:∀ {l:TagL},(∀q∈l,inI q.1)→zDj (zw l)=some l
 | [],_=>rfl
 | x::l,h=>by
  have:=zIj (l:=l) (fun y hy=>h y (by simp[hy]))
  unfold zw at this ⊢
  simp only[List.flatMap_cons,List.cons_append,List.nil_append,zDj,this,zAx]
  rw[if_pos (h x (by simp))]
def zBP (h:Heap):Value→Option TagL
 | .slice none n _=>if n=0 then some [] else none
 | .slice (some a) n _=>if n=0 then some [] else (match h.loadN a (n*2) with|some cs=>zDj cs|none=>none)
 | _=>none
theorem zIm {h h':Heap} (wf:HWF h) (g:Grows h h') {v:Value} {l:TagL} (hs:zBP h v=some l):zBP h' v=some l:=by
 unfold zBP at hs ⊢
 split at hs
 ·exact hs
 ·split at hs
  ·rename_i h0;rw[if_pos h0];exact hs
  ·rename_i h0
   rw[if_neg h0]
   split at hs
   ·rename_i cs hcs;rw[g.loadN wf hcs];exact hs
   ·cases hs
 ·cases hs
theorem zDk {h:Heap} {v:Value} {l:TagL} (hs:zBP h v=some l):(∀q∈l,inI q.1)∧∃a cap,v=.slice a l.length cap∧∀i,i<l.length→∃B o,(∀k:IntKind,zBb 2 v (.int k (i:Int))=some (.pointer (some ⟨B,o,none⟩)))∧(∀sp,h.loadN ⟨B,o,sp⟩ 2=some [.int .i64 (l.getD i (0,[])).1,.string (strOf (l.getD i (0,[])).2)])∧(∀sp,h.load ⟨B,o,sp⟩=some (.int .i64 (l.getD i (0,[])).1))∧(∀sp,h.load ⟨B,o+1,sp⟩=some (.string (strOf (l.getD i (0,[])).2))):=by
 unfold zBP at hs
 split at hs
 ·rename_i n c
  split at hs
  ·rename_i h0
   cases hs
   subst h0
   exact⟨by simp,none,c,rfl,fun i hi=>by simp at hi⟩
  ·cases hs
 ·rename_i a n c
  split at hs
  ·rename_i h0
   cases hs
   subst h0
   exact⟨by simp,some a,c,rfl,fun i hi=>by simp at hi⟩
  ·split at hs
   ·rename_i cs hcs
    obtain⟨rfl,hb⟩:=zMg hs
    have hn:l.length=n:=by
     have:=zF5 hcs
     rw[zDz] at this
     omega
    subst hn
    have hp:∀i,i<l.length→((zw l).drop (i*2)).take 2=[.int .i64 (l.getD i (0,[])).1,.string (strOf (l.getD i (0,[])).2)]:=fun i hi=>by
     rw[zaB,List.drop_eq_getElem_cons hi,List.getD_eq_getElem?_getD,List.getElem?_eq_getElem hi,Option.getD_some]
     rfl
    have hg:∀i,i<l.length→∀j,j<2→(zw l)[i*2+j]?=[Value.int .i64 (l.getD i (0,[])).1,.string (strOf (l.getD i (0,[])).2)][j]?:=fun i hi j hj=>by
     rw[←hp i hi,List.getElem?_take,if_pos hj,List.getElem?_drop]
    refine⟨hb,some a,c,rfl,fun i hi=>⟨a.block,a.off+i*2,fun k=>zK6 hi,fun sp=>?_,fun sp=>zE0 hcs (by have:=hg i hi 0 (by decide);simpa using this),fun sp=>?_⟩⟩
    ·rw[zF6 hcs (by omega),hp i hi]
    ·have:=zE0 hcs (i:=i*2+1) (sp:=sp) (by have:=hg i hi 1 (by decide);simpa using this)
     rw[←Nat.add_assoc] at this
     exact this
   ·cases hs
 ·cases hs
theorem Own.tags {h:Heap} {S:Nat→Prop} {v:Value} {n:Nat} {l:TagL} (ho:Own h S 2 v n (zw l)) (hb:∀q∈l,inI q.1):zBP h v=some l:=by
 obtain⟨a,cap,rfl,hs⟩:=ho.shape
 by_cases h0:n=0
 ·subst h0
  have:=ho.nil_of
  obtain rfl:l=[]:=by cases l with|nil=>rfl|cons x l=>simp[zw] at this
  cases a<;>simp[zBP]
 ·obtain⟨B,off,sp,rfl,h1,_⟩:=hs h0
  simp only[zBP]
  rw[if_neg h0]
  simp only[h1,zIj hb]
theorem zIn {h:Heap} {v:Value} {l:TagL} (hs:zBP h v=some l):cellsOf v=[v]∧oneC v=true:=by
 obtain⟨_,a,cap,rfl,_⟩:=zDk hs
 exact⟨rfl,rfl⟩
theorem zB8 {v:Value}:cellsOf (.agg [v].toArray)=[v]:=rfl
def RdTags (h:Heap) (v:Value) (l:TagL):Prop:=∀h',Grows h h'→zBP h' v=some l
theorem RdTags.grow {h h':Heap} {v:Value} {l:TagL} (hr:RdTags h v l) (g:Grows h h'):RdTags h' v l:=fun h2 g2=>hr h2 (g.trans g2)
theorem RdTags.now {h:Heap} {v:Value} {l:TagL} (hr:RdTags h v l):zBP h v=some l:=hr h (Grows.refl h)
theorem Own.rdTags {h:Heap} {S:Nat→Prop} {v:Value} {n:Nat} {l:TagL} (ho:Own h S 2 v n (zw l)) (hb:∀q∈l,inI q.1):RdTags h v l:=fun _ g=>(ho.grow g).tags hb
theorem Own.pushTag {g:Heap} {S:Nat→Prop} {v:Value} {n:Nat} {q:TagL} (hO:Own g S 2 v n (zw q)) (x:Int×List UInt8) (hroom:(n+1)*24≤zT) :
  ∃v' g',zAi (g.new [.int .i64 x.1,.string (strOf x.2)]) 2 24 v (.slice (some ⟨g.next,0,none⟩) 1 1)=some (v',g')∧Own g' (fun A=>S A∨g.next≤A) 2 v' (n+1) (zw (q++[x]))∧Keeps S g g':=by
 have hO1:=hO.grow (Grows.new (l:=[.int .i64 x.1,.string (strOf x.2)]))
 have hs1:=(Var.new_self (h:=g) (l:=[.int .i64 x.1,.string (strOf x.2)])).src (n:=1) (esz:=2) (bytes:=24) (s:=v) (sp:=none) (c:=1) rfl (by decide)
 obtain⟨v',g2,e2,hO2,k2⟩:=hO1.append (bytes:=24) (m:=1) (new:=[.int .i64 x.1,.string (strOf x.2)]) rfl rfl (by decide) (by decide) hroom
 have hk:Keeps S g g2:=(Keeps.new (W:=S)).trans k2 (fun _ _ e=>e)
 refine⟨v',g2,by rw[hs1,e2],?_,hk⟩
 have e:zw q++[.int .i64 x.1,.string (strOf x.2)]=zw (q++[x]):=by rw[zKW];rfl
 rw[e] at hO2
 exact hO2.mono fun A hA=>hA.imp id fun q=>by
  have:(g.new [.int .i64 x.1,.string (strOf x.2)]).next=g.next+1:=rfl
  omega
theorem RdTags.elim {h:Heap} {v:Value} {l:TagL} (hr:RdTags h v l) {i:Nat} (hi:i<l.length):∃B o,(∀k:IntKind,zBb 2 v (.int k (i:Int))=some (.pointer (some ⟨B,o,none⟩)))∧∀h',Grows h h'→(∀sp,h'.loadN ⟨B,o,sp⟩ 2=some [.int .i64 (l.getD i (0,[])).1,.string (strOf (l.getD i (0,[])).2)])∧(∀sp,h'.load ⟨B,o,sp⟩=some (.int .i64 (l.getD i (0,[])).1))∧(∀sp,h'.load ⟨B,o+1,sp⟩=some (.string (strOf (l.getD i (0,[])).2))):=by
 obtain⟨hb,a,cap,rfl,hel⟩:=zDk hr.now
 obtain⟨B,o,ia,_⟩:=hel i hi
 refine⟨B,o,ia,fun h' g=>?_⟩
 obtain⟨_,a',cap',e,hel'⟩:=zDk (hr h' g)
 cases e
 obtain⟨B',o',ia',ld'⟩:=hel' i hi
 have:=(ia .i64).symm.trans (ia' .i64)
 simp only[Option.some.injEq,Value.pointer.injEq,Addr.mk.injEq,and_true] at this
 obtain⟨rfl,rfl⟩:=this
 exact ld'
abbrev tagV (r:Int) (t:List UInt8):Value:=.agg #[.int .i64 r,.string (strOf t)]
theorem tag_var {g:Heap} {r:Int} {t:List UInt8}:∃g1 g2,g.new [.int .i64 0,.string (strOf [])]=g1∧zj g1 2 (.pointer (some ⟨g.next,0,none⟩)) (tagV r t)=some (.tuple #[],g2)∧Var g2 g.next [.int .i64 r,.string (strOf t)]∧Grows g g2∧g2.next=g.next+1:=by
 have v0:Var (g.new [.int .i64 0,.string (strOf [])]) g.next [.int .i64 0,.string (strOf [])]:=Var.new_self
 exact⟨_,_,rfl,v0.storeAll rfl rfl (by decide) rfl,v0.wr,Grows.new.wr (Nat.le_refl _),rfl⟩
end Go.X
end
section
open Go Go.X
namespace Go.X
set_option linter.unusedVariables false
end Go.X
end
section
open Go Go.X
namespace Go.X
set_option linter.unusedVariables false
def tagR (r:RS):RS×(Int×List UInt8):=((zZ (zU r 1).1 32).1,(((zU r 1).2:Int),(zZ (zU r 1).1 32).2))
def lastT (acc:TagL):Int:=(acc.getD (acc.length - 1) (0,[])).1
def badT (acc:TagL) (t:Int×List UInt8):Bool:=decide (t.1≥16)||(decide (0<acc.length)&&decide (lastT acc≥t.1))
def zC3 (r:RS) (acc:TagL):RS:=if (tagR r).1.err=0∧badT acc (tagR r).2=true then ⟨(tagR r).1.s,(tagR r).1.pos,6⟩ else (tagR r).1
def zC0:Nat→RS→TagL→RS×TagL
 | 0,r,acc=>(r,acc)
 | n+1,r,acc=>if r.err=0 then zC0 n (zC3 r acc) (acc++[(tagR r).2]) else (r,acc)
def doneR (p:RS×TagL):RS×TagL:=(p.1,if p.1.err=0 then p.2 else [])
def zAB (r:RS):RS×TagL:=doneR (zC0 (zU r 1).2 (zU r 1).1 [])
theorem zC4 (r:RS):(zU r 1).2<256:=zEJ r (by decide)
theorem zcG (r:RS):0≤(tagR r).2.1∧(tagR r).2.1<256:=by
 have:=zC4 r
 show (0:Int)≤((zU r 1).2:Int)∧((zU r 1).2:Int)<256
 omega
end Go.X
end
section
open Go Go.X
namespace Go.X
set_option linter.unusedVariables false
structure zGx (pr:Prog):Prop where
 wire:zAL pr
 take:pr.prim 104=none
 takeC:pr.code 104=some xq104
theorem zJx {pr:Prog} (T:zGx pr) {h:Heap} {R:Nat} {r:RS} (hr:Rd h R r) :
  ∃v' h',cfi pr 104 [.pointer (some ⟨R,0,none⟩)] h=some (.agg [v'].toArray,h')∧Rd h' R (zAB r).1∧Own h' (fun A=>h.next≤A) 2 v' (zAB r).2.length (zw (zAB r).2)∧(∀q∈(zAB r).2,inI q.1)∧Keeps (fun A=>A=R) h h':=by
 have hr64:zT=140737488355328:=rfl
 have:∃w h',cfi pr 104 [.pointer (some ⟨R,0,none⟩)] h=some (w,h')∧∃v',w=.agg [v'].toArray∧Rd h' R (zAB r).1∧Own h' (fun A=>h.next≤A) 2 v' (zAB r).2.length (zw (zAB r).2)∧(∀q∈(zAB r).2,inI q.1)∧Keeps (fun A=>A=R) h h':=by
  refine zq T.take T.takeC rfl ?_
  unfold xq104
  dsimp only[zY]
  refine wpk.out (k:=[]) ?_
  have hR:R<h.next:=hr.2.1
  obtain⟨ga,hga,va,gga,gna⟩:=box1 (h:=h) (v:=.slice none 0 0) rfl
  obtain⟨gb,hgb,vb,ggb,gnb⟩:=box1 (h:=ga) (v:=.slice none 0 0) rfl
  rw[gna] at vb
  have va1:=va.grow ggb
  obtain⟨gc,ec,rdc,kc⟩:=zB4 T.wire (hr.grow (gga.trans ggb)) 1 (by decide)
  have hn0:=zC4 r
  have eu:uw .u64 (zU r 1).2=.int .u64 ((zU r 1).2:Int):=(zBj (by omega)).symm
  rw[eu] at ec
  have ec:cfi pr 89 [.pointer (some ⟨R,0,none⟩),.int .i64 1] gb=some (.int .u64 ((zU r 1).2:Int),gc):=ec
  (repeat (first|refine zS ?_|refine zK ?_|refine zR ?_|refine zD ?_|refine zB ?_|refine zI ?_|refine zJ ?_|refine zP ?_|refine zE ?_|refine zG ?_|refine zF ?_|refine zH (by decide) ?_|refine zQ ?_|((first|refine zC ?_|refine zM ?_|refine zO rfl rfl ?_|refine zN rfl ?_|refine zL ?_);simp only[yq104.down,zA,lemS.down,lemC.down,zdO,zdN,zdL,reduceIte,zdM,zdP,zdQ,zdR,zdS,zdT,zdU,zdV,zdW,reduceCtorEq,lemH.down,hga,gna,hgb,ec])))
  have va2:=va1.keep kc (fun q=>by omega)
  have vb2:=vb.keep kc (fun q=>by omega)
  have kkc:Keeps (fun A=>A=R) h gc:=(gga.trans ggb).keeps.trans kc (fun _ _ q=>q)
  have ntc:=kc.next
  refine zAU (fun m t g=>∃r2 acc v,m+acc.length≤256∧zC0 m r2 acc=zC0 (zU r 1).2 (zU r 1).1 []∧Rd g R r2∧Own g (fun A=>h.next+2≤A) 2 v acc.length (zw acc)∧(∀q∈acc,inI q.1)∧Var g h.next [.slice none 0 0]∧Var g (h.next+1) [v]∧Keeps (fun A=>A=R) h g∧h.next+2≤g.next∧t.get 0=.pointer (some ⟨R,0,none⟩)∧t.get 2=.pointer (some ⟨h.next,0,none⟩)∧t.get 3=.pointer (some ⟨h.next+1,0,none⟩)∧t.get 4=.int .u64 (m:Int)) ?_ (zU r 1).2 _ _
   ⟨_,[],_,by simp;omega,rfl,rdc,Own.nil,by simp,va2,vb2,kkc,by omega,by simp only[yq104.down,zA,lemS.down,lemC.down,zdO,zdN,zdL,reduceIte,zdM,zdP,zdQ,zdR,zdS,zdT,zdU,zdV,zdW,reduceCtorEq],by simp only[yq104.down,zA,lemS.down,lemC.down,zdO,zdN,zdL,reduceIte,zdM,zdP,zdQ,zdR,zdS,zdT,zdU,zdV,zdW,reduceCtorEq],by simp only[yq104.down,zA,lemS.down,lemC.down,zdO,zdN,zdL,reduceIte,zdM,zdP,zdQ,zdR,zdS,zdT,zdU,zdV,zdW,reduceCtorEq],by simp only[yq104.down,zA,lemS.down,lemC.down,zdO,zdN,zdL,reduceIte,zdM,zdP,zdQ,zdR,zdS,zdT,zdU,zdV,zdW,reduceCtorEq]⟩
  rintro m t g ⟨r2,acc,v,hm,hL,rd,oc,hin,va,vb,kk,gn,t0,t2,t3,t4⟩ hnext
  refine xq104_9k ?_
  dsimp only[zJB]
  have er:=zAW T.wire rd
  obtain⟨av,cv,rfl,_⟩:=oc.shape
  cases m with
  | zero =>
   by_cases c0:r2.err=0
   ·have b0:((r2.err:Int)==0)=true:=by rw[c0];rfl
    have l3:∀sp,g.loadN ⟨h.next+1,0,sp⟩ 1=some [.slice av acc.length cv]:=fun sp=>vb.loadAll rfl
    have st:zj g 1 (.pointer (some ⟨h.next,0,none⟩)) (.agg [.slice av acc.length cv].toArray)=some (.tuple #[],g.wr h.next [.slice av acc.length cv]):=va.storeAll rfl rfl (by decide) rfl
    (repeat (first|refine zS ?_|refine zK ?_|refine zR ?_|refine zD ?_|refine zB ?_|refine zI ?_|refine zJ ?_|refine zP ?_|refine zE ?_|refine zG ?_|refine zF ?_|refine zH (by decide) ?_|refine zQ ?_|((first|refine zC ?_|refine zM ?_|refine zO rfl rfl ?_|refine zN rfl ?_|refine zL ?_);simp only[yq104.down,zA,lemS.down,lemC.down,zdO,zdN,zdL,reduceIte,zdM,zdP,zdQ,zdR,zdS,zdT,zdU,zdV,zdW,reduceCtorEq,lemH.down,t0,t2,t3,t4,zc,er,b0,Bool.not_true,Bool.not_false,l3,st])))
    have eT:zAB r=doneR (r2,acc):=by unfold zAB;rw[←hL];rfl
    have e2:(zAB r).2=acc:=by rw[eT];exact if_pos c0
    have e1:(zAB r).1=r2:=by rw[eT];rfl
    rw[e1,e2]
    exact⟨.inr rfl,_,zAv (a:=⟨h.next,0,none⟩) (by simp only[yq104.down,zA,lemS.down,lemC.down,zdO,zdN,zdL,reduceIte,zdM,zdP,zdQ,zdR,zdS,zdT,zdU,zdV,zdW,reduceCtorEq,t2]) (va.wr.loadAll rfl),_,rfl,rd.keep Keeps.wr (by omega),(oc.keep Keeps.wr (fun A hA e=>by omega)).mono (fun A hA=>by omega),hin,kk.trans Keeps.wr (fun A hA e=>by omega)⟩
   ·have b0:((r2.err:Int)==0)=false:=by rw[beq_eq_false_iff_ne];omega
    have st:zj g 1 (.pointer (some ⟨h.next,0,none⟩)) (.agg [.slice none 0 0].toArray)=some (.tuple #[],g.wr h.next [.slice none 0 0]):=va.storeAll rfl rfl (by decide) rfl
    (repeat (first|refine zS ?_|refine zK ?_|refine zR ?_|refine zD ?_|refine zB ?_|refine zI ?_|refine zJ ?_|refine zP ?_|refine zE ?_|refine zG ?_|refine zF ?_|refine zH (by decide) ?_|refine zQ ?_|((first|refine zC ?_|refine zM ?_|refine zO rfl rfl ?_|refine zN rfl ?_|refine zL ?_);simp only[yq104.down,zA,lemS.down,lemC.down,zdO,zdN,zdL,reduceIte,zdM,zdP,zdQ,zdR,zdS,zdT,zdU,zdV,zdW,reduceCtorEq,lemH.down,t0,t2,t3,t4,zc,er,b0,Bool.not_true,Bool.not_false,zAs,st])))
    have eT:zAB r=doneR (r2,acc):=by unfold zAB;rw[←hL];rfl
    have e2:(zAB r).2=[]:=by rw[eT];exact if_neg c0
    have e1:(zAB r).1=r2:=by rw[eT];rfl
    rw[e1,e2]
    exact⟨.inr rfl,_,zAv (a:=⟨h.next,0,none⟩) (by simp only[yq104.down,zA,lemS.down,lemC.down,zdO,zdN,zdL,reduceIte,zdM,zdP,zdQ,zdR,zdS,zdT,zdU,zdV,zdW,reduceCtorEq,t2]) (va.wr.loadAll rfl),.slice none 0 0,rfl,rd.keep Keeps.wr (by omega),Own.nil,by simp,kk.trans Keeps.wr (fun A hA e=>by omega)⟩
  | succ m =>
  have d0:decide (((m+1:Nat):Int)>0)=true:=decide_eq_true (by omega)
  by_cases c0:r2.err=0
  rotate_left
  ·have b0:((r2.err:Int)==0)=false:=by rw[beq_eq_false_iff_ne];omega
   have st:zj g 1 (.pointer (some ⟨h.next,0,none⟩)) (.agg [.slice none 0 0].toArray)=some (.tuple #[],g.wr h.next [.slice none 0 0]):=va.storeAll rfl rfl (by decide) rfl
   (repeat (first|refine zS ?_|refine zK ?_|refine zR ?_|refine zD ?_|refine zB ?_|refine zI ?_|refine zJ ?_|refine zP ?_|refine zE ?_|refine zG ?_|refine zF ?_|refine zH (by decide) ?_|refine zQ ?_|((first|refine zC ?_|refine zM ?_|refine zO rfl rfl ?_|refine zN rfl ?_|refine zL ?_);simp only[yq104.down,zA,lemS.down,lemC.down,zdO,zdN,zdL,reduceIte,zdM,zdP,zdQ,zdR,zdS,zdT,zdU,zdV,zdW,reduceCtorEq,lemH.down,t0,t2,t3,t4,d0,zc,er,b0,Bool.not_true,Bool.not_false,zAs,st])))
   have eT:zAB r=doneR (r2,acc):=by unfold zAB;rw[←hL];conv=>{ lhs;unfold zC0 };rw[if_neg c0]
   have e2:(zAB r).2=[]:=by rw[eT];exact if_neg c0
   have e1:(zAB r).1=r2:=by rw[eT];rfl
   rw[e1,e2]
   exact⟨.inr rfl,_,zAv (a:=⟨h.next,0,none⟩) (by simp only[yq104.down,zA,lemS.down,lemC.down,zdO,zdN,zdL,reduceIte,zdM,zdP,zdQ,zdR,zdS,zdT,zdU,zdV,zdW,reduceCtorEq,t2]) (va.wr.loadAll rfl),.slice none 0 0,rfl,rd.keep Keeps.wr (by omega),Own.nil,by simp,kk.trans Keeps.wr (fun A hA e=>by omega)⟩
  have b0:((r2.err:Int)==0)=true:=by rw[c0];rfl
  obtain⟨g1,e1,rd1,k1⟩:=zB4 T.wire rd 1 (by decide)
  have e1:cfi pr 89 [.pointer (some ⟨R,0,none⟩),.int .i64 1] g=some (uw .u64 (zU r2 1).2,g1):=e1
  have hn2:=zC4 r2
  have ci:=ci64 (n:=(zU r2 1).2) (by omega)
  obtain⟨g2,e2,rd2,k2⟩:=zB3 T.wire rd1
  obtain⟨a,ea⟩:∃a,(tagR r2).2=a:=⟨_,rfl⟩
  have ea1:((zU r2 1).2:Int)=a.1:=by rw[←ea];rfl
  have ea2:(zZ (zU r2 1).1 32).2=a.2:=by rw[←ea];rfl
  rw[ea1] at ci
  rw[ea2] at e2
  have rd2:Rd g2 R (tagR r2).1:=rd2
  obtain⟨q3,g3,a3,st3,v3,gg3,n3⟩:=tag_var (g:=g2) (r:=a.1) (t:=a.2)
  have st3:zj q3 2 (.pointer (some ⟨g2.next,0,none⟩)) (.agg [.int .i64 a.1,.string (strOf a.2)].toArray)=some (.tuple #[],g3):=st3
  have fl0:z8 [.int .i64 0,.string (strOf [])] [(0,1,.int .i64 a.1),(1,1,.string (strOf a.2))]=some [.int .i64 a.1,.string (strOf a.2)]:=rfl
  have fl:z8 [.int .i64 0,.string (strOf [])] [(0,2,.agg [.int .i64 a.1,.string (strOf a.2)].toArray)]=some [.int .i64 a.1,.string (strOf a.2)]:=rfl
  have rd3:=rd2.grow gg3
  have er3:=zAW T.wire rd3
  have k12:Keeps (fun A=>A=R) g g2:=k1.trans k2 (fun _ _ q=>q)
  have k13:Keeps (fun A=>A=R) g g3:=k12.trans gg3.keeps (fun _ _ q=>q)
  have n12:=k12.next
  have n13:=k13.next
  have la:∀sp,g3.load ⟨g2.next,0,sp⟩=some (.int .i64 a.1):=fun sp=>v3.load
  have vb3:=vb.keep k13 (fun q=>by omega)
  have va3:=va.keep k13 (fun q=>by omega)
  have lv3:∀sp,g3.load ⟨h.next+1,0,sp⟩=some (.slice av acc.length cv):=fun sp=>vb3.load
  have oc3:=oc.keep k13 (fun A hA q=>by omega)
  have hsm:=zcG r2
  rw[ea] at hsm
  have wn:IntKind.u64.wrap (((m+1:Nat):Int) - 1)=(m:Int):=by
   have:IntKind.u64.wrap (((m+1:Nat):Int) - 1)=(((m+1:Nat):Int) - 1) % 18446744073709551616:=by simp[IntKind.wrap,IntKind.signed,IntKind.bits]
   rw[this]
   omega
  have hL2:∀r5,zC3 r2 acc=r5→zC0 m r5 (acc++[a])=zC0 (zU r 1).2 (zU r 1).1 []:=fun r5 e=>by
   rw[←hL,←e,←ea]
   conv=>rhs;unfold zC0
   rw[if_pos c0]
  have tl:∀g5 r5,Keeps (fun A=>A=R) g3 g5→Rd g5 R r5→∃v2 g6,zAi (g5.new [.int .i64 a.1,.string (strOf a.2)]) 2 24 (.slice av acc.length cv) (.slice (some ⟨g5.next,0,none⟩) 1 1)=some (v2,g6)∧zj g6 1 (.pointer (some ⟨h.next+1,0,none⟩)) v2=some (.tuple #[],g6.wr (h.next+1) [v2])∧(∀sp,g5.load ⟨h.next+1,0,sp⟩=some (.slice av acc.length cv))∧(∀sp,g5.loadN ⟨g2.next,0,sp⟩ 2=some [.int .i64 a.1,.string (strOf a.2)]) ∧
    ∀t':Fr,zC3 r2 acc=r5→t'.get 0=.pointer (some ⟨R,0,none⟩)→t'.get 2=.pointer (some ⟨h.next,0,none⟩)→t'.get 3=.pointer (some ⟨h.next+1,0,none⟩)→t'.get 4=.int .u64 (m:Int)→kont pr [KI.lp zJA,KI.blk 0,KI.code (((XC.ops zI7).seq (XC.cond (X.T 61) ((XC.ops zI8).seq XC.ret) XC.skip)).seq ((XC.ops zI9).seq XC.ret))] (fun e t h'=>(e=XE.normal∨e=XE.ret)∧∃w,zy t h' [.cellN 2 1]=some w∧∃v',w=.agg [v'].toArray∧Rd h' R (zAB r).1∧Own h' (fun A=>h.next≤A) 2 v' (zAB r).2.length (zw (zAB r).2)∧(∀q∈(zAB r).2,inI q.1)∧Keeps (fun A=>A=R) h h') t' (g6.wr (h.next+1) [v2]):=by
   intro g5 r5 k5 rd5
   have n5:=k5.next
   have oc5:=oc3.keep k5 (fun A hA q=>by omega)
   have vb5:=vb3.keep k5 (fun q=>by omega)
   have va5:=va3.keep k5 (fun q=>by omega)
   have v5:=v3.keep k5 (fun q=>by omega)
   obtain⟨v2,g6,ey,o6,k6⟩:=oc5.pushTag a (by omega)
   have n6:=k6.next
   have vb6:=vb5.keep k6 (fun q=>by omega)
   have va6:=va5.keep k6 (fun q=>by omega)
   have rd6:=rd5.keep k6 (fun q=>by omega)
   refine⟨v2,g6,ey,?_,fun sp=>vb5.load,fun sp=>v5.loadAll rfl,fun t' hx s0 s2 s3 s4=>hnext m t' _ (by omega) ⟨r5,acc++[a],v2,by rw[List.length_append,List.length_singleton];omega,hL2 r5 hx,rd6.keep Keeps.wr (by omega),?_,?_,va6.wr_ne (by omega),vb6.wr,?_,by show h.next+2≤g6.next;omega,s0,s2,s3,s4⟩⟩
   ·rw[zg o6.cell,vb6.store1 (i:=0) (by simp) o6.one]
    rfl
   ·rw[List.length_append]
    exact (o6.keep Keeps.wr (fun A hA e=>by rcases hA with q|q<;>omega)).mono (fun A hA=>by rcases hA with q|q<;>omega)
   ·intro q hq
    rcases List.mem_append.1 hq with hq|hq
    ·exact hin q hq
    ·obtain rfl:=List.mem_singleton.1 hq
     constructor<;>omega
   ·exact (((kk.trans k13 (fun _ _ q=>q)).trans k5 (fun _ _ q=>q)).trans k6 (fun A hA q=>by omega)).trans Keeps.wr (fun A hA e=>by omega)
  by_cases c1:(tagR r2).1.err=0
  rotate_left
  ·have b1:(((tagR r2).1.err:Int)==0)=false:=by rw[beq_eq_false_iff_ne];omega
   have nx:zC3 r2 acc=(tagR r2).1:=if_neg (fun q=>c1 q.1)
   obtain⟨v2,g6,ey,st6,lv,lt,fin⟩:=tl g3 (tagR r2).1 Keeps.refl rd3
   (repeat (first|refine zS ?_|refine zK ?_|refine zR ?_|refine zD ?_|refine zB ?_|refine zI ?_|refine zJ ?_|refine zP ?_|refine zE ?_|refine zG ?_|refine zF ?_|refine zH (by decide) ?_|refine zQ ?_|((first|refine zC ?_|refine zM ?_|refine zO rfl rfl ?_|refine zN rfl ?_|refine zL ?_);simp only[yq104.down,zA,lemS.down,lemC.down,zdO,zdN,zdL,reduceIte,zdM,zdP,zdQ,zdR,zdS,zdT,zdU,zdV,zdW,reduceCtorEq,lemH.down,t0,t2,t3,t4,d0,er,b0,e1,ci,e2,fl0,a3,st3,er3,b1,lv,lt,Nat.add_zero,fl,ey,st6,wn,zc])))
   exact fin _ (nx) (by simp only[yq104.down,zA,lemS.down,lemC.down,zdO,zdN,zdL,reduceIte,zdM,zdP,zdQ,zdR,zdS,zdT,zdU,zdV,zdW,reduceCtorEq,t0]) (by simp only[yq104.down,zA,lemS.down,lemC.down,zdO,zdN,zdL,reduceIte,zdM,zdP,zdQ,zdR,zdS,zdT,zdU,zdV,zdW,reduceCtorEq,t2]) (by simp only[yq104.down,zA,lemS.down,lemC.down,zdO,zdN,zdL,reduceIte,zdM,zdP,zdQ,zdR,zdS,zdT,zdU,zdV,zdW,reduceCtorEq,t3]) (by simp only[yq104.down,zA,lemS.down,lemC.down,zdO,zdN,zdL,reduceIte,zdM,zdP,zdQ,zdR,zdS,zdT,zdU,zdV,zdW,reduceCtorEq])
  have b1:(((tagR r2).1.err:Int)==0)=true:=by rw[c1];rfl
  obtain⟨g5,e5,rd5,k5⟩:=zDI T.wire rd3 6
  have e5:cfi pr 151 [.pointer (some ⟨R,0,none⟩),.int .i64 6] g3=some (.tuple #[],g5):=e5
  rw[if_pos c1] at rd5
  by_cases c2:a.1≥16
  ·have b2:decide (a.1≥16)=true:=decide_eq_true c2
   have nx:zC3 r2 acc=⟨(tagR r2).1.s,(tagR r2).1.pos,6⟩:=if_pos ⟨c1,by unfold badT;rw[ea,b2];rfl⟩
   obtain⟨v2,g6,ey,st6,lv,lt,fin⟩:=tl g5 ⟨(tagR r2).1.s,(tagR r2).1.pos,6⟩ k5 rd5
   (repeat (first|refine zS ?_|refine zK ?_|refine zR ?_|refine zD ?_|refine zB ?_|refine zI ?_|refine zJ ?_|refine zP ?_|refine zE ?_|refine zG ?_|refine zF ?_|refine zH (by decide) ?_|refine zQ ?_|((first|refine zC ?_|refine zM ?_|refine zO rfl rfl ?_|refine zN rfl ?_|refine zL ?_);simp only[yq104.down,zA,lemS.down,lemC.down,zdO,zdN,zdL,reduceIte,zdM,zdP,zdQ,zdR,zdS,zdT,zdU,zdV,zdW,reduceCtorEq,lemH.down,t0,t2,t3,t4,d0,er,b0,e1,ci,e2,fl0,a3,st3,er3,b1,la,Nat.add_zero,b2,e5,lv,lt,Nat.add_zero,fl,ey,st6,wn,zc])))
   exact fin _ (nx) (by simp only[yq104.down,zA,lemS.down,lemC.down,zdO,zdN,zdL,reduceIte,zdM,zdP,zdQ,zdR,zdS,zdT,zdU,zdV,zdW,reduceCtorEq,t0]) (by simp only[yq104.down,zA,lemS.down,lemC.down,zdO,zdN,zdL,reduceIte,zdM,zdP,zdQ,zdR,zdS,zdT,zdU,zdV,zdW,reduceCtorEq,t2]) (by simp only[yq104.down,zA,lemS.down,lemC.down,zdO,zdN,zdL,reduceIte,zdM,zdP,zdQ,zdR,zdS,zdT,zdU,zdV,zdW,reduceCtorEq,t3]) (by simp only[yq104.down,zA,lemS.down,lemC.down,zdO,zdN,zdL,reduceIte,zdM,zdP,zdQ,zdR,zdS,zdT,zdU,zdV,zdW,reduceCtorEq])
  have b2:decide (a.1≥16)=false:=decide_eq_false c2
  by_cases c3:0<acc.length
  rotate_left
  ·have b3:decide ((acc.length:Int)>0)=false:=decide_eq_false (by omega)
   have b3':decide (0<acc.length)=false:=decide_eq_false c3
   have nx:zC3 r2 acc=(tagR r2).1:=if_neg (fun q=>by have:=q.2;unfold badT at this;rw[ea,b2,b3'] at this;simp at this)
   obtain⟨v2,g6,ey,st6,lv,lt,fin⟩:=tl g3 (tagR r2).1 Keeps.refl rd3
   (repeat (first|refine zS ?_|refine zK ?_|refine zR ?_|refine zD ?_|refine zB ?_|refine zI ?_|refine zJ ?_|refine zP ?_|refine zE ?_|refine zG ?_|refine zF ?_|refine zH (by decide) ?_|refine zQ ?_|((first|refine zC ?_|refine zM ?_|refine zO rfl rfl ?_|refine zN rfl ?_|refine zL ?_);simp only[yq104.down,zA,lemS.down,lemC.down,zdO,zdN,zdL,reduceIte,zdM,zdP,zdQ,zdR,zdS,zdT,zdU,zdV,zdW,reduceCtorEq,lemH.down,t0,t2,t3,t4,d0,er,b0,e1,ci,e2,fl0,a3,st3,er3,b1,la,Nat.add_zero,b2,lv3,b3,lv,lt,Nat.add_zero,fl,ey,st6,wn,zc])))
   exact fin _ (nx) (by simp only[yq104.down,zA,lemS.down,lemC.down,zdO,zdN,zdL,reduceIte,zdM,zdP,zdQ,zdR,zdS,zdT,zdU,zdV,zdW,reduceCtorEq,t0]) (by simp only[yq104.down,zA,lemS.down,lemC.down,zdO,zdN,zdL,reduceIte,zdM,zdP,zdQ,zdR,zdS,zdT,zdU,zdV,zdW,reduceCtorEq,t2]) (by simp only[yq104.down,zA,lemS.down,lemC.down,zdO,zdN,zdL,reduceIte,zdM,zdP,zdQ,zdR,zdS,zdT,zdU,zdV,zdW,reduceCtorEq,t3]) (by simp only[yq104.down,zA,lemS.down,lemC.down,zdO,zdN,zdL,reduceIte,zdM,zdP,zdQ,zdR,zdS,zdT,zdU,zdV,zdW,reduceCtorEq])
  have b3:decide ((acc.length:Int)>0)=true:=decide_eq_true (by omega)
  have b3':decide (0<acc.length)=true:=decide_eq_true c3
  obtain⟨Bl,ol,ial,ldl⟩:=(oc3.rdTags hin).elim (i:=acc.length - 1) (by omega)
  have ll:=(ldl g3 (Grows.refl _)).2.1
  have el:((acc.length - 1:Nat):Int)=(acc.length:Int) - 1:=by omega
  rw[el] at ial
  have wl:IntKind.i64.wrap ((acc.length:Int) - 1)=(acc.length:Int) - 1:=wrap_i64 (by omega) (by omega)
  cases c4:decide (lastT acc≥a.1)
  ·have nx:zC3 r2 acc=(tagR r2).1:=if_neg (fun q=>by have:=q.2;unfold badT at this;rw[ea,b2,b3',c4] at this;simp at this)
   have c4':decide ((acc.getD (acc.length - 1) (0,[])).1≥a.1)=false:=c4
   obtain⟨v2,g6,ey,st6,lv,lt,fin⟩:=tl g3 (tagR r2).1 Keeps.refl rd3
   (repeat (first|refine zS ?_|refine zK ?_|refine zR ?_|refine zD ?_|refine zB ?_|refine zI ?_|refine zJ ?_|refine zP ?_|refine zE ?_|refine zG ?_|refine zF ?_|refine zH (by decide) ?_|refine zQ ?_|((first|refine zC ?_|refine zM ?_|refine zO rfl rfl ?_|refine zN rfl ?_|refine zL ?_);simp only[yq104.down,zA,lemS.down,lemC.down,zdO,zdN,zdL,reduceIte,zdM,zdP,zdQ,zdR,zdS,zdT,zdU,zdV,zdW,reduceCtorEq,lemH.down,t0,t2,t3,t4,d0,er,b0,e1,ci,e2,fl0,a3,st3,er3,b1,la,Nat.add_zero,b2,lv3,b3,wl,zAd,ial,ll,c4',lv,lt,Nat.add_zero,fl,ey,st6,wn,zc])))
   exact fin _ (nx) (by simp only[yq104.down,zA,lemS.down,lemC.down,zdO,zdN,zdL,reduceIte,zdM,zdP,zdQ,zdR,zdS,zdT,zdU,zdV,zdW,reduceCtorEq,t0]) (by simp only[yq104.down,zA,lemS.down,lemC.down,zdO,zdN,zdL,reduceIte,zdM,zdP,zdQ,zdR,zdS,zdT,zdU,zdV,zdW,reduceCtorEq,t2]) (by simp only[yq104.down,zA,lemS.down,lemC.down,zdO,zdN,zdL,reduceIte,zdM,zdP,zdQ,zdR,zdS,zdT,zdU,zdV,zdW,reduceCtorEq,t3]) (by simp only[yq104.down,zA,lemS.down,lemC.down,zdO,zdN,zdL,reduceIte,zdM,zdP,zdQ,zdR,zdS,zdT,zdU,zdV,zdW,reduceCtorEq])
  ·have nx:zC3 r2 acc=⟨(tagR r2).1.s,(tagR r2).1.pos,6⟩:=if_pos ⟨c1,by unfold badT;rw[ea,b2,b3',c4];rfl⟩
   have c4':decide ((acc.getD (acc.length - 1) (0,[])).1≥a.1)=true:=c4
   obtain⟨v2,g6,ey,st6,lv,lt,fin⟩:=tl g5 ⟨(tagR r2).1.s,(tagR r2).1.pos,6⟩ k5 rd5
   (repeat (first|refine zS ?_|refine zK ?_|refine zR ?_|refine zD ?_|refine zB ?_|refine zI ?_|refine zJ ?_|refine zP ?_|refine zE ?_|refine zG ?_|refine zF ?_|refine zH (by decide) ?_|refine zQ ?_|((first|refine zC ?_|refine zM ?_|refine zO rfl rfl ?_|refine zN rfl ?_|refine zL ?_);simp only[yq104.down,zA,lemS.down,lemC.down,zdO,zdN,zdL,reduceIte,zdM,zdP,zdQ,zdR,zdS,zdT,zdU,zdV,zdW,reduceCtorEq,lemH.down,t0,t2,t3,t4,d0,er,b0,e1,ci,e2,fl0,a3,st3,er3,b1,la,Nat.add_zero,b2,lv3,b3,wl,zAd,ial,ll,c4',e5,lv,lt,Nat.add_zero,fl,ey,st6,wn,zc])))
   exact fin _ (nx) (by simp only[yq104.down,zA,lemS.down,lemC.down,zdO,zdN,zdL,reduceIte,zdM,zdP,zdQ,zdR,zdS,zdT,zdU,zdV,zdW,reduceCtorEq,t0]) (by simp only[yq104.down,zA,lemS.down,lemC.down,zdO,zdN,zdL,reduceIte,zdM,zdP,zdQ,zdR,zdS,zdT,zdU,zdV,zdW,reduceCtorEq,t2]) (by simp only[yq104.down,zA,lemS.down,lemC.down,zdO,zdN,zdL,reduceIte,zdM,zdP,zdQ,zdR,zdS,zdT,zdU,zdV,zdW,reduceCtorEq,t3]) (by simp only[yq104.down,zA,lemS.down,lemC.down,zdO,zdN,zdL,reduceIte,zdM,zdP,zdQ,zdR,zdS,zdT,zdU,zdV,zdW,reduceCtorEq])
 obtain⟨w,h',e,v',rfl,r⟩:=this
 exact⟨v',h',e,r⟩
end Go.X
end
section
namespace Go.X
open Go.Proofs
abbrev zYr:List XO:=[
 ⟨some 2,.p (.mov (C (.slice none 0 0))),none⟩]
def xq88_0:List XO:=zYr
theorem xq88_0e:E3 xq88_0 zYr:=E3.rfl
abbrev zYw:List XO:=[
 ⟨some 3,.p (.mov (C (.slice none 0 0))),none⟩]
def xq88_1:List XO:=zYw
theorem xq88_1e:E3 xq88_1 zYw:=E3.rfl
abbrev zYx:List XO:=[
 ⟨some 5,.p (.mov (T 0)),none⟩,
 ⟨some 6,.call (.func 89) [(T 5),(C (.int .i64 1))],none⟩,
 ⟨some 4,.p (.mov (T 6)),none⟩]
def xq88_2:List XO:=zYx
theorem xq88_2e:E3 xq88_2 zYx:=E3.rfl
abbrev zYy:List XO:=[
 ⟨some 7,.p (.mov (T 4)),none⟩,
 ⟨some 8,.p (.bin .gtr (T 7) (C (.int .u64 0))),none⟩,
 ⟨some 9,.p (.mov (T 8)),none⟩,
 ⟨some 10,.p (.mov (T 0)),some (9,true)⟩,
 ⟨some 11,.call (.func 109) [(T 10)],some (9,true)⟩,
 ⟨some 12,.p (.eql false .int (T 11) (C (.int .i64 0))),some (9,true)⟩,
 ⟨some 13,.p (.pick (T 9) (T 12) (C (.bool false))),none⟩]
def xq88_3:List XO:=zYy
theorem xq88_3e:E3 xq88_3 zYy:=E3.rfl
abbrev zYz:List XO:=[
 ⟨some 16,.p (.mov (T 3)),none⟩,
 ⟨some 17,.p (.mov (T 0)),none⟩,
 ⟨some 18,.call (.func 89) [(T 17),(C (.int .i64 1))],none⟩,
 ⟨some 19,.p (.cint .i64 (T 18)),none⟩,
 ⟨some 20,.a (.bslice [(.int .i64 0)] 1 [(0,1,(T 19))]),none⟩,
 ⟨some 21,.e (.append 1 8 (T 16) (T 20)),none⟩,
 ⟨some 3,.p (.mov (T 21)),none⟩]
def xq88_4:List XO:=zYz
theorem xq88_4e:E3 xq88_4 zYz:=E3.rfl
abbrev zY0:List XO:=[
 ⟨some 14,.p (.mov (T 4)),none⟩,
 ⟨some 15,.p (.bin .sub (T 14) (C (.int .u64 1))),none⟩,
 ⟨some 4,.p (.mov (T 15)),none⟩]
def xq88_5:List XO:=zY0
theorem xq88_5e:E3 xq88_5 zY0:=E3.rfl
def zJl:XC :=
 .seq (.seq (.ops xq88_3) (.cond (T 13) (.skip) (.exit 0))) (.seq (.block 1 (.ops xq88_4)) (.ops xq88_5))
def xq88_6:XC:=zJl
theorem xq88_6k {pr:Prog} {k:List KI} {Q:XE→Fr→Heap→Prop} {t:Fr} {h:Heap} (hw:wpk pr zJl k Q t h):wpk pr xq88_6 k Q t h:=hw
abbrev zY1:List XO:=[
 ⟨some 22,.p (.mov (T 0)),none⟩,
 ⟨some 23,.call (.func 109) [(T 22)],none⟩,
 ⟨some 24,.p (.eql false .int (T 23) (C (.int .i64 0))),none⟩,
 ⟨some 25,.p (.mov (T 24)),none⟩,
 ⟨some 26,.p (.mov (T 3)),some (25,true)⟩,
 ⟨some 27,.call (.func 56) [(T 26)],some (25,true)⟩,
 ⟨some 28,.p (.un .not (T 27)),some (25,true)⟩,
 ⟨some 29,.p (.pick (T 25) (T 28) (C (.bool false))),none⟩]
def xq88_7:List XO:=zY1
theorem xq88_7e:E3 xq88_7 zY1:=E3.rfl
abbrev zY2:List XO:=[
 ⟨some 30,.p (.mov (T 0)),none⟩,
 ⟨some 31,.call (.func 151) [(T 30),(C (.int .i64 6))],none⟩]
def xq88_8:List XO:=zY2
theorem xq88_8e:E3 xq88_8 zY2:=E3.rfl
abbrev zY3:List XO:=[
 ⟨some 32,.p (.mov (T 0)),none⟩,
 ⟨some 33,.call (.func 109) [(T 32)],none⟩,
 ⟨some 34,.p (.eql true .int (T 33) (C (.int .i64 0))),none⟩]
def xq88_9:List XO:=zY3
theorem xq88_9e:E3 xq88_9 zY3:=E3.rfl
abbrev zYt:List XO:=[
 ⟨some 2,.p (.mov (C (.slice none 0 0))),none⟩]
def zYs:List XO:=zYt
theorem xq88_10e:E3 zYs zYt:=E3.rfl
abbrev zYv:List XO:=[
 ⟨some 35,.p (.mov (T 3)),none⟩,
 ⟨some 2,.p (.mov (T 35)),none⟩]
def zYu:List XO:=zYv
theorem xq88_11e:E3 zYu zYv:=E3.rfl
def xq88:XF:=⟨1,[.tmp 2],
 .seq (.ops xq88_0) (.seq (.ops xq88_1) (.seq (.seq (.ops xq88_2) (.block 0 (.loop xq88_6))) (.seq (.seq (.ops xq88_7) (.cond (T 29) (.ops xq88_8) (.skip))) (.seq (.seq (.ops xq88_9) (.cond (T 34) (.seq (.ops zYs) (.ret)) (.skip))) (.seq (.ops zYu) (.ret))))))⟩
def yq88:=PLift.up (And.intro (And.intro (And.intro (@xq88_0e) (@xq88_1e)) (And.intro (@xq88_2e) (And.intro (@xq88_3e) (@xq88_4e)))) (And.intro (And.intro (@xq88_5e) (And.intro (@xq88_7e) (@xq88_8e))) (And.intro (@xq88_9e) (And.intro (@xq88_10e) (@xq88_11e)))))
theorem cq88:zX Tryz.prog Tryz.f88=some xq88:=by kernel_rfl
abbrev zM6:List XO:=[
 ⟨some 2,.a (.alloc [(.int .u64 0),(.string (strOf [])),(.string (strOf [])),(.string (strOf [])),(.slice none 0 0)]),none⟩]
def zM5:List XO:=zM6
theorem xq103_0e:E3 zM5 zM6:=E3.rfl
abbrev zM8:List XO:=[
 ⟨some 4,.p (.mov (T 0)),none⟩,
 ⟨some 5,.call (.func 89) [(T 4),(C (.int .i64 8))],none⟩,
 ⟨some 6,.p (.mov (T 0)),none⟩,
 ⟨some 7,.call (.func 90) [(T 6)],none⟩,
 ⟨some 8,.p (.mov (T 0)),none⟩,
 ⟨some 9,.call (.func 90) [(T 8)],none⟩,
 ⟨some 10,.p (.mov (T 0)),none⟩,
 ⟨some 11,.call (.func 90) [(T 10)],none⟩,
 ⟨some 12,.p (.mov (T 0)),none⟩,
 ⟨some 13,.call (.func 88) [(T 12)],none⟩,
 ⟨some 14,.p (.build [(.int .u64 0),(.string (strOf [])),(.string (strOf [])),(.string (strOf [])),(.slice none 0 0)] [(0,1,(T 5)),(1,1,(T 7)),(2,1,(T 9)),(3,1,(T 11)),(4,1,(T 13))]),none⟩,
 ⟨some 3,.a (.alloc [(.int .u64 0),(.string (strOf [])),(.string (strOf [])),(.string (strOf [])),(.slice none 0 0)]),none⟩,
 ⟨none,.e (.store 5 (T 3) (T 14)),none⟩]
def zM7:List XO:=zM8
theorem xq103_1e:E3 zM7 zM8:=E3.rfl
abbrev zNA:List XO:=[
 ⟨some 15,.p (.mov (T 0)),none⟩,
 ⟨some 16,.call (.func 109) [(T 15)],none⟩,
 ⟨some 17,.p (.eql false .int (T 16) (C (.int .i64 0))),none⟩]
def zM9:List XO:=zNA
theorem xq103_2e:E3 zM9 zNA:=E3.rfl
abbrev zNC:List XO:=[
 ⟨some 18,.p (.mov (T 0)),none⟩,
 ⟨some 19,.r (.loadN 5 (T 3)),none⟩,
 ⟨some 20,.call (.func 64) [(T 19)],none⟩,
 ⟨some 21,.call (.func 151) [(T 18),(T 20)],none⟩]
def zNB:List XO:=zNC
theorem xq103_3e:E3 zNB zNC:=E3.rfl
abbrev zNE:List XO:=[
 ⟨some 22,.p (.mov (T 0)),none⟩,
 ⟨some 23,.call (.func 109) [(T 22)],none⟩,
 ⟨some 24,.p (.eql true .int (T 23) (C (.int .i64 0))),none⟩]
def zND:List XO:=zNE
theorem xq103_4e:E3 zND zNE:=E3.rfl
abbrev zNG:List XO:=[
 ⟨some 25,.p (.build [(.int .u64 0),(.string (strOf [])),(.string (strOf [])),(.string (strOf [])),(.slice none 0 0)] []),none⟩,
 ⟨none,.e (.store 5 (T 2) (T 25)),none⟩]
def zNF:List XO:=zNG
theorem xq103_5e:E3 zNF zNG:=E3.rfl
abbrev zNI:List XO:=[
 ⟨some 26,.r (.loadN 5 (T 3)),none⟩,
 ⟨none,.e (.store 5 (T 2) (T 26)),none⟩]
def zNH:List XO:=zNI
theorem xq103_6e:E3 zNH zNI:=E3.rfl
def xq103:XF:=⟨1,[.cellN 2 5],
 .seq (.ops zM5) (.seq (.ops zM7) (.seq (.seq (.ops zM9) (.cond (T 17) (.ops zNB) (.skip))) (.seq (.seq (.ops zND) (.cond (T 24) (.seq (.ops zNF) (.ret)) (.skip))) (.seq (.ops zNH) (.ret)))))⟩
def yq103:=PLift.up (And.intro (And.intro (@xq103_0e) (And.intro (@xq103_1e) (@xq103_2e))) (And.intro (And.intro (@xq103_3e) (@xq103_4e)) (And.intro (@xq103_5e) (@xq103_6e))))
theorem cq103:zX Tryz.prog Tryz.f103=some xq103:=by kernel_rfl
abbrev zNf:List XO:=[
 ⟨some 2,.p (.mov (C (.bool false))),none⟩]
def zNe:List XO:=zNf
theorem xq105_0e:E3 zNe zNf:=E3.rfl
abbrev zNh:List XO:=[
 ⟨some 5,.p (.mov (T 0)),none⟩,
 ⟨some 6,.call (.func 149) [(T 5)],none⟩,
 ⟨some 3,.p (.mov (T 6)),none⟩]
def zNg:List XO:=zNh
theorem xq105_1e:E3 zNg zNh:=E3.rfl
abbrev zNj:List XO:=[
 ⟨some 7,.p (.mov (T 0)),none⟩,
 ⟨some 8,.call (.func 89) [(T 7),(C (.int .i64 1))],none⟩,
 ⟨some 4,.p (.mov (T 8)),none⟩]
def zNi:List XO:=zNj
theorem xq105_2e:E3 zNi zNj:=E3.rfl
abbrev zNl:List XO:=[
 ⟨some 9,.p (.mov (T 0)),none⟩,
 ⟨some 10,.call (.func 109) [(T 9)],none⟩,
 ⟨some 11,.p (.eql false .int (T 10) (C (.int .i64 0))),none⟩,
 ⟨some 12,.p (.mov (T 11)),none⟩,
 ⟨some 13,.p (.mov (T 4)),some (12,true)⟩,
 ⟨some 14,.p (.bin .gtr (T 13) (C (.int .u64 1))),some (12,true)⟩,
 ⟨some 15,.p (.pick (T 12) (T 14) (C (.bool false))),none⟩]
def zNk:List XO:=zNl
theorem xq105_3e:E3 zNk zNl:=E3.rfl
abbrev zNn:List XO:=[
 ⟨some 16,.p (.mov (T 0)),none⟩,
 ⟨some 17,.p (.mov (T 0)),none⟩,
 ⟨some 18,.p (.mov (T 3)),none⟩,
 ⟨some 19,.p (.nilc (T 16)),none⟩,
 ⟨some 20,.p (.faddr 1 (T 19)),none⟩,
 ⟨none,.e (.store 1 (T 20) (T 18)),none⟩,
 ⟨some 21,.p (.nilc (T 17)),none⟩,
 ⟨some 22,.p (.faddr 2 (T 21)),none⟩,
 ⟨none,.e (.store 1 (T 22) (C (.int .i64 6))),none⟩]
def zNm:List XO:=zNn
theorem xq105_4e:E3 zNm zNn:=E3.rfl
abbrev zNp:List XO:=[
 ⟨some 23,.p (.mov (T 0)),none⟩,
 ⟨some 24,.call (.func 109) [(T 23)],none⟩,
 ⟨some 25,.p (.eql false .int (T 24) (C (.int .i64 0))),none⟩,
 ⟨some 26,.p (.mov (T 25)),none⟩,
 ⟨some 27,.p (.mov (T 4)),some (26,true)⟩,
 ⟨some 28,.p (.eql false .int (T 27) (C (.int .u64 1))),some (26,true)⟩,
 ⟨some 29,.p (.pick (T 26) (T 28) (C (.bool false))),none⟩,
 ⟨some 2,.p (.mov (T 29)),none⟩]
def zNo:List XO:=zNp
theorem xq105_5e:E3 zNo zNp:=E3.rfl
def xq105:XF:=⟨1,[.tmp 2],
 .seq (.ops zNe) (.seq (.ops zNg) (.seq (.ops zNi) (.seq (.seq (.ops zNk) (.cond (T 15) (.ops zNm) (.skip))) (.seq (.ops zNo) (.ret)))))⟩
def yq105:=PLift.up (And.intro (And.intro (@xq105_0e) (And.intro (@xq105_1e) (@xq105_2e))) (And.intro (@xq105_3e) (And.intro (@xq105_4e) (@xq105_5e))))
theorem cq105:zX Tryz.prog Tryz.f105=some xq105:=by kernel_rfl
abbrev xq117_0l:List XO:=[
 ⟨some 4,.p (.mov (C (.int .u64 0))),none⟩]
def xq117_0:List XO:=xq117_0l
abbrev xq117_1l:List XO:=[
 ⟨some 5,.p (.mov (T 1)),none⟩]
def xq117_1:List XO:=xq117_1l
abbrev xq117_2l:List XO:=[
 ⟨some 4,.p (.mov (C (.int .u64 1))),none⟩]
def xq117_2:List XO:=xq117_2l
abbrev xq117_3l:List XO:=[
 ⟨some 6,.p (.mov (T 0)),none⟩,
 ⟨some 7,.p (.mov (T 4)),none⟩,
 ⟨some 8,.call (.func 78) [(T 6),(T 7),(C (.int .i64 1))],none⟩]
def xq117_3:List XO:=xq117_3l
def xq117:XF:=⟨2,[],
 .seq (.ops xq117_0) (.seq (.seq (.ops xq117_1) (.cond (T 5) (.ops xq117_2) (.skip))) (.ops xq117_3))⟩
theorem cq117:zX Tryz.prog Tryz.f117=some xq117:=by kernel_rfl
abbrev zOG:List XO:=[
 ⟨some 2,.a (.alloc [(.int .u64 0),(.int .u64 0),(.slice none 0 0)]),none⟩]
def zOF:List XO:=zOG
theorem xq107_0e:E3 zOF zOG:=E3.rfl
abbrev zOM:List XO:=[
 ⟨some 5,.p (.mov (T 0)),none⟩,
 ⟨some 6,.call (.func 89) [(T 5),(C (.int .i64 8))],none⟩,
 ⟨some 7,.p (.mov (T 0)),none⟩,
 ⟨some 8,.call (.func 89) [(T 7),(C (.int .i64 8))],none⟩,
 ⟨some 9,.p (.build [(.int .u64 0),(.int .u64 0),(.slice none 0 0)] [(0,1,(T 6)),(1,1,(T 8))]),none⟩,
 ⟨some 3,.a (.alloc [(.int .u64 0),(.int .u64 0),(.slice none 0 0)]),none⟩,
 ⟨none,.e (.store 3 (T 3) (T 9)),none⟩]
def zOH:List XO:=zOM
theorem xq107_1e:E3 zOH zOM:=E3.rfl
abbrev zOO:List XO:=[
 ⟨some 10,.p (.mov (T 0)),none⟩,
 ⟨some 11,.call (.func 108) [(T 10),(C (.int .i64 8))],none⟩,
 ⟨some 4,.p (.mov (T 11)),none⟩]
def zON:List XO:=zOO
theorem xq107_2e:E3 zON zOO:=E3.rfl
abbrev zOQ:List XO:=[
 ⟨some 12,.p (.mov (T 4)),none⟩,
 ⟨some 13,.p (.bin .gtr (T 12) (C (.int .i64 0))),none⟩,
 ⟨some 14,.p (.mov (T 13)),none⟩,
 ⟨some 15,.p (.mov (T 0)),some (14,true)⟩,
 ⟨some 16,.call (.func 109) [(T 15)],some (14,true)⟩,
 ⟨some 17,.p (.eql false .int (T 16) (C (.int .i64 0))),some (14,true)⟩,
 ⟨some 18,.p (.pick (T 14) (T 17) (C (.bool false))),none⟩]
def zOP:List XO:=zOQ
theorem xq107_3e:E3 zOP zOQ:=E3.rfl
abbrev zOS:List XO:=[
 ⟨some 21,.p (.faddr 2 (T 3)),none⟩,
 ⟨some 22,.r (.load1 (T 21)),none⟩,
 ⟨some 23,.p (.mov (T 0)),none⟩,
 ⟨some 24,.call (.func 89) [(T 23),(C (.int .i64 1))],none⟩,
 ⟨some 25,.p (.cint .i64 (T 24)),none⟩,
 ⟨some 26,.p (.mov (T 0)),none⟩,
 ⟨some 27,.call (.func 87) [(T 26),(C (.int .i64 32))],none⟩,
 ⟨some 28,.p (.mov (T 0)),none⟩,
 ⟨some 29,.call (.func 87) [(T 28),(C (.int .i64 64))],none⟩,
 ⟨some 30,.p (.build [(.int .i64 0),(.string (strOf [])),(.string (strOf []))] [(0,1,(T 25)),(1,1,(T 27)),(2,1,(T 29))]),none⟩,
 ⟨some 31,.a (.bslice [(.int .i64 0),(.string (strOf [])),(.string (strOf []))] 1 [(0,3,(T 30))]),none⟩,
 ⟨some 32,.e (.append 3 40 (T 22) (T 31)),none⟩,
 ⟨some 33,.p (.faddr 2 (T 3)),none⟩,
 ⟨none,.e (.store 1 (T 33) (T 32)),none⟩]
def zOR:List XO:=zOS
theorem xq107_4e:E3 zOR zOS:=E3.rfl
abbrev zOU:List XO:=[
 ⟨some 19,.p (.mov (T 4)),none⟩,
 ⟨some 20,.p (.bin .sub (T 19) (C (.int .i64 1))),none⟩,
 ⟨some 4,.p (.mov (T 20)),none⟩]
def zOT:List XO:=zOU
theorem xq107_5e:E3 zOT zOU:=E3.rfl
def zJD:XC :=
 .seq (.seq (.ops zOP) (.cond (T 18) (.skip) (.exit 0))) (.seq (.block 1 (.draw zOR [(1,(6,[])),(1,(8,[])),(1,(11,[]))])) (.ops zOT))
def zOV:XC:=zJD
theorem xq107_6k {pr:Prog} {k:List KI} {Q:XE→Fr→Heap→Prop} {t:Fr} {h:Heap} (hw:wpk pr zJD k Q t h):wpk pr zOV k Q t h:=hw
abbrev zOX:List XO:=[
 ⟨some 34,.p (.mov (T 0)),none⟩,
 ⟨some 35,.call (.func 109) [(T 34)],none⟩,
 ⟨some 36,.p (.eql false .int (T 35) (C (.int .i64 0))),none⟩]
def zOW:List XO:=zOX
theorem xq107_7e:E3 zOW zOX:=E3.rfl
abbrev zOZ:List XO:=[
 ⟨some 37,.p (.mov (T 0)),none⟩,
 ⟨some 38,.r (.loadN 3 (T 3)),none⟩,
 ⟨some 39,.call (.func 119) [(T 38)],none⟩,
 ⟨some 40,.call (.func 151) [(T 37),(T 39)],none⟩]
def zOY:List XO:=zOZ
theorem xq107_8e:E3 zOY zOZ:=E3.rfl
abbrev zOb:List XO:=[
 ⟨some 41,.p (.mov (T 0)),none⟩,
 ⟨some 42,.call (.func 109) [(T 41)],none⟩,
 ⟨some 43,.p (.eql true .int (T 42) (C (.int .i64 0))),none⟩]
def zOa:List XO:=zOb
theorem xq107_9e:E3 zOa zOb:=E3.rfl
abbrev zOJ:List XO:=[
 ⟨some 44,.p (.build [(.int .u64 0),(.int .u64 0),(.slice none 0 0)] []),none⟩,
 ⟨none,.e (.store 3 (T 2) (T 44)),none⟩]
def zOI:List XO:=zOJ
theorem zcX:E3 zOI zOJ:=E3.rfl
abbrev zOL:List XO:=[
 ⟨some 45,.r (.loadN 3 (T 3)),none⟩,
 ⟨none,.e (.store 3 (T 2) (T 45)),none⟩]
def zOK:List XO:=zOL
theorem zcY:E3 zOK zOL:=E3.rfl
def xq107:XF:=⟨1,[.cellN 2 3],
 .seq (.ops zOF) (.seq (.ops zOH) (.seq (.seq (.ops zON) (.block 0 (.loop zOV))) (.seq (.seq (.ops zOW) (.cond (T 36) (.ops zOY) (.skip))) (.seq (.seq (.ops zOa) (.cond (T 43) (.seq (.ops zOI) (.ret)) (.skip))) (.seq (.ops zOK) (.ret))))))⟩
def yq107:=PLift.up (And.intro (And.intro (And.intro (@xq107_0e) (@xq107_1e)) (And.intro (@xq107_2e) (And.intro (@xq107_3e) (@xq107_4e)))) (And.intro (And.intro (@xq107_5e) (And.intro (@xq107_7e) (@xq107_8e))) (And.intro (@xq107_9e) (And.intro (@zcX) (@zcY)))))
theorem cq107:zX Tryz.prog Tryz.f107=some xq107:=by kernel_rfl
abbrev zRi:List XO:=[
 ⟨some 1,.a (.box (T 0)),none⟩,
 ⟨some 2,.p (.mov (C (.bool false))),none⟩]
def zRh:List XO:=zRi
theorem xq172_0e:E3 zRh zRi:=E3.rfl
abbrev zRk:List XO:=[
 ⟨some 3,.p (.faddr 1 (T 1)),none⟩,
 ⟨some 4,.r (.load1 (T 3)),none⟩,
 ⟨some 5,.p (.lenS (T 4)),none⟩,
 ⟨some 6,.p (.bin .lss (T 5) (C (.int .i64 1))),none⟩,
 ⟨some 7,.p (.mov (T 6)),none⟩,
 ⟨some 8,.p (.faddr 1 (T 1)),some (7,false)⟩,
 ⟨some 9,.r (.load1 (T 8)),some (7,false)⟩,
 ⟨some 10,.p (.lenS (T 9)),some (7,false)⟩,
 ⟨some 11,.p (.bin .gtr (T 10) (C (.int .i64 32))),some (7,false)⟩,
 ⟨some 12,.p (.pick (T 7) (C (.bool true)) (T 11)),none⟩,
 ⟨some 13,.p (.mov (T 12)),none⟩,
 ⟨some 14,.p (.faddr 2 (T 1)),some (13,false)⟩,
 ⟨some 15,.r (.load1 (T 14)),some (13,false)⟩,
 ⟨some 16,.p (.lenS (T 15)),some (13,false)⟩,
 ⟨some 17,.p (.bin .gtr (T 16) (C (.int .i64 64))),some (13,false)⟩,
 ⟨some 18,.p (.pick (T 13) (C (.bool true)) (T 17)),none⟩]
def zRj:List XO:=zRk
theorem xq172_1e:E3 zRj zRk:=E3.rfl
abbrev zRm:List XO:=[
 ⟨some 2,.p (.mov (C (.bool false))),none⟩]
def zRl:List XO:=zRm
theorem xq172_2e:E3 zRl zRm:=E3.rfl
abbrev zRo:List XO:=[
 ⟨some 19,.p (.faddr 0 (T 1)),none⟩,
 ⟨some 20,.r (.load1 (T 19)),none⟩]
def zRn:List XO:=zRo
theorem xq172_3e:E3 zRn zRo:=E3.rfl
abbrev zRq:List XO:=[
 ⟨some 22,.p (.eql false .int (T 20) (C (.int .i64 1))),none⟩,
 ⟨some 21,.p (.mov (T 22)),none⟩]
def zRp:List XO:=zRq
theorem xq172_4e:E3 zRp zRq:=E3.rfl
abbrev zRs:List XO:=[
 ⟨some 23,.p (.eql false .int (T 20) (C (.int .i64 3))),none⟩,
 ⟨some 21,.p (.mov (T 23)),none⟩]
def zRr:List XO:=zRs
theorem xq172_5e:E3 zRr zRs:=E3.rfl
abbrev zRu:List XO:=[
 ⟨some 2,.p (.mov (C (.bool true))),none⟩]
def zRt:List XO:=zRu
theorem xq172_6e:E3 zRt zRu:=E3.rfl
abbrev zRw:List XO:=[
 ⟨some 24,.p (.faddr 0 (T 1)),none⟩,
 ⟨some 25,.r (.load1 (T 24)),none⟩,
 ⟨some 26,.p (.eql false .int (T 25) (C (.int .i64 2))),none⟩,
 ⟨some 27,.p (.mov (T 26)),none⟩,
 ⟨some 28,.p (.faddr 0 (T 1)),some (27,false)⟩,
 ⟨some 29,.r (.load1 (T 28)),some (27,false)⟩,
 ⟨some 30,.p (.eql false .int (T 29) (C (.int .i64 4))),some (27,false)⟩,
 ⟨some 31,.p (.pick (T 27) (C (.bool true)) (T 30)),none⟩,
 ⟨some 32,.p (.mov (T 31)),none⟩,
 ⟨some 33,.p (.faddr 2 (T 1)),some (32,true)⟩,
 ⟨some 34,.r (.load1 (T 33)),some (32,true)⟩,
 ⟨some 35,.p (.eql false .str (T 34) (C (.string (strOf [])))),some (32,true)⟩,
 ⟨some 36,.p (.pick (T 32) (T 35) (C (.bool false))),none⟩,
 ⟨some 2,.p (.mov (T 36)),none⟩]
def zRv:List XO:=zRw
theorem xq172_7e:E3 zRv zRw:=E3.rfl
def xq172:XF:=⟨1,[.tmp 2],
 .seq (.ops zRh) (.seq (.seq (.ops zRj) (.cond (T 18) (.seq (.ops zRl) (.ret)) (.skip))) (.seq (.seq (.ops zRn) (.block 0 (.seq (.seq (.ops zRp) (.cond (T 21) (.skip) (.ops zRr))) (.cond (T 21) (.seq (.ops zRt) (.ret)) (.skip))))) (.seq (.ops zRv) (.ret))))⟩
def yq172:=PLift.up (And.intro (And.intro (And.intro (@xq172_0e) (@xq172_1e)) (And.intro (@xq172_2e) (@xq172_3e))) (And.intro (And.intro (@xq172_4e) (@xq172_5e)) (And.intro (@xq172_6e) (@xq172_7e))))
theorem cq172:zX Tryz.prog Tryz.f172=some xq172:=by kernel_rfl
abbrev zRa:List XO:=[
 ⟨some 4,.p (.mov (C (.bool false))),none⟩]
def zRZ:List XO:=zRa
theorem xq170_0e:E3 zRZ zRa:=E3.rfl
abbrev zRc:List XO:=[
 ⟨some 5,.p (.mov (T 0)),none⟩,
 ⟨some 6,.p (.mov (T 1)),none⟩,
 ⟨some 7,.call (.func 213) [(T 5),(T 6)],none⟩,
 ⟨some 8,.p (.bin .geq (T 7) (C (.int .i64 0))),none⟩,
 ⟨some 4,.p (.mov (T 8)),none⟩]
def zRb:List XO:=zRc
theorem xq170_1e:E3 zRb zRc:=E3.rfl
def xq170:XF:=⟨2,[.tmp 4],
 .seq (.ops zRZ) (.seq (.ops zRb) (.ret))⟩
def yq170:=PLift.up (And.intro (@xq170_0e) (@xq170_1e))
theorem cq170:zX Tryz.prog Tryz.f170=some xq170:=by kernel_rfl
abbrev zT8:List XO:=[
 ⟨some 4,.p (.mov (C (.int .i64 0))),none⟩]
def zT7:List XO:=zT8
theorem xq213_0e:E3 zT7 zT8:=E3.rfl
abbrev zUA:List XO:=[
 ⟨some 6,.p (.mov (T 0)),none⟩,
 ⟨some 7,.p (.lenV (T 6)),none⟩,
 ⟨some 8,.p (.mov (C (.int .i64 0))),none⟩]
def zT9:List XO:=zUA
theorem xq213_1e:E3 zT9 zUA:=E3.rfl
abbrev zUC:List XO:=[
 ⟨some 9,.p (.bin .lss (T 8) (T 7)),none⟩]
def zUB:List XO:=zUC
theorem xq213_2e:E3 zUB zUC:=E3.rfl
abbrev zUE:List XO:=[
 ⟨some 10,.p (.mov (T 8)),none⟩,
 ⟨some 5,.p (.mov (T 10)),none⟩]
def zUD:List XO:=zUE
theorem xq213_3e:E3 zUD zUE:=E3.rfl
abbrev zUG:List XO:=[
 ⟨some 11,.p (.mov (T 1)),none⟩,
 ⟨some 12,.p (.mov (T 0)),none⟩,
 ⟨some 13,.p (.mov (T 5)),none⟩,
 ⟨some 14,.p (.iaddrS 3 (T 12) (T 13)),none⟩,
 ⟨some 15,.r (.loadN 3 (T 14)),none⟩,
 ⟨some 16,.call (T 11) [(T 15)],none⟩]
def zUF:List XO:=zUG
theorem xq213_4e:E3 zUF zUG:=E3.rfl
abbrev zUI:List XO:=[
 ⟨some 17,.p (.mov (T 5)),none⟩,
 ⟨some 4,.p (.mov (T 17)),none⟩]
def zUH:List XO:=zUI
theorem xq213_5e:E3 zUH zUI:=E3.rfl
abbrev zUK:List XO:=[
 ⟨some 18,.p (.bin .add (T 8) (C (.int .i64 1))),none⟩,
 ⟨some 8,.p (.mov (T 18)),none⟩]
def zUJ:List XO:=zUK
theorem xq213_6e:E3 zUJ zUK:=E3.rfl
def zJT:XC :=
 .seq (.ops zUB) (.seq (.cond (T 9) (.skip) (.exit 0)) (.seq (.block 1 (.seq (.ops zUD) (.seq (.ops zUF) (.cond (T 16) (.seq (.ops zUH) (.ret)) (.skip))))) (.ops zUJ)))
def zUL:XC:=zJT
theorem xq213_7k {pr:Prog} {k:List KI} {Q:XE→Fr→Heap→Prop} {t:Fr} {h:Heap} (hw:wpk pr zJT k Q t h):wpk pr zUL k Q t h:=hw
abbrev zUN:List XO:=[
 ⟨some 4,.p (.mov (C (.int .i64 (-1)))),none⟩]
def zUM:List XO:=zUN
theorem xq213_8e:E3 zUM zUN:=E3.rfl
def xq213:XF:=⟨2,[.tmp 4],
 .seq (.ops zT7) (.seq (.seq (.ops zT9) (.block 0 (.loop zUL))) (.seq (.ops zUM) (.ret)))⟩
def yq213:=PLift.up (And.intro (And.intro (And.intro (@xq213_0e) (@xq213_1e)) (And.intro (@xq213_2e) (@xq213_3e))) (And.intro (And.intro (@xq213_4e) (@xq213_5e)) (And.intro (@xq213_6e) (@xq213_8e))))
theorem cq213:zX Tryz.prog Tryz.f213=some xq213:=by kernel_rfl
abbrev zRe:List XO:=[
 ⟨some 1,.a (.box (T 0)),none⟩,
 ⟨some 2,.p (.mov (C (.bool false))),none⟩]
def zRd:List XO:=zRe
theorem xq171_0e:E3 zRd zRe:=E3.rfl
abbrev zRg:List XO:=[
 ⟨some 3,.r (.loadN 3 (T 1)),none⟩,
 ⟨some 4,.call (.func 172) [(T 3)],none⟩,
 ⟨some 5,.p (.un .not (T 4)),none⟩,
 ⟨some 2,.p (.mov (T 5)),none⟩]
def zRf:List XO:=zRg
theorem xq171_1e:E3 zRf zRg:=E3.rfl
def xq171:XF:=⟨1,[.tmp 2],
 .seq (.ops zRd) (.seq (.ops zRf) (.ret))⟩
def yq171:=PLift.up (And.intro (@xq171_0e) (@xq171_1e))
theorem cq171:zX Tryz.prog Tryz.f171=some xq171:=by kernel_rfl
abbrev zPT:List XO:=[
 ⟨some 1,.a (.box (T 0)),none⟩,
 ⟨some 2,.p (.mov (C (.int .i64 0))),none⟩]
def zPS:List XO:=zPT
theorem xq119_0e:E3 zPS zPT:=E3.rfl
abbrev zPV:List XO:=[
 ⟨some 3,.p (.faddr 1 (T 1)),none⟩,
 ⟨some 4,.r (.load1 (T 3)),none⟩,
 ⟨some 5,.p (.bin .lss (T 4) (C (.int .u64 1))),none⟩,
 ⟨some 6,.p (.mov (T 5)),none⟩,
 ⟨some 7,.p (.faddr 2 (T 1)),some (6,false)⟩,
 ⟨some 8,.r (.load1 (T 7)),some (6,false)⟩,
 ⟨some 9,.p (.lenV (T 8)),some (6,false)⟩,
 ⟨some 10,.p (.bin .lss (T 9) (C (.int .i64 1))),some (6,false)⟩,
 ⟨some 11,.p (.pick (T 6) (C (.bool true)) (T 10)),none⟩,
 ⟨some 12,.p (.mov (T 11)),none⟩,
 ⟨some 13,.p (.faddr 2 (T 1)),some (12,false)⟩,
 ⟨some 14,.r (.load1 (T 13)),some (12,false)⟩,
 ⟨some 15,.p (.lenV (T 14)),some (12,false)⟩,
 ⟨some 16,.p (.bin .gtr (T 15) (C (.int .i64 8))),some (12,false)⟩,
 ⟨some 17,.p (.pick (T 12) (C (.bool true)) (T 16)),none⟩,
 ⟨some 18,.p (.mov (T 17)),none⟩,
 ⟨some 19,.p (.faddr 2 (T 1)),some (18,false)⟩,
 ⟨some 20,.r (.load1 (T 19)),some (18,false)⟩,
 ⟨some 21,.call (.func 170) [(T 20),(.func 171)],some (18,false)⟩,
 ⟨some 22,.p (.pick (T 18) (C (.bool true)) (T 21)),none⟩]
def zPU:List XO:=zPV
theorem xq119_1e:E3 zPU zPV:=E3.rfl
abbrev zPX:List XO:=[
 ⟨some 2,.p (.mov (C (.int .i64 40))),none⟩]
def zPW:List XO:=zPX
theorem xq119_2e:E3 zPW zPX:=E3.rfl
abbrev zPZ:List XO:=[
 ⟨some 2,.p (.mov (C (.int .i64 0))),none⟩]
def zPY:List XO:=zPZ
theorem xq119_3e:E3 zPY zPZ:=E3.rfl
def xq119:XF:=⟨1,[.tmp 2],
 .seq (.ops zPS) (.seq (.seq (.ops zPU) (.cond (T 22) (.seq (.ops zPW) (.ret)) (.skip))) (.seq (.ops zPY) (.ret)))⟩
def yq119:=PLift.up (And.intro (And.intro (@xq119_0e) (@xq119_1e)) (And.intro (@xq119_2e) (@xq119_3e)))
theorem cq119:zX Tryz.prog Tryz.f119=some xq119:=by kernel_rfl
abbrev zNr:List XO:=[
 ⟨some 2,.a (.alloc [(.slice none 0 0),(.bool false),(.string (strOf [])),(.string (strOf []))]),none⟩]
def zNq:List XO:=zNr
theorem xq106_0e:E3 zNq zNr:=E3.rfl
abbrev zNz:List XO:=[
 ⟨some 3,.a (.alloc [(.slice none 0 0),(.bool false),(.string (strOf [])),(.string (strOf []))]),none⟩]
def zNs:List XO:=zNz
theorem xq106_1e:E3 zNs zNz:=E3.rfl
abbrev zN1:List XO:=[
 ⟨some 5,.p (.mov (T 0)),none⟩,
 ⟨some 6,.call (.func 108) [(T 5),(C (.int .i64 256))],none⟩,
 ⟨some 4,.p (.mov (T 6)),none⟩]
def zN0:List XO:=zN1
theorem xq106_2e:E3 zN0 zN1:=E3.rfl
abbrev zN3:List XO:=[
 ⟨some 7,.p (.mov (T 4)),none⟩,
 ⟨some 8,.p (.bin .gtr (T 7) (C (.int .i64 0))),none⟩,
 ⟨some 9,.p (.mov (T 8)),none⟩,
 ⟨some 10,.p (.mov (T 0)),some (9,true)⟩,
 ⟨some 11,.call (.func 109) [(T 10)],some (9,true)⟩,
 ⟨some 12,.p (.eql false .int (T 11) (C (.int .i64 0))),some (9,true)⟩,
 ⟨some 13,.p (.pick (T 9) (T 12) (C (.bool false))),none⟩]
def zN2:List XO:=zN3
theorem xq106_3e:E3 zN2 zN3:=E3.rfl
abbrev zN5:List XO:=[
 ⟨some 16,.p (.faddr 0 (T 3)),none⟩,
 ⟨some 17,.r (.load1 (T 16)),none⟩,
 ⟨some 18,.p (.mov (T 0)),none⟩,
 ⟨some 19,.call (.func 90) [(T 18)],none⟩,
 ⟨some 20,.a (.bslice [(.string (strOf []))] 1 [(0,1,(T 19))]),none⟩,
 ⟨some 21,.e (.append 1 16 (T 17) (T 20)),none⟩,
 ⟨some 22,.p (.faddr 0 (T 3)),none⟩,
 ⟨none,.e (.store 1 (T 22) (T 21)),none⟩]
def zN4:List XO:=zN5
theorem xq106_4e:E3 zN4 zN5:=E3.rfl
abbrev zN7:List XO:=[
 ⟨some 14,.p (.mov (T 4)),none⟩,
 ⟨some 15,.p (.bin .sub (T 14) (C (.int .i64 1))),none⟩,
 ⟨some 4,.p (.mov (T 15)),none⟩]
def zN6:List XO:=zN7
theorem xq106_5e:E3 zN6 zN7:=E3.rfl
def zJC:XC :=
 .seq (.seq (.ops zN2) (.cond (T 13) (.skip) (.exit 0))) (.seq (.block 1 (.draw zN4 [(1,(5,[]))])) (.ops zN6))
def zN8:XC:=zJC
theorem xq106_6k {pr:Prog} {k:List KI} {Q:XE→Fr→Heap→Prop} {t:Fr} {h:Heap} (hw:wpk pr zJC k Q t h):wpk pr zN8 k Q t h:=hw
abbrev zOA:List XO:=[
 ⟨some 23,.p (.mov (T 0)),none⟩,
 ⟨some 24,.call (.func 105) [(T 23)],none⟩,
 ⟨some 25,.p (.faddr 1 (T 3)),none⟩,
 ⟨none,.e (.store 1 (T 25) (T 24)),none⟩]
def zN9:List XO:=zOA
theorem xq106_7e:E3 zN9 zOA:=E3.rfl
abbrev zOC:List XO:=[
 ⟨some 26,.p (.faddr 1 (T 3)),none⟩,
 ⟨some 27,.r (.load1 (T 26)),none⟩]
def zOB:List XO:=zOC
theorem xq106_8e:E3 zOB zOC:=E3.rfl
abbrev zOE:List XO:=[
 ⟨some 28,.p (.mov (T 0)),none⟩,
 ⟨some 29,.call (.func 90) [(T 28)],none⟩,
 ⟨some 30,.p (.mov (T 0)),none⟩,
 ⟨some 31,.call (.func 90) [(T 30)],none⟩,
 ⟨some 32,.p (.build [(.string (strOf [])),(.string (strOf []))] [(0,1,(T 29)),(1,1,(T 31))]),none⟩,
 ⟨some 33,.p (.faddr 2 (T 3)),none⟩,
 ⟨none,.e (.store 2 (T 33) (T 32)),none⟩]
def zOD:List XO:=zOE
theorem xq106_9e:E3 zOD zOE:=E3.rfl
abbrev zNu:List XO:=[
 ⟨some 34,.p (.mov (T 0)),none⟩,
 ⟨some 35,.call (.func 109) [(T 34)],none⟩,
 ⟨some 36,.p (.eql true .int (T 35) (C (.int .i64 0))),none⟩]
def zNt:List XO:=zNu
theorem zcU:E3 zNt zNu:=E3.rfl
abbrev zNw:List XO:=[
 ⟨some 37,.p (.build [(.slice none 0 0),(.bool false),(.string (strOf [])),(.string (strOf []))] []),none⟩,
 ⟨none,.e (.store 4 (T 2) (T 37)),none⟩]
def zNv:List XO:=zNw
theorem zcV:E3 zNv zNw:=E3.rfl
abbrev zNy:List XO:=[
 ⟨some 38,.r (.loadN 4 (T 3)),none⟩,
 ⟨none,.e (.store 4 (T 2) (T 38)),none⟩]
def zNx:List XO:=zNy
theorem zcW:E3 zNx zNy:=E3.rfl
def xq106:XF:=⟨1,[.cellN 2 4],
 .seq (.ops zNq) (.seq (.ops zNs) (.seq (.seq (.ops zN0) (.block 0 (.loop zN8))) (.seq (.seq (.ops zN9) (.seq (.ops zOB) (.cond (T 27) (.ops zOD) (.skip)))) (.seq (.seq (.ops zNt) (.cond (T 36) (.seq (.ops zNv) (.ret)) (.skip))) (.seq (.ops zNx) (.ret))))))⟩
def yq106:=PLift.up (And.intro (And.intro (And.intro (@xq106_0e) (And.intro (@xq106_1e) (@xq106_2e))) (And.intro (@xq106_3e) (And.intro (@xq106_4e) (@xq106_5e)))) (And.intro (And.intro (@xq106_7e) (And.intro (@xq106_8e) (@xq106_9e))) (And.intro (@zcU) (And.intro (@zcV) (@zcW)))))
theorem cq106:zX Tryz.prog Tryz.f106=some xq106:=by kernel_rfl
abbrev zWs:List XO:=[
 ⟨some 2,.a (.alloc [(.int .u64 0),(.string (strOf [])),(.string (strOf [])),(.string (strOf [])),(.slice none 0 0),(.slice none 0 0),(.string (strOf [])),(.bool false),(.string (strOf [])),(.slice none 0 0),(.bool false),(.string (strOf [])),(.string (strOf []))]),none⟩,
 ⟨some 3,.p (.mov (C (.int .i64 0))),none⟩]
def xq42_0:List XO:=zWs
theorem xq42_0e:E3 xq42_0 zWs:=E3.rfl
abbrev zWt:List XO:=[
 ⟨some 7,.p (.mov (T 0)),none⟩,
 ⟨some 8,.call (.func 86) [(T 7)],none⟩,
 ⟨some 4,.p (.mov (T 8)),none⟩]
def xq42_1:List XO:=zWt
theorem xq42_1e:E3 xq42_1 zWt:=E3.rfl
abbrev zWu:List XO:=[
 ⟨some 9,.p (.mov (T 4)),none⟩,
 ⟨some 10,.call (.func 103) [(T 9)],none⟩,
 ⟨some 11,.p (.mov (T 4)),none⟩,
 ⟨some 12,.call (.func 104) [(T 11)],none⟩,
 ⟨some 13,.p (.mov (T 4)),none⟩,
 ⟨some 14,.call (.func 87) [(T 13),(C (.int .i64 32))],none⟩,
 ⟨some 15,.p (.mov (T 4)),none⟩,
 ⟨some 16,.call (.func 105) [(T 15)],none⟩,
 ⟨some 17,.p (.mov (T 4)),none⟩,
 ⟨some 18,.call (.func 87) [(T 17),(C (.int .i64 64))],none⟩,
 ⟨some 19,.p (.mov (T 4)),none⟩,
 ⟨some 20,.call (.func 106) [(T 19)],none⟩,
 ⟨some 21,.p (.build [(.int .u64 0),(.string (strOf [])),(.string (strOf [])),(.string (strOf [])),(.slice none 0 0),(.slice none 0 0),(.string (strOf [])),(.bool false),(.string (strOf [])),(.slice none 0 0),(.bool false),(.string (strOf [])),(.string (strOf []))] [(0,5,(T 10)),(5,1,(T 12)),(6,1,(T 14)),(7,1,(T 16)),(8,1,(T 18)),(9,4,(T 20))]),none⟩,
 ⟨some 5,.a (.alloc [(.int .u64 0),(.string (strOf [])),(.string (strOf [])),(.string (strOf [])),(.slice none 0 0),(.slice none 0 0),(.string (strOf [])),(.bool false),(.string (strOf [])),(.slice none 0 0),(.bool false),(.string (strOf [])),(.string (strOf []))]),none⟩,
 ⟨none,.e (.store 13 (T 5) (T 21)),none⟩]
def xq42_2:List XO:=zWu
theorem xq42_2e:E3 xq42_2 zWu:=E3.rfl
abbrev zWv:List XO:=[
 ⟨some 22,.p (.mov (T 4)),none⟩,
 ⟨some 23,.call (.func 91) [(T 22)],none⟩,
 ⟨some 6,.p (.mov (T 23)),none⟩]
def xq42_3:List XO:=zWv
theorem xq42_3e:E3 xq42_3 zWv:=E3.rfl
abbrev zWw:List XO:=[
 ⟨some 24,.p (.mov (T 6)),none⟩,
 ⟨some 25,.p (.eql true .int (T 24) (C (.int .i64 0))),none⟩]
def xq42_4:List XO:=zWw
theorem xq42_4e:E3 xq42_4 zWw:=E3.rfl
abbrev zWx:List XO:=[
 ⟨some 26,.p (.build [(.int .u64 0),(.string (strOf [])),(.string (strOf [])),(.string (strOf [])),(.slice none 0 0),(.slice none 0 0),(.string (strOf [])),(.bool false),(.string (strOf [])),(.slice none 0 0),(.bool false),(.string (strOf [])),(.string (strOf []))] []),none⟩,
 ⟨some 27,.p (.mov (T 6)),none⟩,
 ⟨none,.e (.store 13 (T 2) (T 26)),none⟩,
 ⟨some 3,.p (.mov (T 27)),none⟩]
def xq42_5:List XO:=zWx
theorem xq42_5e:E3 xq42_5 zWx:=E3.rfl
abbrev zWy:List XO:=[
 ⟨some 28,.r (.loadN 13 (T 5)),none⟩,
 ⟨none,.e (.store 13 (T 2) (T 28)),none⟩,
 ⟨some 3,.p (.mov (C (.int .i64 0))),none⟩]
def xq42_6:List XO:=zWy
theorem xq42_6e:E3 xq42_6 zWy:=E3.rfl
def xq42:XF:=⟨1,[.cellN 2 13,.tmp 3],
 .seq (.ops xq42_0) (.seq (.ops xq42_1) (.seq (.ops xq42_2) (.seq (.seq (.ops xq42_3) (.seq (.ops xq42_4) (.cond (T 25) (.seq (.ops xq42_5) (.ret)) (.skip)))) (.seq (.ops xq42_6) (.ret)))))⟩
def yq42:=PLift.up (And.intro (And.intro (@xq42_0e) (And.intro (@xq42_1e) (@xq42_2e))) (And.intro (And.intro (@xq42_3e) (@xq42_4e)) (And.intro (@xq42_5e) (@xq42_6e))))
theorem cq42:zX Tryz.prog Tryz.f42=some xq42:=by kernel_rfl
abbrev zWz:List XO:=[
 ⟨some 2,.a (.alloc [(.int .u64 0),(.string (strOf [])),(.string (strOf [])),(.string (strOf [])),(.slice none 0 0),(.slice none 0 0),(.int .u64 0),(.int .u64 0),(.slice none 0 0),(.int .i64 0),(.int .i64 0),(.slice none 0 0)]),none⟩,
 ⟨some 3,.p (.mov (C (.int .i64 0))),none⟩]
def xq43_0:List XO:=zWz
theorem xq43_0e:E3 xq43_0 zWz:=E3.rfl
abbrev zW4:List XO:=[
 ⟨some 8,.p (.mov (T 0)),none⟩,
 ⟨some 9,.call (.func 86) [(T 8)],none⟩,
 ⟨some 4,.p (.mov (T 9)),none⟩]
def xq43_1:List XO:=zW4
theorem xq43_1e:E3 xq43_1 zW4:=E3.rfl
abbrev zW5:List XO:=[
 ⟨some 10,.p (.mov (T 4)),none⟩,
 ⟨some 11,.call (.func 103) [(T 10)],none⟩,
 ⟨some 12,.p (.mov (T 4)),none⟩,
 ⟨some 13,.call (.func 104) [(T 12)],none⟩,
 ⟨some 14,.p (.mov (T 4)),none⟩,
 ⟨some 15,.call (.func 107) [(T 14)],none⟩,
 ⟨some 16,.p (.mov (T 4)),none⟩,
 ⟨some 17,.call (.func 108) [(T 16),(C (.int .i64 16))],none⟩,
 ⟨some 18,.p (.mov (T 4)),none⟩,
 ⟨some 19,.call (.func 108) [(T 18),(C (.int .i64 16))],none⟩,
 ⟨some 20,.p (.build [(.int .u64 0),(.string (strOf [])),(.string (strOf [])),(.string (strOf [])),(.slice none 0 0),(.slice none 0 0),(.int .u64 0),(.int .u64 0),(.slice none 0 0),(.int .i64 0),(.int .i64 0),(.slice none 0 0)] [(0,5,(T 11)),(5,1,(T 13)),(6,3,(T 15)),(9,1,(T 17)),(10,1,(T 19))]),none⟩,
 ⟨some 5,.a (.alloc [(.int .u64 0),(.string (strOf [])),(.string (strOf [])),(.string (strOf [])),(.slice none 0 0),(.slice none 0 0),(.int .u64 0),(.int .u64 0),(.slice none 0 0),(.int .i64 0),(.int .i64 0),(.slice none 0 0)]),none⟩,
 ⟨none,.e (.store 12 (T 5) (T 20)),none⟩]
def xq43_2:List XO:=zW5
theorem xq43_2e:E3 xq43_2 zW5:=E3.rfl
abbrev zW6:List XO:=[
 ⟨some 21,.p (.mov (T 4)),none⟩,
 ⟨some 22,.call (.func 108) [(T 21),(C (.int .i64 8))],none⟩,
 ⟨some 6,.p (.mov (T 22)),none⟩]
def xq43_3:List XO:=zW6
theorem xq43_3e:E3 xq43_3 zW6:=E3.rfl
abbrev zW7:List XO:=[
 ⟨some 23,.p (.mov (T 6)),none⟩,
 ⟨some 24,.p (.bin .gtr (T 23) (C (.int .i64 0))),none⟩,
 ⟨some 25,.p (.mov (T 24)),none⟩,
 ⟨some 26,.p (.mov (T 4)),some (25,true)⟩,
 ⟨some 27,.call (.func 109) [(T 26)],some (25,true)⟩,
 ⟨some 28,.p (.eql false .int (T 27) (C (.int .i64 0))),some (25,true)⟩,
 ⟨some 29,.p (.pick (T 25) (T 28) (C (.bool false))),none⟩]
def xq43_4:List XO:=zW7
theorem xq43_4e:E3 xq43_4 zW7:=E3.rfl
abbrev zW8:List XO:=[
 ⟨some 32,.p (.faddr 11 (T 5)),none⟩,
 ⟨some 33,.r (.load1 (T 32)),none⟩,
 ⟨some 34,.p (.mov (T 4)),none⟩,
 ⟨some 35,.call (.func 90) [(T 34)],none⟩,
 ⟨some 36,.a (.bslice [(.string (strOf []))] 1 [(0,1,(T 35))]),none⟩,
 ⟨some 37,.e (.append 1 16 (T 33) (T 36)),none⟩,
 ⟨some 38,.p (.faddr 11 (T 5)),none⟩,
 ⟨none,.e (.store 1 (T 38) (T 37)),none⟩]
def xq43_5:List XO:=zW8
theorem xq43_5e:E3 xq43_5 zW8:=E3.rfl
abbrev zW9:List XO:=[
 ⟨some 30,.p (.mov (T 6)),none⟩,
 ⟨some 31,.p (.bin .sub (T 30) (C (.int .i64 1))),none⟩,
 ⟨some 6,.p (.mov (T 31)),none⟩]
def xq43_6:List XO:=zW9
theorem xq43_6e:E3 xq43_6 zW9:=E3.rfl
def zJh:XC :=
 .seq (.seq (.ops xq43_4) (.cond (T 29) (.skip) (.exit 0))) (.seq (.block 1 (.draw xq43_5 [(1,(5,[]))])) (.ops xq43_6))
def xq43_7:XC:=zJh
theorem xq43_7k {pr:Prog} {k:List KI} {Q:XE→Fr→Heap→Prop} {t:Fr} {h:Heap} (hw:wpk pr zJh k Q t h):wpk pr xq43_7 k Q t h:=hw
abbrev zXA:List XO:=[
 ⟨some 39,.p (.mov (T 4)),none⟩,
 ⟨some 40,.call (.func 91) [(T 39)],none⟩,
 ⟨some 7,.p (.mov (T 40)),none⟩]
def xq43_8:List XO:=zXA
theorem xq43_8e:E3 xq43_8 zXA:=E3.rfl
abbrev zXB:List XO:=[
 ⟨some 41,.p (.mov (T 7)),none⟩,
 ⟨some 42,.p (.eql true .int (T 41) (C (.int .i64 0))),none⟩]
def xq43_9:List XO:=zXB
theorem xq43_9e:E3 xq43_9 zXB:=E3.rfl
abbrev zW1:List XO:=[
 ⟨some 43,.p (.build [(.int .u64 0),(.string (strOf [])),(.string (strOf [])),(.string (strOf [])),(.slice none 0 0),(.slice none 0 0),(.int .u64 0),(.int .u64 0),(.slice none 0 0),(.int .i64 0),(.int .i64 0),(.slice none 0 0)] []),none⟩,
 ⟨some 44,.p (.mov (T 7)),none⟩,
 ⟨none,.e (.store 12 (T 2) (T 43)),none⟩,
 ⟨some 3,.p (.mov (T 44)),none⟩]
def zW0:List XO:=zW1
theorem xq43_10e:E3 zW0 zW1:=E3.rfl
abbrev zW3:List XO:=[
 ⟨some 45,.r (.loadN 12 (T 5)),none⟩,
 ⟨none,.e (.store 12 (T 2) (T 45)),none⟩,
 ⟨some 3,.p (.mov (C (.int .i64 0))),none⟩]
def zW2:List XO:=zW3
theorem xq43_11e:E3 zW2 zW3:=E3.rfl
def xq43:XF:=⟨1,[.cellN 2 12,.tmp 3],
 .seq (.ops xq43_0) (.seq (.ops xq43_1) (.seq (.ops xq43_2) (.seq (.seq (.ops xq43_3) (.block 0 (.loop xq43_7))) (.seq (.seq (.ops xq43_8) (.seq (.ops xq43_9) (.cond (T 42) (.seq (.ops zW0) (.ret)) (.skip)))) (.seq (.ops zW2) (.ret))))))⟩
def yq43:=PLift.up (And.intro (And.intro (And.intro (@xq43_0e) (@xq43_1e)) (And.intro (@xq43_2e) (And.intro (@xq43_3e) (@xq43_4e)))) (And.intro (And.intro (@xq43_5e) (And.intro (@xq43_6e) (@xq43_8e))) (And.intro (@xq43_9e) (And.intro (@xq43_10e) (@xq43_11e)))))
theorem cq43:zX Tryz.prog Tryz.f43=some xq43:=by kernel_rfl
end Go.X
end
section
open Go Go.X
namespace Go.X
set_option linter.unusedVariables false
def RdInts (h:Heap) (v:Value) (l:List Int):Prop:=∀h',Grows h h'→zAH h' v=some l
theorem RdInts.grow {h h':Heap} {v:Value} {l:List Int} (hr:RdInts h v l) (g:Grows h h'):RdInts h' v l:=fun h2 g2=>hr h2 (g.trans g2)
theorem RdInts.now {h:Heap} {v:Value} {l:List Int} (hr:RdInts h v l):zAH h v=some l:=hr h (Grows.refl h)
theorem Own.ints {h:Heap} {S:Nat→Prop} {v:Value} {n:Nat} {l:List Int} (ho:Own h S 1 v n (zAA l)) (hb:∀x∈l,-9223372036854775808≤x∧x<9223372036854775808):zAH h v=some l:=by
 obtain⟨a,cap,rfl,hs⟩:=ho.shape
 by_cases h0:n=0
 ·subst h0
  have:=ho.nil_of
  obtain rfl:l=[]:=by cases l with|nil=>rfl|cons x l=>simp[zAA] at this
  cases a<;>simp[zAH]
 ·obtain⟨B,off,sp,rfl,h1,_⟩:=hs h0
  rw[Nat.mul_one] at h1
  simp only[zAH]
  rw[if_neg h0]
  simp only[h1,zHq hb]
theorem Own.rdInts {h:Heap} {S:Nat→Prop} {v:Value} {n:Nat} {l:List Int} (ho:Own h S 1 v n (zAA l)) (hb:∀x∈l,-9223372036854775808≤x∧x<9223372036854775808):RdInts h v l:=fun _ g=>(ho.grow g).ints hb
theorem Own.pushI {g:Heap} {S:Nat→Prop} {v:Value} {n:Nat} {q:List Int} (hO:Own g S 1 v n (zAA q)) (x:Int) (hroom:(n+1)*8≤zT) :
  ∃v' g',zAi (g.new [.int .i64 x]) 1 8 v (.slice (some ⟨g.next,0,none⟩) 1 1)=some (v',g')∧Own g' (fun A=>S A∨g.next≤A) 1 v' (n+1) (zAA (q++[x]))∧Keeps S g g':=by
 have hO1:=hO.grow (Grows.new (l:=[.int .i64 x]))
 have hs1:=(Var.new_self (h:=g) (l:=[.int .i64 x])).src (n:=1) (esz:=1) (bytes:=8) (s:=v) (sp:=none) (c:=1) rfl (by decide)
 obtain⟨v',g2,e2,hO2,k2⟩:=hO1.append (bytes:=8) (m:=1) (new:=[.int .i64 x]) rfl rfl (by decide) (by decide) hroom
 have hk:Keeps S g g2:=(Keeps.new (W:=S)).trans k2 (fun _ _ e=>e)
 refine⟨v',g2,by rw[hs1,e2],?_,hk⟩
 have e:zAA q++[.int .i64 x]=zAA (q++[x]):=by simp[zAA]
 rw[e] at hO2
 exact hO2.mono fun A hA=>hA.imp id fun q=>by
  have:(g.new [.int .i64 x]).next=g.next+1:=rfl
  omega
def zCD:Nat→RS→List Int→RS×List Int
 | 0,r,acc=>(r,acc)
 | n+1,r,acc=>if r.err=0 then zCD n (zU r 1).1 (acc++[((zU r 1).2:Int)]) else (r,acc)
def memQ (p:RS×List Int):RS×List Int:=if p.1.err=0 then (if zAt p.2=true then p else (⟨p.1.s,p.1.pos,6⟩,[])) else (p.1,[])
def zBF (r:RS):RS×List Int:=memQ (zCD (zU r 1).2 (zU r 1).1 [])
structure MemTab (pr:Prog):Prop where
 wire:zAL pr
 mem:pr.prim 56=some zCX
 tm:pr.prim 88=none
 tmC:pr.code 88=some xq88
theorem TM_run {pr:Prog} (T:MemTab pr) {h:Heap} {R:Nat} {r:RS} (hr:Rd h R r) :
  ∃v h',cfi pr 88 [.pointer (some ⟨R,0,none⟩)] h=some (v,h')∧Rd h' R (zBF r).1∧Own h' (fun A=>h.next≤A) 1 v (zBF r).2.length (zAA (zBF r).2)∧(∀x∈(zBF r).2,0≤x∧x<256)∧Keeps (fun A=>A=R) h h':=by
 have hr64:zT=140737488355328:=rfl
 refine zq T.tm T.tmC rfl ?_
 unfold xq88
 dsimp only[zY]
 refine wpk.out (k:=[]) ?_
 have hR:R<h.next:=hr.2.1
 obtain⟨gc,ec,rdc,kc⟩:=zB4 T.wire hr 1 (by decide)
 have hn0:=zC4 r
 have eu:uw .u64 (zU r 1).2=.int .u64 ((zU r 1).2:Int):=(zBj (by omega)).symm
 rw[eu] at ec
 have ec:cfi pr 89 [.pointer (some ⟨R,0,none⟩),.int .i64 1] h=some (.int .u64 ((zU r 1).2:Int),gc):=ec
 have ntc:=kc.next
 (repeat (first|refine zS ?_|refine zK ?_|refine zR ?_|refine zD ?_|refine zB ?_|refine zI ?_|refine zJ ?_|refine zP ?_|refine zE ?_|refine zG ?_|refine zF ?_|refine zH (by decide) ?_|refine zQ ?_|((first|refine zC ?_|refine zM ?_|refine zO rfl rfl ?_|refine zN rfl ?_|refine zL ?_);simp only[yq88.down,zA,lemS.down,lemC.down,zdO,zdN,zdL,reduceIte,zdM,zdP,zdQ,zdR,zdS,zdT,zdU,zdV,zdW,reduceCtorEq,lemH.down,ec])))
 refine zAU (fun m t g=>∃r2 acc v,m+acc.length≤256∧zCD m r2 acc=zCD (zU r 1).2 (zU r 1).1 []∧Rd g R r2∧Own g (fun A=>h.next≤A) 1 v acc.length (zAA acc)∧(∀x∈acc,0≤x∧x<256)∧Keeps (fun A=>A=R) h g∧h.next≤g.next∧t.get 0=.pointer (some ⟨R,0,none⟩)∧t.get 3=v∧t.get 4=.int .u64 (m:Int)) ?_ (zU r 1).2 _ _
   ⟨_,[],_,by simp;omega,rfl,rdc,Own.nil,by simp,kc,ntc,by simp only[yq88.down,zA,lemS.down,lemC.down,zdO,zdN,zdL,reduceIte,zdM,zdP,zdQ,zdR,zdS,zdT,zdU,zdV,zdW,reduceCtorEq],by simp only[yq88.down,zA,lemS.down,lemC.down,zdO,zdN,zdL,reduceIte,zdM,zdP,zdQ,zdR,zdS,zdT,zdU,zdV,zdW,reduceCtorEq],by simp only[yq88.down,zA,lemS.down,lemC.down,zdO,zdN,zdL,reduceIte,zdM,zdP,zdQ,zdR,zdS,zdT,zdU,zdV,zdW,reduceCtorEq]⟩
 rintro m t g ⟨r2,acc,v,hm,hL,rd,oc,hin,kk,gn,t0,t3,t4⟩ hnext
 refine xq88_6k ?_
 dsimp only[zJl]
 have er:=zAW T.wire rd
 obtain⟨av,cv,rfl,_⟩:=oc.shape
 have eM:zCD m r2 acc=(r2,acc)→zBF r=memQ (r2,acc):=fun e=>by unfold zBF;rw[←hL,e]
 cases m with
 | zero =>
  have eQ:=eM rfl
  by_cases c0:r2.err=0
  ·have b0:((r2.err:Int)==0)=true:=by rw[c0];rfl
   have hi:zAH g (.slice av acc.length cv)=some acc:=oc.ints fun x hx=>by have:=hin x hx;omega
   have em:cfi pr 56 [.slice av acc.length cv] g=some (.bool (zAt acc),g):=zFi T.mem (zGA hi (by omega))
   cases hb:zAt acc with
   | true =>
    rw[hb] at em
    (repeat (first|refine zS ?_|refine zK ?_|refine zR ?_|refine zD ?_|refine zB ?_|refine zI ?_|refine zJ ?_|refine zP ?_|refine zE ?_|refine zG ?_|refine zF ?_|refine zH (by decide) ?_|refine zQ ?_|((first|refine zC ?_|refine zM ?_|refine zO rfl rfl ?_|refine zN rfl ?_|refine zL ?_);simp only[yq88.down,zA,lemS.down,lemC.down,zdO,zdN,zdL,reduceIte,zdM,zdP,zdQ,zdR,zdS,zdT,zdU,zdV,zdW,reduceCtorEq,lemH.down,t0,t3,t4,zc,er,b0,em,Bool.not_true,Bool.not_false])))
    have eR:zBF r=(r2,acc):=by rw[eQ];simp only[memQ,if_pos c0,hb,if_true]
    rw[eR]
    exact⟨.inr rfl,_,by (simp only[yq88.down,zA,lemS.down,lemC.down,zdO,zdN,zdL,reduceIte,zdM,zdP,zdQ,zdR,zdS,zdT,zdU,zdV,zdW,reduceCtorEq,zy,zAQ,resX,zAf])<;>rfl,rd,oc,hin,kk⟩
   | false =>
    rw[hb] at em
    obtain⟨g2,ef,rd2,k2⟩:=zDI T.wire rd 6
    have ef:cfi pr 151 [.pointer (some ⟨R,0,none⟩),.int .i64 6] g=some (.tuple #[],g2):=ef
    rw[if_pos c0] at rd2
    have er2:=zAW T.wire rd2
    (repeat (first|refine zS ?_|refine zK ?_|refine zR ?_|refine zD ?_|refine zB ?_|refine zI ?_|refine zJ ?_|refine zP ?_|refine zE ?_|refine zG ?_|refine zF ?_|refine zH (by decide) ?_|refine zQ ?_|((first|refine zC ?_|refine zM ?_|refine zO rfl rfl ?_|refine zN rfl ?_|refine zL ?_);simp only[yq88.down,zA,lemS.down,lemC.down,zdO,zdN,zdL,reduceIte,zdM,zdP,zdQ,zdR,zdS,zdT,zdU,zdV,zdW,reduceCtorEq,lemH.down,t0,t3,t4,zc,er,b0,em,ef,er2,Bool.not_true,Bool.not_false])))
    have eR:zBF r=(⟨r2.s,r2.pos,6⟩,[]):=by rw[eQ];simp only[memQ,if_pos c0,hb];rfl
    rw[eR]
    exact⟨.inr rfl,_,by (simp only[yq88.down,zA,lemS.down,lemC.down,zdO,zdN,zdL,reduceIte,zdM,zdP,zdQ,zdR,zdS,zdT,zdU,zdV,zdW,reduceCtorEq,zy,zAQ,resX,zAf])<;>rfl,rd2,Own.nil,by simp,kk.trans k2 (fun _ _ q=>q)⟩
  ·have b0:((r2.err:Int)==0)=false:=by rw[beq_eq_false_iff_ne];omega
   (repeat (first|refine zS ?_|refine zK ?_|refine zR ?_|refine zD ?_|refine zB ?_|refine zI ?_|refine zJ ?_|refine zP ?_|refine zE ?_|refine zG ?_|refine zF ?_|refine zH (by decide) ?_|refine zQ ?_|((first|refine zC ?_|refine zM ?_|refine zO rfl rfl ?_|refine zN rfl ?_|refine zL ?_);simp only[yq88.down,zA,lemS.down,lemC.down,zdO,zdN,zdL,reduceIte,zdM,zdP,zdQ,zdR,zdS,zdT,zdU,zdV,zdW,reduceCtorEq,lemH.down,t0,t3,t4,zc,er,b0,Bool.not_true,Bool.not_false])))
   have eR:zBF r=(r2,[]):=by rw[eQ];simp only[memQ,if_neg c0]
   rw[eR]
   exact⟨.inr rfl,_,by (simp only[yq88.down,zA,lemS.down,lemC.down,zdO,zdN,zdL,reduceIte,zdM,zdP,zdQ,zdR,zdS,zdT,zdU,zdV,zdW,reduceCtorEq,zy,zAQ,resX,zAf])<;>rfl,rd,Own.nil,by simp,kk⟩
 | succ m =>
  have d0:decide (((m+1:Nat):Int)>0)=true:=decide_eq_true (by omega)
  by_cases c0:r2.err=0
  ·have b0:((r2.err:Int)==0)=true:=by rw[c0];rfl
   obtain⟨g1,e1,rd1,k1⟩:=zB4 T.wire rd 1 (by decide)
   have e1:cfi pr 89 [.pointer (some ⟨R,0,none⟩),.int .i64 1] g=some (uw .u64 (zU r2 1).2,g1):=e1
   have hn2:=zC4 r2
   have ci:=ci64 (n:=(zU r2 1).2) (by omega)
   have oc1:=oc.keep k1 (fun A hA q=>by omega)
   obtain⟨v2,g2,e2,oc2,k2⟩:=oc1.pushI ((zU r2 1).2:Int) (by omega)
   have wn:IntKind.u64.wrap (((m+1:Nat):Int) - 1)=(m:Int):=by
    have:IntKind.u64.wrap (((m+1:Nat):Int) - 1)=(((m+1:Nat):Int) - 1) % 18446744073709551616:=by simp[IntKind.wrap,IntKind.signed,IntKind.bits]
    rw[this]
    omega
   have fl:z8 [.int .i64 0] [(0,1,.int .i64 ((zU r2 1).2:Int))]=some [.int .i64 ((zU r2 1).2:Int)]:=rfl
   (repeat (first|refine zS ?_|refine zK ?_|refine zR ?_|refine zD ?_|refine zB ?_|refine zI ?_|refine zJ ?_|refine zP ?_|refine zE ?_|refine zG ?_|refine zF ?_|refine zH (by decide) ?_|refine zQ ?_|((first|refine zC ?_|refine zM ?_|refine zO rfl rfl ?_|refine zN rfl ?_|refine zL ?_);simp only[yq88.down,zA,lemS.down,lemC.down,zdO,zdN,zdL,reduceIte,zdM,zdP,zdQ,zdR,zdS,zdT,zdU,zdV,zdW,reduceCtorEq,lemH.down,t0,t3,t4,d0,zc,er,b0,e1,ci,fl,e2,wn])))
   have n1:=k1.next
   have n2:=k2.next
   refine hnext m _ _ (Nat.lt_succ_self m) ⟨(zU r2 1).1,acc++[((zU r2 1).2:Int)],v2,by simp;omega,?_,rd1.keep k2 (fun q=>by omega),?_,?_,(kk.trans k1 (fun _ _ q=>q)).trans k2 (fun A hA q=>by omega),by omega,by simp only[yq88.down,zA,lemS.down,lemC.down,zdO,zdN,zdL,reduceIte,zdM,zdP,zdQ,zdR,zdS,zdT,zdU,zdV,zdW,reduceCtorEq,t0],by simp only[yq88.down,zA,lemS.down,lemC.down,zdO,zdN,zdL,reduceIte,zdM,zdP,zdQ,zdR,zdS,zdT,zdU,zdV,zdW,reduceCtorEq],by (simp only[yq88.down,zA,lemS.down,lemC.down,zdO,zdN,zdL,reduceIte,zdM,zdP,zdQ,zdR,zdS,zdT,zdU,zdV,zdW,reduceCtorEq])<;>rfl⟩
   ·rw[←hL]
    conv=>rhs;unfold zCD
    rw[if_pos c0]
   ·rw[List.length_append]
    exact oc2.mono fun A hA=>by omega
   ·intro x hx
    rcases List.mem_append.1 hx with h|h
    ·exact hin x h
    ·rw[List.mem_singleton.1 h];omega
  ·have b0:((r2.err:Int)==0)=false:=by rw[beq_eq_false_iff_ne];omega
   have eQ:=eM (by unfold zCD;rw[if_neg c0])
   (repeat (first|refine zS ?_|refine zK ?_|refine zR ?_|refine zD ?_|refine zB ?_|refine zI ?_|refine zJ ?_|refine zP ?_|refine zE ?_|refine zG ?_|refine zF ?_|refine zH (by decide) ?_|refine zQ ?_|((first|refine zC ?_|refine zM ?_|refine zO rfl rfl ?_|refine zN rfl ?_|refine zL ?_);simp only[yq88.down,zA,lemS.down,lemC.down,zdO,zdN,zdL,reduceIte,zdM,zdP,zdQ,zdR,zdS,zdT,zdU,zdV,zdW,reduceCtorEq,lemH.down,t0,t3,t4,d0,zc,er,b0,Bool.not_true,Bool.not_false])))
   have eR:zBF r=(r2,[]):=by rw[eQ];simp only[memQ,if_neg c0]
   rw[eR]
   exact⟨.inr rfl,_,by (simp only[yq88.down,zA,lemS.down,lemC.down,zdO,zdN,zdL,reduceIte,zdM,zdP,zdQ,zdR,zdS,zdT,zdU,zdV,zdW,reduceCtorEq,zy,zAQ,resX,zAf])<;>rfl,rd,Own.nil,by simp,kk⟩
end Go.X
end
section
open Go Go.X
namespace Go.X
set_option linter.unusedVariables false
def zeroH:Hdr:=⟨0,[],[],[],[]⟩
def zBh (r:RS):RS×Hdr :=
 ((zBF (zZ (zZ (zZ (zU r 8).1 32).1 32).1 32).1).1,⟨(zU r 8).2,(zZ (zU r 8).1 32).2,(zZ (zZ (zU r 8).1 32).1 32).2,(zZ (zZ (zZ (zU r 8).1 32).1 32).1 32).2,(zBF (zZ (zZ (zZ (zU r 8).1 32).1 32).1 32).1).2⟩)
def zCu (p:RS×Hdr):RS×Hdr:=if p.1.err=0 then (if zAP p.2=0 then p else (⟨p.1.s,p.1.pos,zAP p.2⟩,zeroH)) else (p.1,zeroH)
def zAV (r:RS):RS×Hdr:=zCu (zBh r)
theorem box5 {h:Heap} (l:List Value):∃g,h.new l=g∧Var g h.next l∧Grows h g∧g.next=h.next+1:=⟨_,rfl,Var.new_self,Grows.new,rfl⟩
theorem zHE (r:RS):(zZ r 32).2.length≤32:=zFd r 32
theorem zLT:∀ (n:Nat) (r:RS) (acc:List Int),(zCD n r acc).2.length≤acc.length+n
 | 0,r,acc=>by simp[zCD]
 | n+1,r,acc=>by
  unfold zCD
  split
  ·have:=zLT n (zU r 1).1 (acc++[((zU r 1).2:Int)])
   rw[List.length_append] at this
   simp only[List.length_cons,List.length_nil] at this
   omega
  ·show acc.length≤_;omega
theorem zbP (r:RS):(zBF r).2.length≤256:=by
 have h1:=zLT (zU r 1).2 (zU r 1).1 []
 have h2:=zC4 r
 simp only[List.length_nil] at h1
 unfold zBF memQ
 split
 ·split
  ·omega
  ·exact Nat.zero_le _
 ·exact Nat.zero_le _
structure HdTab (pr:Prog):Prop extends MemTab pr where
 chk:pr.prim 64=some zCS
 ht:pr.prim 103=none
 htC:pr.code 103=some xq103
theorem HT_run {pr:Prog} (T:HdTab pr) {h:Heap} {R:Nat} {r:RS} (hr:Rd h R r) :
  ∃w h',cfi pr 103 [.pointer (some ⟨R,0,none⟩)] h=some (w,h')∧∃mv,w=.agg (hcells (zAV r).2 mv).toArray∧Rd h' R (zAV r).1∧Own h' (fun A=>h.next≤A) 1 mv (zAV r).2.m.length (zAA (zAV r).2.m)∧HdAt h' (zAV r).2 mv∧Keeps (fun A=>A=R) h h':=by
 have hr64:zT=140737488355328:=rfl
 refine zq T.ht T.htC rfl ?_
 unfold xq103
 dsimp only[zY]
 refine wpk.out (k:=[]) ?_
 have hR:R<h.next:=hr.2.1
 obtain⟨ga,hga,va,gga,gna⟩:=box5 (h:=h) [.int .u64 0,.string (strOf []),.string (strOf []),.string (strOf []),.slice none 0 0]
 obtain⟨gb,eb,rb,kb⟩:=zB4 T.wire (hr.grow gga) 8 (by decide)
 have eb:cfi pr 89 [.pointer (some ⟨R,0,none⟩),.int .i64 8] ga=some (uw .u64 (zU r 8).2,gb):=eb
 have hn:(zU r 8).2<18446744073709551616:=zEJ r (k:=8) (by decide)
 rw[←zBj hn] at eb
 obtain⟨gc,ec,rc,kc⟩:=zB3 T.wire rb
 obtain⟨gd,ed,rd,kd⟩:=zB3 T.wire rc
 obtain⟨ge,ee,re,ke⟩:=zB3 T.wire rd
 obtain⟨mv,gf,ef,rf,of,hf,kf⟩:=TM_run T.toMemTab re
 have e0:(zBh r).1=(zBF (zZ (zZ (zZ (zU r 8).1 32).1 32).1 32).1).1:=rfl
 have x1:(zU r 8).2=(zBh r).2.n:=rfl
 have x2:(zZ (zU r 8).1 32).2=(zBh r).2.p:=rfl
 have x3:(zZ (zZ (zU r 8).1 32).1 32).2=(zBh r).2.t:=rfl
 have x4:(zZ (zZ (zZ (zU r 8).1 32).1 32).1 32).2=(zBh r).2.s:=rfl
 have x5:(zBF (zZ (zZ (zZ (zU r 8).1 32).1 32).1 32).1).2=(zBh r).2.m:=rfl
 have lp:(zBh r).2.p.length≤32:=zHE _
 have lt:(zBh r).2.t.length≤32:=zHE _
 have ls:(zBh r).2.s.length≤32:=zHE _
 have lm:(zBh r).2.m.length≤256:=zbP _
 rw[x1] at eb hn
 rw[x2] at ec
 rw[x3] at ed
 rw[x4] at ee
 rw[x5] at of hf
 rw[←e0] at rf
 obtain⟨q,eq⟩:∃q,zBh r=q:=⟨_,rfl⟩
 have eR:zAV r=zCu q:=by rw[zAV,eq]
 rw[eq] at eb ec ed ee of hf hn lp lt ls lm rf
 rw[eR]
 clear eR eq x1 x2 x3 x4 x5 e0
 obtain⟨r2,x⟩:=q
 have lm:x.m.length≤256:=lm
 have lp:x.p.length≤32:=lp
 have lt:x.t.length≤32:=lt
 have ls:x.s.length≤32:=ls
 have hn:x.n<18446744073709551616:=hn
 obtain⟨gg,hgg,vg,ggg,gng⟩:=box5 (h:=gf) [.int .u64 0,.string (strOf []),.string (strOf []),.string (strOf []),.slice none 0 0]
 have ka:Keeps (fun A=>A=R) h gf:=(((((gga.keeps).trans kb (fun _ _ q=>q)).trans kc (fun _ _ q=>q)).trans kd (fun _ _ q=>q)).trans ke (fun _ _ q=>q)).trans kf (fun _ _ q=>q)
 have kab:Keeps (fun A=>A=R) ga gf:=(((kb.trans kc (fun _ _ q=>q)).trans kd (fun _ _ q=>q)).trans ke (fun _ _ q=>q)).trans kf (fun _ _ q=>q)
 have na:ga.next≤gf.next:=kab.next
 have nb:ga.next≤ge.next:=(((kb.trans kc (fun _ _ q=>q)).trans kd (fun _ _ q=>q)).trans ke (fun _ _ q=>q)).next
 have va2:=(va.keep kab (fun q=>by omega)).grow ggg
 obtain⟨av,cv,rfl,_⟩:=of.shape
 have fl:z8 [.int .u64 0,.string (strOf []),.string (strOf []),.string (strOf []),.slice none 0 0] [(0,1,.int .u64 (x.n:Int)),(1,1,.string (strOf x.p)),(2,1,.string (strOf x.t)),(3,1,.string (strOf x.s)),(4,1,.slice av x.m.length cv)]=some (hcells x (.slice av x.m.length cv)):=rfl
 have st:zj gg 5 (.pointer (some ⟨gf.next,0,none⟩)) (.agg (hcells x (.slice av x.m.length cv)).toArray)=some (.tuple #[],gg.wr gf.next (hcells x (.slice av x.m.length cv))):=vg.storeAll rfl rfl (by decide) rfl
 obtain⟨gh,hgh⟩:∃gh,gg.wr gf.next (hcells x (.slice av x.m.length cv))=gh:=⟨_,rfl⟩
 have vh:Var gh gf.next (hcells x (.slice av x.m.length cv)):=by rw[←hgh];exact vg.wr
 have kgh:Keeps (fun A=>A=gf.next) gg gh:=by rw[←hgh];exact Keeps.wr
 have khh:Keeps (fun A=>A=R) h gh:=(ka.trans ggg.keeps (fun _ _ q=>q)).trans kgh (fun A hA e=>by omega)
 have nh:=kgh.next
 rw[hgh] at st
 have ld:∀sp,gh.loadN ⟨gf.next,0,sp⟩ 5=some (hcells x (.slice av x.m.length cv)):=fun sp=>vh.loadAll rfl
 have va3:=va2.keep kgh (fun q=>by omega)
 have rh:Rd gh R r2:=((rf.grow ggg).keep kgh (fun q=>by omega))
 have oh:=(of.bound.grow ggg).keep kgh (fun A hA q=>by have:=hA.2;omega)
 have oh':Own gh (fun A=>h.next≤A) 1 (.slice av x.m.length cv) x.m.length (zAA x.m):=oh.mono fun A hA=>by have:=hA.1;omega
 have hi:zAH gh (.slice av x.m.length cv)=some x.m:=oh.ints fun y hy=>by have:=hf y hy;omega
 have hd:HdAt gh x (.slice av x.m.length cv):=⟨hn,hi,by omega,by rw[hr64];have:=lp;show x.p.length+10000000≤_;omega,by rw[hr64];show x.t.length+10000000≤_;omega,by rw[hr64];show x.s.length+10000000≤_;omega⟩
 have er:=zAW T.wire rh
 have em:cfi pr 64 [.agg (hcells x (.slice av x.m.length cv)).toArray] gh=some (.int .i64 (zAP x:Int),gh):=zFi T.chk (zFw hd.w)
 have stz:∀g,Var g h.next [.int .u64 0,.string (strOf []),.string (strOf []),.string (strOf []),.slice none 0 0]→zj g 5 (.pointer (some ⟨h.next,0,none⟩)) (.agg [.int .u64 0,.string (strOf []),.string (strOf []),.string (strOf []),.slice none 0 0].toArray)=some (.tuple #[],g.wr h.next [.int .u64 0,.string (strOf []),.string (strOf []),.string (strOf []),.slice none 0 0]):=fun g v=>v.storeAll rfl rfl (by decide) rfl
 have zz:HdAt h zeroH (.slice none 0 0):=⟨by decide,rfl,by decide,by decide,by decide,by decide⟩
 by_cases c0:r2.err=0
 ·have b0:((r2.err:Int)==0)=true:=by rw[c0];rfl
  by_cases c1:zAP x=0
  ·rw[c1] at em
   obtain⟨gi,ei,ri,ki⟩:=zDI T.wire rh 0
   have ei:cfi pr 151 [.pointer (some ⟨R,0,none⟩),.int .i64 0] gh=some (.tuple #[],gi):=ei
   rw[if_pos c0] at ri
   have ri:Rd gi R r2:=by obtain⟨s,p,e⟩:=r2;simp only at c0;subst c0;exact ri
   have eri:=zAW T.wire ri
   have vhi:=vh.keep ki (fun q=>by omega)
   have vai:=va3.keep ki (fun q=>by omega)
   have ldi:∀sp,gi.loadN ⟨gf.next,0,sp⟩ 5=some (hcells x (.slice av x.m.length cv)):=fun sp=>vhi.loadAll rfl
   have sti:zj gi 5 (.pointer (some ⟨h.next,0,none⟩)) (.agg (hcells x (.slice av x.m.length cv)).toArray)=some (.tuple #[],gi.wr h.next (hcells x (.slice av x.m.length cv))):=vai.storeAll rfl rfl (by decide) rfl
   (repeat (first|refine zS ?_|refine zK ?_|refine zR ?_|refine zD ?_|refine zB ?_|refine zI ?_|refine zJ ?_|refine zP ?_|refine zE ?_|refine zG ?_|refine zF ?_|refine zH (by decide) ?_|refine zQ ?_|((first|refine zC ?_|refine zM ?_|refine zO rfl rfl ?_|refine zN rfl ?_|refine zL ?_);simp only[yq103.down,zA,lemS.down,lemC.down,zdO,zdN,zdL,reduceIte,zdM,zdP,zdQ,zdR,zdS,zdT,zdU,zdV,zdW,reduceCtorEq,lemH.down,hga,gna,eb,ec,ed,ee,ef,fl,hgg,gng,st,er,b0,ld,em,ei,eri,ldi,sti,Bool.not_true,Bool.not_false])))
   have eQ:zCu (r2,x)=(r2,x):=by simp only[zCu,if_pos c0,if_pos c1]
   rw[eQ]
   have kw:Keeps (fun A=>A=R) h (gi.wr h.next (hcells x (.slice av x.m.length cv))):=(khh.trans ki (fun _ _ q=>q)).trans Keeps.wr (fun A hA e=>by omega)
   have ow:Own (gi.wr h.next (hcells x (.slice av x.m.length cv))) (fun A=>h.next≤A) 1 (.slice av x.m.length cv) x.m.length (zAA x.m):=((oh.keep ki (fun A hA q=>by have:=hA.1;omega)).keep Keeps.wr (fun A hA q=>by have:=hA.1;omega)).mono fun A hA=>by have:=hA.1;omega
   exact⟨.inr rfl,_,zAv (a:=⟨h.next,0,none⟩) (by simp only[yq103.down,zA,lemS.down,lemC.down,zdO,zdN,zdL,reduceIte,zdM,zdP,zdQ,zdR,zdS,zdT,zdU,zdV,zdW,reduceCtorEq]) (vai.wr.loadAll rfl),_,rfl,ri.keep Keeps.wr (by omega),ow,⟨hn,ow.ints fun y hy=>by have:=hf y hy;omega,hd.2.2⟩,kw⟩
  ·have c2:zAP x=80:=by
    unfold zAP at c1 ⊢
    split
    ·rfl
    ·rename_i q;exact absurd (if_neg q) c1
   rw[c2] at em
   obtain⟨gi,ei,ri,ki⟩:=zDI T.wire rh 80
   have ei:cfi pr 151 [.pointer (some ⟨R,0,none⟩),.int .i64 80] gh=some (.tuple #[],gi):=ei
   rw[if_pos c0] at ri
   have eri:=zAW T.wire ri
   have vai:=va3.keep ki (fun q=>by omega)
   have sti:=stz gi vai
   (repeat (first|refine zS ?_|refine zK ?_|refine zR ?_|refine zD ?_|refine zB ?_|refine zI ?_|refine zJ ?_|refine zP ?_|refine zE ?_|refine zG ?_|refine zF ?_|refine zH (by decide) ?_|refine zQ ?_|((first|refine zC ?_|refine zM ?_|refine zO rfl rfl ?_|refine zN rfl ?_|refine zL ?_);simp only[yq103.down,zA,lemS.down,lemC.down,zdO,zdN,zdL,reduceIte,zdM,zdP,zdQ,zdR,zdS,zdT,zdU,zdV,zdW,reduceCtorEq,lemH.down,hga,gna,eb,ec,ed,ee,ef,fl,hgg,gng,st,er,b0,ld,em,ei,eri,zAs,sti,Bool.not_true,Bool.not_false])))
   have eQ:zCu (r2,x)=(⟨r2.s,r2.pos,80⟩,zeroH):=by simp[zCu,c0,c2]
   rw[eQ]
   have kw:Keeps (fun A=>A=R) h (gi.wr h.next [.int .u64 0,.string (strOf []),.string (strOf []),.string (strOf []),.slice none 0 0]):=(khh.trans ki (fun _ _ q=>q)).trans Keeps.wr (fun A hA e=>by omega)
   exact⟨.inr rfl,_,zAv (a:=⟨h.next,0,none⟩) (by simp only[yq103.down,zA,lemS.down,lemC.down,zdO,zdN,zdL,reduceIte,zdM,zdP,zdQ,zdR,zdS,zdT,zdU,zdV,zdW,reduceCtorEq]) (vai.wr.loadAll rfl),.slice none 0 0,rfl,ri.keep Keeps.wr (by omega),Own.nil,⟨zz.1,rfl,zz.2.2⟩,kw⟩
 ·have b0:((r2.err:Int)==0)=false:=by rw[beq_eq_false_iff_ne];omega
  have sti:=stz gh va3
  (repeat (first|refine zS ?_|refine zK ?_|refine zR ?_|refine zD ?_|refine zB ?_|refine zI ?_|refine zJ ?_|refine zP ?_|refine zE ?_|refine zG ?_|refine zF ?_|refine zH (by decide) ?_|refine zQ ?_|((first|refine zC ?_|refine zM ?_|refine zO rfl rfl ?_|refine zN rfl ?_|refine zL ?_);simp only[yq103.down,zA,lemS.down,lemC.down,zdO,zdN,zdL,reduceIte,zdM,zdP,zdQ,zdR,zdS,zdT,zdU,zdV,zdW,reduceCtorEq,lemH.down,hga,gna,eb,ec,ed,ee,ef,fl,hgg,gng,st,er,b0,zAs,sti,Bool.not_true,Bool.not_false])))
  have eQ:zCu (r2,x)=(r2,zeroH):=by simp only[zCu,if_neg c0]
  rw[eQ]
  have kw:Keeps (fun A=>A=R) h (gh.wr h.next [.int .u64 0,.string (strOf []),.string (strOf []),.string (strOf []),.slice none 0 0]):=khh.trans Keeps.wr (fun A hA e=>by omega)
  exact⟨.inr rfl,_,zAv (a:=⟨h.next,0,none⟩) (by simp only[yq103.down,zA,lemS.down,lemC.down,zdO,zdN,zdL,reduceIte,zdM,zdP,zdQ,zdR,zdS,zdT,zdU,zdV,zdW,reduceCtorEq]) (va3.wr.loadAll rfl),.slice none 0 0,rfl,rh.keep Keeps.wr (by omega),Own.nil,⟨zz.1,rfl,zz.2.2⟩,kw⟩
end Go.X
end
section
open Go Go.X
namespace Go.X
set_option linter.unusedVariables false
def zAw (r:RS):RS×Bool:=if (zU r 1).1.err=0 then (if 1<(zU r 1).2 then (⟨r.s,r.pos,6⟩,false) else ((zU r 1).1,decide ((zU r 1).2=1))) else ((zU r 1).1,false)
structure zFP (pr:Prog):Prop where
 wire:zAL pr
 rb:pr.prim 105=none
 rbC:pr.code 105=some xq105
 wb:pr.prim 117=none
 wbC:pr.code 117=some xq117
theorem zGv {pr:Prog} (T:zFP pr) {h:Heap} {R:Nat} {r:RS} (hr:Rd h R r) :
  ∃h',cfi pr 105 [.pointer (some ⟨R,0,none⟩)] h=some (.bool (zAw r).2,h')∧Rd h' R (zAw r).1∧Keeps (fun A=>A=R) h h':=by
 have:∃v h',cfi pr 105 [.pointer (some ⟨R,0,none⟩)] h=some (v,h')∧v=.bool (zAw r).2∧Rd h' R (zAw r).1∧Keeps (fun A=>A=R) h h':=by
  refine zq T.rb T.rbC rfl ?_
  unfold xq105
  dsimp only[zY]
  refine wpk.out (k:=[]) ?_
  have at0:=zGu T.wire hr
  obtain⟨g,e,r1,k1⟩:=zB4 T.wire hr 1 (by decide)
  have e:cfi pr 89 [.pointer (some ⟨R,0,none⟩),.int .i64 1] h=some (uw .u64 (zU r 1).2,g):=e
  have hs:=zC4 r
  rw[←zBj (by omega)] at e
  have er:=zAW T.wire r1
  have hpos:r.pos≤r.s.length:=hr.1.1
  have hlen:=hr.1.2
  have es:(zU r 1).1.s=r.s:=zDY r 1
  obtain⟨q,eq⟩:∃q,zU r 1=q:=⟨_,rfl⟩
  obtain⟨r2,n⟩:=q
  have eb:zAw r=if r2.err=0 then (if 1<n then (⟨r.s,r.pos,6⟩,false) else (r2,decide (n=1))) else (r2,false):=by unfold zAw;rw[eq]
  rw[eq] at e r1 er hs es
  have hs:n<256:=hs
  have es:r2.s=r.s:=es
  have r1:Rd g R r2:=r1
  have er:cfi pr 109 [.pointer (some ⟨R,0,none⟩)] g=some (.int .i64 (r2.err:Int),g):=er
  have e:cfi pr 89 [.pointer (some ⟨R,0,none⟩),.int .i64 1] h=some (.int .u64 (n:Int),g):=e
  rw[eb]
  by_cases c0:r2.err=0
  ·have b0:((r2.err:Int)==0)=true:=by rw[c0];rfl
   rw[if_pos c0]
   by_cases c1:1<n
   ·rw[if_pos c1]
    have d1:decide ((n:Int)>1)=true:=by simp;omega
    obtain⟨sA,stA⟩:∃sA,zj g 1 (.pointer (some ⟨R,1,none⟩)) (.int .i64 (r.pos:Int))=some (.tuple #[],sA)∧Rd sA R ⟨r2.s,r.pos,r2.err⟩∧Keeps (fun A=>A=R) g sA:=⟨_,r1.s1 r.pos,r1.wr ⟨by rw[es];exact hpos,by rw[es];exact hlen⟩,Keeps.wr⟩
    obtain⟨stA,rA,kA⟩:=stA
    obtain⟨sB,stB,rB,kB⟩:∃sB,zj sA 1 (.pointer (some ⟨R,2,none⟩)) (.int .i64 6)=some (.tuple #[],sB)∧Rd sB R ⟨r2.s,r.pos,6⟩∧Keeps (fun A=>A=R) sA sB:=⟨_,rA.s2L 6,rA.wr ⟨by rw[es];exact hpos,by rw[es];exact hlen⟩,Keeps.wr⟩
    have erB:=zAW T.wire rB
    (repeat (first|refine zS ?_|refine zK ?_|refine zR ?_|refine zD ?_|refine zB ?_|refine zI ?_|refine zJ ?_|refine zP ?_|refine zE ?_|refine zG ?_|refine zF ?_|refine zH (by decide) ?_|refine zQ ?_|((first|refine zC ?_|refine zM ?_|refine zO rfl rfl ?_|refine zN rfl ?_|refine zL ?_);simp only[yq105.down,zA,lemS.down,lemC.down,zdO,zdN,zdL,reduceIte,zdM,zdP,zdQ,zdR,zdS,zdT,zdU,zdV,zdW,reduceCtorEq,lemH.down,at0,e,er,b0,d1,stA,stB,erB,zc])))
    rw[es] at rB
    exact⟨.inr rfl,_,by (simp only[yq105.down,zA,lemS.down,lemC.down,zdO,zdN,zdL,reduceIte,zdM,zdP,zdQ,zdR,zdS,zdT,zdU,zdV,zdW,reduceCtorEq,zy,zAQ,resX,zAf])<;>rfl,rfl,rB,((k1.trans kA (fun _ _ q=>q)).trans kB (fun _ _ q=>q))⟩
   ·rw[if_neg c1]
    have d1:decide ((n:Int)>1)=false:=by simp;omega
    have d2:((n:Int)==1)=decide (n=1):=by rw[Bool.eq_iff_iff];simp;omega
    (repeat (first|refine zS ?_|refine zK ?_|refine zR ?_|refine zD ?_|refine zB ?_|refine zI ?_|refine zJ ?_|refine zP ?_|refine zE ?_|refine zG ?_|refine zF ?_|refine zH (by decide) ?_|refine zQ ?_|((first|refine zC ?_|refine zM ?_|refine zO rfl rfl ?_|refine zN rfl ?_|refine zL ?_);simp only[yq105.down,zA,lemS.down,lemC.down,zdO,zdN,zdL,reduceIte,zdM,zdP,zdQ,zdR,zdS,zdT,zdU,zdV,zdW,reduceCtorEq,lemH.down,at0,e,er,b0,d1,d2,zc])))
    exact⟨.inr rfl,_,by (simp only[yq105.down,zA,lemS.down,lemC.down,zdO,zdN,zdL,reduceIte,zdM,zdP,zdQ,zdR,zdS,zdT,zdU,zdV,zdW,reduceCtorEq,zy,zAQ,resX,zAf])<;>rfl,rfl,r1,k1⟩
  ·have b0:((r2.err:Int)==0)=false:=by rw[beq_eq_false_iff_ne];omega
   rw[if_neg c0]
   (repeat (first|refine zS ?_|refine zK ?_|refine zR ?_|refine zD ?_|refine zB ?_|refine zI ?_|refine zJ ?_|refine zP ?_|refine zE ?_|refine zG ?_|refine zF ?_|refine zH (by decide) ?_|refine zQ ?_|((first|refine zC ?_|refine zM ?_|refine zO rfl rfl ?_|refine zN rfl ?_|refine zL ?_);simp only[yq105.down,zA,lemS.down,lemC.down,zdO,zdN,zdL,reduceIte,zdM,zdP,zdQ,zdR,zdS,zdT,zdU,zdV,zdW,reduceCtorEq,lemH.down,at0,e,er,b0,zc])))
   exact⟨.inr rfl,_,by (simp only[yq105.down,zA,lemS.down,lemC.down,zdO,zdN,zdL,reduceIte,zdM,zdP,zdQ,zdR,zdS,zdT,zdU,zdV,zdW,reduceCtorEq,zy,zAQ,resX,zAf])<;>rfl,rfl,r1,k1⟩
 obtain⟨v,h',e,rfl,q⟩:=this
 exact⟨h',e,q⟩
end Go.X
end
