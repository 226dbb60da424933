/- Proofs are taken and put. -/
import Derived.Test.YtnppabpbdobaiaaGreatProg
import Derived.KernelRfl
import Derived.Test.YtnppabpbdobaiaaGreatXC
import Derived.Test.YtnppabpbdobaiaaGreatXM
set_option linter.unusedSimpArgs false
set_option linter.unusedVariables false
set_option maxHeartbeats 2000000
open Nat renaming reduceLeDiff → zeu, reduceEqDiff → zev, reduceAdd → zew
open Int renaming reduceBEq → zex, reduceLT → zey, reduceLE → zez, reduceGT → ze0, reduceGE → ze1, reduceEq → ze2, reduceAdd → ze3, reduceSub → ze4, reduceMul → ze5
section
namespace Go.X
open Go.Proofs
abbrev zZ4:List XO:=[
 ⟨some 2,.p (.mov (C (.slice none 0 0))),none⟩]
def xq88_0:List XO:=zZ4
theorem xq88_0e:E3 xq88_0 zZ4:=E3.rfl
abbrev zZ9:List XO:=[
 ⟨some 3,.p (.mov (C (.slice none 0 0))),none⟩]
def xq88_1:List XO:=zZ9
theorem xq88_1e:E3 xq88_1 zZ9:=E3.rfl
abbrev zaA:List XO:=[
 ⟨some 5,.p (.mov (T 0)),none⟩,
 ⟨some 6,.call (.func 89) [(T 5),(C (.int .i64 1))],none⟩,
 ⟨some 4,.p (.mov (T 6)),none⟩]
def xq88_2:List XO:=zaA
theorem xq88_2e:E3 xq88_2 zaA:=E3.rfl
abbrev zaB:List XO:=[
 ⟨some 7,.p (.mov (T 4)),none⟩,
 ⟨some 8,.p (.bin .gtr (T 7) (C (.int .u64 0))),none⟩,
 ⟨some 9,.p (.mov (T 8)),none⟩,
 ⟨some 10,.p (.mov (T 0)),some (9,true)⟩,
 ⟨some 11,.call (.func 109) [(T 10)],some (9,true)⟩,
 ⟨some 12,.p (.eql false .int (T 11) (C (.int .i64 0))),some (9,true)⟩,
 ⟨some 13,.p (.pick (T 9) (T 12) (C (.bool false))),none⟩]
def xq88_3:List XO:=zaB
theorem xq88_3e:E3 xq88_3 zaB:=E3.rfl
abbrev zaC:List XO:=[
 ⟨some 16,.p (.mov (T 3)),none⟩,
 ⟨some 17,.p (.mov (T 0)),none⟩,
 ⟨some 18,.call (.func 89) [(T 17),(C (.int .i64 1))],none⟩,
 ⟨some 19,.p (.cint .i64 (T 18)),none⟩,
 ⟨some 20,.a (.bslice [(.int .i64 0)] 1 [(0,1,(T 19))]),none⟩,
 ⟨some 21,.e (.append 1 8 (T 16) (T 20)),none⟩,
 ⟨some 3,.p (.mov (T 21)),none⟩]
def xq88_4:List XO:=zaC
theorem xq88_4e:E3 xq88_4 zaC:=E3.rfl
abbrev zaD:List XO:=[
 ⟨some 14,.p (.mov (T 4)),none⟩,
 ⟨some 15,.p (.bin .sub (T 14) (C (.int .u64 1))),none⟩,
 ⟨some 4,.p (.mov (T 15)),none⟩]
def xq88_5:List XO:=zaD
theorem xq88_5e:E3 xq88_5 zaD:=E3.rfl
def zJ3:XC:=
 .seq (.seq (.ops xq88_3) (.cond (T 13) (.skip) (.exit 0))) (.seq (.block 1 (.ops xq88_4)) (.ops xq88_5))
def xq88_6:XC:=zJ3
theorem xq88_6k {pr:Prog} {k:List KI} {Q:XE→Fr→Heap→Prop} {t:Fr} {h:Heap} (hw:wpk pr zJ3 k Q t h):wpk pr xq88_6 k Q t h:=hw
abbrev zaE:List XO:=[
 ⟨some 22,.p (.mov (T 0)),none⟩,
 ⟨some 23,.call (.func 109) [(T 22)],none⟩,
 ⟨some 24,.p (.eql false .int (T 23) (C (.int .i64 0))),none⟩,
 ⟨some 25,.p (.mov (T 24)),none⟩,
 ⟨some 26,.p (.mov (T 3)),some (25,true)⟩,
 ⟨some 27,.call (.func 56) [(T 26)],some (25,true)⟩,
 ⟨some 28,.p (.un .not (T 27)),some (25,true)⟩,
 ⟨some 29,.p (.pick (T 25) (T 28) (C (.bool false))),none⟩]
def xq88_7:List XO:=zaE
theorem xq88_7e:E3 xq88_7 zaE:=E3.rfl
abbrev zaF:List XO:=[
 ⟨some 30,.p (.mov (T 0)),none⟩,
 ⟨some 31,.call (.func 151) [(T 30),(C (.int .i64 6))],none⟩]
def xq88_8:List XO:=zaF
theorem xq88_8e:E3 xq88_8 zaF:=E3.rfl
abbrev zaG:List XO:=[
 ⟨some 32,.p (.mov (T 0)),none⟩,
 ⟨some 33,.call (.func 109) [(T 32)],none⟩,
 ⟨some 34,.p (.eql true .int (T 33) (C (.int .i64 0))),none⟩]
def xq88_9:List XO:=zaG
theorem xq88_9e:E3 xq88_9 zaG:=E3.rfl
abbrev zZ6:List XO:=[
 ⟨some 2,.p (.mov (C (.slice none 0 0))),none⟩]
def zZ5:List XO:=zZ6
theorem xq88_10e:E3 zZ5 zZ6:=E3.rfl
abbrev zZ8:List XO:=[
 ⟨some 35,.p (.mov (T 3)),none⟩,
 ⟨some 2,.p (.mov (T 35)),none⟩]
def zZ7:List XO:=zZ8
theorem xq88_11e:E3 zZ7 zZ8:=E3.rfl
def xq88:XF:=⟨1,[.tmp 2],
 .seq (.ops xq88_0) (.seq (.ops xq88_1) (.seq (.seq (.ops xq88_2) (.block 0 (.loop xq88_6))) (.seq (.seq (.ops xq88_7) (.cond (T 29) (.ops xq88_8) (.skip))) (.seq (.seq (.ops xq88_9) (.cond (T 34) (.seq (.ops zZ5) (.ret)) (.skip))) (.seq (.ops zZ7) (.ret))))))⟩
def yq88:=PLift.up (And.intro (And.intro (And.intro (@xq88_0e) (@xq88_1e)) (And.intro (@xq88_2e) (And.intro (@xq88_3e) (@xq88_4e)))) (And.intro (And.intro (@xq88_5e) (And.intro (@xq88_7e) (@xq88_8e))) (And.intro (@xq88_9e) (And.intro (@xq88_10e) (@xq88_11e)))))
theorem cq88:zg Tryz.prog Tryz.f88 = some xq88:=by kernel_rfl
abbrev zNT:List XO:=[
 ⟨some 2,.a (.alloc [(.int .u64 0),(.string (strOf [])),(.string (strOf [])),(.string (strOf [])),(.slice none 0 0)]),none⟩]
def zNS:List XO:=zNT
theorem xq103_0e:E3 zNS zNT:=E3.rfl
abbrev zNV:List XO:=[
 ⟨some 4,.p (.mov (T 0)),none⟩,
 ⟨some 5,.call (.func 89) [(T 4),(C (.int .i64 8))],none⟩,
 ⟨some 6,.p (.mov (T 0)),none⟩,
 ⟨some 7,.call (.func 90) [(T 6)],none⟩,
 ⟨some 8,.p (.mov (T 0)),none⟩,
 ⟨some 9,.call (.func 90) [(T 8)],none⟩,
 ⟨some 10,.p (.mov (T 0)),none⟩,
 ⟨some 11,.call (.func 90) [(T 10)],none⟩,
 ⟨some 12,.p (.mov (T 0)),none⟩,
 ⟨some 13,.call (.func 88) [(T 12)],none⟩,
 ⟨some 14,.p (.build [(.int .u64 0),(.string (strOf [])),(.string (strOf [])),(.string (strOf [])),(.slice none 0 0)] [(0,1,(T 5)),(1,1,(T 7)),(2,1,(T 9)),(3,1,(T 11)),(4,1,(T 13))]),none⟩,
 ⟨some 3,.a (.alloc [(.int .u64 0),(.string (strOf [])),(.string (strOf [])),(.string (strOf [])),(.slice none 0 0)]),none⟩,
 ⟨none,.e (.store 5 (T 3) (T 14)),none⟩]
def zNU:List XO:=zNV
theorem xq103_1e:E3 zNU zNV:=E3.rfl
abbrev zNX:List XO:=[
 ⟨some 15,.p (.mov (T 0)),none⟩,
 ⟨some 16,.call (.func 109) [(T 15)],none⟩,
 ⟨some 17,.p (.eql false .int (T 16) (C (.int .i64 0))),none⟩]
def zNW:List XO:=zNX
theorem xq103_2e:E3 zNW zNX:=E3.rfl
abbrev zNZ:List XO:=[
 ⟨some 18,.p (.mov (T 0)),none⟩,
 ⟨some 19,.r (.loadN 5 (T 3)),none⟩,
 ⟨some 20,.call (.func 64) [(T 19)],none⟩,
 ⟨some 21,.call (.func 151) [(T 18),(T 20)],none⟩]
def zNY:List XO:=zNZ
theorem xq103_3e:E3 zNY zNZ:=E3.rfl
abbrev zNb:List XO:=[
 ⟨some 22,.p (.mov (T 0)),none⟩,
 ⟨some 23,.call (.func 109) [(T 22)],none⟩,
 ⟨some 24,.p (.eql true .int (T 23) (C (.int .i64 0))),none⟩]
def zNa:List XO:=zNb
theorem xq103_4e:E3 zNa zNb:=E3.rfl
abbrev zNd:List XO:=[
 ⟨some 25,.p (.build [(.int .u64 0),(.string (strOf [])),(.string (strOf [])),(.string (strOf [])),(.slice none 0 0)] []),none⟩,
 ⟨none,.e (.store 5 (T 2) (T 25)),none⟩]
def zNc:List XO:=zNd
theorem xq103_5e:E3 zNc zNd:=E3.rfl
abbrev zNf:List XO:=[
 ⟨some 26,.r (.loadN 5 (T 3)),none⟩,
 ⟨none,.e (.store 5 (T 2) (T 26)),none⟩]
def zNe:List XO:=zNf
theorem xq103_6e:E3 zNe zNf:=E3.rfl
def xq103:XF:=⟨1,[.cellN 2 5],
 .seq (.ops zNS) (.seq (.ops zNU) (.seq (.seq (.ops zNW) (.cond (T 17) (.ops zNY) (.skip))) (.seq (.seq (.ops zNa) (.cond (T 24) (.seq (.ops zNc) (.ret)) (.skip))) (.seq (.ops zNe) (.ret)))))⟩
def yq103:=PLift.up (And.intro (And.intro (@xq103_0e) (And.intro (@xq103_1e) (@xq103_2e))) (And.intro (And.intro (@xq103_3e) (@xq103_4e)) (And.intro (@xq103_5e) (@xq103_6e))))
theorem cq103:zg Tryz.prog Tryz.f103 = some xq103:=by kernel_rfl
abbrev zN2:List XO:=[
 ⟨some 2,.p (.mov (C (.bool false))),none⟩]
def zN1:List XO:=zN2
theorem xq105_0e:E3 zN1 zN2:=E3.rfl
abbrev zN4:List XO:=[
 ⟨some 5,.p (.mov (T 0)),none⟩,
 ⟨some 6,.call (.func 149) [(T 5)],none⟩,
 ⟨some 3,.p (.mov (T 6)),none⟩]
def zN3:List XO:=zN4
theorem xq105_1e:E3 zN3 zN4:=E3.rfl
abbrev zN6:List XO:=[
 ⟨some 7,.p (.mov (T 0)),none⟩,
 ⟨some 8,.call (.func 89) [(T 7),(C (.int .i64 1))],none⟩,
 ⟨some 4,.p (.mov (T 8)),none⟩]
def zN5:List XO:=zN6
theorem xq105_2e:E3 zN5 zN6:=E3.rfl
abbrev zN8:List XO:=[
 ⟨some 9,.p (.mov (T 0)),none⟩,
 ⟨some 10,.call (.func 109) [(T 9)],none⟩,
 ⟨some 11,.p (.eql false .int (T 10) (C (.int .i64 0))),none⟩,
 ⟨some 12,.p (.mov (T 11)),none⟩,
 ⟨some 13,.p (.mov (T 4)),some (12,true)⟩,
 ⟨some 14,.p (.bin .gtr (T 13) (C (.int .u64 1))),some (12,true)⟩,
 ⟨some 15,.p (.pick (T 12) (T 14) (C (.bool false))),none⟩]
def zN7:List XO:=zN8
theorem xq105_3e:E3 zN7 zN8:=E3.rfl
abbrev zOA:List XO:=[
 ⟨some 16,.p (.mov (T 0)),none⟩,
 ⟨some 17,.p (.mov (T 0)),none⟩,
 ⟨some 18,.p (.mov (T 3)),none⟩,
 ⟨some 19,.p (.nilc (T 16)),none⟩,
 ⟨some 20,.p (.faddr 1 (T 19)),none⟩,
 ⟨none,.e (.store 1 (T 20) (T 18)),none⟩,
 ⟨some 21,.p (.nilc (T 17)),none⟩,
 ⟨some 22,.p (.faddr 2 (T 21)),none⟩,
 ⟨none,.e (.store 1 (T 22) (C (.int .i64 6))),none⟩]
def zN9:List XO:=zOA
theorem xq105_4e:E3 zN9 zOA:=E3.rfl
abbrev zOC:List XO:=[
 ⟨some 23,.p (.mov (T 0)),none⟩,
 ⟨some 24,.call (.func 109) [(T 23)],none⟩,
 ⟨some 25,.p (.eql false .int (T 24) (C (.int .i64 0))),none⟩,
 ⟨some 26,.p (.mov (T 25)),none⟩,
 ⟨some 27,.p (.mov (T 4)),some (26,true)⟩,
 ⟨some 28,.p (.eql false .int (T 27) (C (.int .u64 1))),some (26,true)⟩,
 ⟨some 29,.p (.pick (T 26) (T 28) (C (.bool false))),none⟩,
 ⟨some 2,.p (.mov (T 29)),none⟩]
def zOB:List XO:=zOC
theorem xq105_5e:E3 zOB zOC:=E3.rfl
def xq105:XF:=⟨1,[.tmp 2],
 .seq (.ops zN1) (.seq (.ops zN3) (.seq (.ops zN5) (.seq (.seq (.ops zN7) (.cond (T 15) (.ops zN9) (.skip))) (.seq (.ops zOB) (.ret)))))⟩
def yq105:=PLift.up (And.intro (And.intro (@xq105_0e) (And.intro (@xq105_1e) (@xq105_2e))) (And.intro (@xq105_3e) (And.intro (@xq105_4e) (@xq105_5e))))
theorem cq105:zg Tryz.prog Tryz.f105 = some xq105:=by kernel_rfl
abbrev zPt:List XO:=[
 ⟨some 4,.p (.mov (C (.int .u64 0))),none⟩]
def zPs:List XO:=zPt
theorem xq117_0e:E3 zPs zPt:=E3.rfl
abbrev zPv:List XO:=[
 ⟨some 5,.p (.mov (T 1)),none⟩]
def zPu:List XO:=zPv
theorem xq117_1e:E3 zPu zPv:=E3.rfl
abbrev zPx:List XO:=[
 ⟨some 4,.p (.mov (C (.int .u64 1))),none⟩]
def zPw:List XO:=zPx
theorem xq117_2e:E3 zPw zPx:=E3.rfl
abbrev zPz:List XO:=[
 ⟨some 6,.p (.mov (T 0)),none⟩,
 ⟨some 7,.p (.mov (T 4)),none⟩,
 ⟨some 8,.call (.func 78) [(T 6),(T 7),(C (.int .i64 1))],none⟩]
def zPy:List XO:=zPz
theorem xq117_3e:E3 zPy zPz:=E3.rfl
def xq117:XF:=⟨2,[],
 .seq (.ops zPs) (.seq (.seq (.ops zPu) (.cond (T 5) (.ops zPw) (.skip))) (.ops zPy))⟩
def yq117:=PLift.up (And.intro (And.intro (@xq117_0e) (@xq117_1e)) (And.intro (@xq117_2e) (@xq117_3e)))
theorem cq117:zg Tryz.prog Tryz.f117 = some xq117:=by kernel_rfl
abbrev zOd:List XO:=[
 ⟨some 2,.a (.alloc [(.int .u64 0),(.int .u64 0),(.slice none 0 0)]),none⟩]
def zOc:List XO:=zOd
theorem xq107_0e:E3 zOc zOd:=E3.rfl
abbrev zOj:List XO:=[
 ⟨some 5,.p (.mov (T 0)),none⟩,
 ⟨some 6,.call (.func 89) [(T 5),(C (.int .i64 8))],none⟩,
 ⟨some 7,.p (.mov (T 0)),none⟩,
 ⟨some 8,.call (.func 89) [(T 7),(C (.int .i64 8))],none⟩,
 ⟨some 9,.p (.build [(.int .u64 0),(.int .u64 0),(.slice none 0 0)] [(0,1,(T 6)),(1,1,(T 8))]),none⟩,
 ⟨some 3,.a (.alloc [(.int .u64 0),(.int .u64 0),(.slice none 0 0)]),none⟩,
 ⟨none,.e (.store 3 (T 3) (T 9)),none⟩]
def zOe:List XO:=zOj
theorem xq107_1e:E3 zOe zOj:=E3.rfl
abbrev zOl:List XO:=[
 ⟨some 10,.p (.mov (T 0)),none⟩,
 ⟨some 11,.call (.func 108) [(T 10),(C (.int .i64 8))],none⟩,
 ⟨some 4,.p (.mov (T 11)),none⟩]
def zOk:List XO:=zOl
theorem xq107_2e:E3 zOk zOl:=E3.rfl
abbrev zOn:List XO:=[
 ⟨some 12,.p (.mov (T 4)),none⟩,
 ⟨some 13,.p (.bin .gtr (T 12) (C (.int .i64 0))),none⟩,
 ⟨some 14,.p (.mov (T 13)),none⟩,
 ⟨some 15,.p (.mov (T 0)),some (14,true)⟩,
 ⟨some 16,.call (.func 109) [(T 15)],some (14,true)⟩,
 ⟨some 17,.p (.eql false .int (T 16) (C (.int .i64 0))),some (14,true)⟩,
 ⟨some 18,.p (.pick (T 14) (T 17) (C (.bool false))),none⟩]
def zOm:List XO:=zOn
theorem xq107_3e:E3 zOm zOn:=E3.rfl
abbrev zOp:List XO:=[
 ⟨some 21,.p (.faddr 2 (T 3)),none⟩,
 ⟨some 22,.r (.load1 (T 21)),none⟩,
 ⟨some 23,.p (.mov (T 0)),none⟩,
 ⟨some 24,.call (.func 89) [(T 23),(C (.int .i64 1))],none⟩,
 ⟨some 25,.p (.cint .i64 (T 24)),none⟩,
 ⟨some 26,.p (.mov (T 0)),none⟩,
 ⟨some 27,.call (.func 87) [(T 26),(C (.int .i64 32))],none⟩,
 ⟨some 28,.p (.mov (T 0)),none⟩,
 ⟨some 29,.call (.func 87) [(T 28),(C (.int .i64 64))],none⟩,
 ⟨some 30,.p (.build [(.int .i64 0),(.string (strOf [])),(.string (strOf []))] [(0,1,(T 25)),(1,1,(T 27)),(2,1,(T 29))]),none⟩,
 ⟨some 31,.a (.bslice [(.int .i64 0),(.string (strOf [])),(.string (strOf []))] 1 [(0,3,(T 30))]),none⟩,
 ⟨some 32,.e (.append 3 40 (T 22) (T 31)),none⟩,
 ⟨some 33,.p (.faddr 2 (T 3)),none⟩,
 ⟨none,.e (.store 1 (T 33) (T 32)),none⟩]
def zOo:List XO:=zOp
theorem xq107_4e:E3 zOo zOp:=E3.rfl
abbrev zOr:List XO:=[
 ⟨some 19,.p (.mov (T 4)),none⟩,
 ⟨some 20,.p (.bin .sub (T 19) (C (.int .i64 1))),none⟩,
 ⟨some 4,.p (.mov (T 20)),none⟩]
def zOq:List XO:=zOr
theorem xq107_5e:E3 zOq zOr:=E3.rfl
def zJC:XC:=
 .seq (.seq (.ops zOm) (.cond (T 18) (.skip) (.exit 0))) (.seq (.block 1 (.draw zOo [(1,(6,[])),(1,(8,[])),(1,(11,[]))])) (.ops zOq))
def zOs:XC:=zJC
theorem xq107_6k {pr:Prog} {k:List KI} {Q:XE→Fr→Heap→Prop} {t:Fr} {h:Heap} (hw:wpk pr zJC k Q t h):wpk pr zOs k Q t h:=hw
abbrev zOu:List XO:=[
 ⟨some 34,.p (.mov (T 0)),none⟩,
 ⟨some 35,.call (.func 109) [(T 34)],none⟩,
 ⟨some 36,.p (.eql false .int (T 35) (C (.int .i64 0))),none⟩]
def zOt:List XO:=zOu
theorem xq107_7e:E3 zOt zOu:=E3.rfl
abbrev zOw:List XO:=[
 ⟨some 37,.p (.mov (T 0)),none⟩,
 ⟨some 38,.r (.loadN 3 (T 3)),none⟩,
 ⟨some 39,.call (.func 119) [(T 38)],none⟩,
 ⟨some 40,.call (.func 151) [(T 37),(T 39)],none⟩]
def zOv:List XO:=zOw
theorem xq107_8e:E3 zOv zOw:=E3.rfl
abbrev zOy:List XO:=[
 ⟨some 41,.p (.mov (T 0)),none⟩,
 ⟨some 42,.call (.func 109) [(T 41)],none⟩,
 ⟨some 43,.p (.eql true .int (T 42) (C (.int .i64 0))),none⟩]
def zOx:List XO:=zOy
theorem xq107_9e:E3 zOx zOy:=E3.rfl
abbrev zOg:List XO:=[
 ⟨some 44,.p (.build [(.int .u64 0),(.int .u64 0),(.slice none 0 0)] []),none⟩,
 ⟨none,.e (.store 3 (T 2) (T 44)),none⟩]
def zOf:List XO:=zOg
theorem zdH:E3 zOf zOg:=E3.rfl
abbrev zOi:List XO:=[
 ⟨some 45,.r (.loadN 3 (T 3)),none⟩,
 ⟨none,.e (.store 3 (T 2) (T 45)),none⟩]
def zOh:List XO:=zOi
theorem zdI:E3 zOh zOi:=E3.rfl
def xq107:XF:=⟨1,[.cellN 2 3],
 .seq (.ops zOc) (.seq (.ops zOe) (.seq (.seq (.ops zOk) (.block 0 (.loop zOs))) (.seq (.seq (.ops zOt) (.cond (T 36) (.ops zOv) (.skip))) (.seq (.seq (.ops zOx) (.cond (T 43) (.seq (.ops zOf) (.ret)) (.skip))) (.seq (.ops zOh) (.ret))))))⟩
def yq107:=PLift.up (And.intro (And.intro (And.intro (@xq107_0e) (@xq107_1e)) (And.intro (@xq107_2e) (And.intro (@xq107_3e) (@xq107_4e)))) (And.intro (And.intro (@xq107_5e) (And.intro (@xq107_7e) (@xq107_8e))) (And.intro (@xq107_9e) (And.intro (@zdH) (@zdI)))))
theorem cq107:zg Tryz.prog Tryz.f107 = some xq107:=by kernel_rfl
abbrev zQW:List XO:=[
 ⟨some 3,.a (.box (T 1)),none⟩]
def zQV:List XO:=zQW
theorem xq120_0e:E3 zQV zQW:=E3.rfl
abbrev zQb:List XO:=[
 ⟨some 6,.p (.mov (T 0)),none⟩,
 ⟨some 7,.p (.faddr 0 (T 3)),none⟩,
 ⟨some 8,.r (.load1 (T 7)),none⟩,
 ⟨some 9,.call (.func 78) [(T 6),(T 8),(C (.int .i64 8))],none⟩]
def zQX:List XO:=zQb
theorem xq120_1e:E3 zQX zQb:=E3.rfl
abbrev zQd:List XO:=[
 ⟨some 10,.p (.mov (T 0)),none⟩,
 ⟨some 11,.p (.faddr 1 (T 3)),none⟩,
 ⟨some 12,.r (.load1 (T 11)),none⟩,
 ⟨some 13,.call (.func 78) [(T 10),(T 12),(C (.int .i64 8))],none⟩]
def zQc:List XO:=zQd
theorem xq120_2e:E3 zQc zQd:=E3.rfl
abbrev zQf:List XO:=[
 ⟨some 14,.p (.mov (T 0)),none⟩,
 ⟨some 15,.p (.faddr 2 (T 3)),none⟩,
 ⟨some 16,.r (.load1 (T 15)),none⟩,
 ⟨some 17,.p (.lenV (T 16)),none⟩,
 ⟨some 18,.call (.func 121) [(T 14),(T 17)],none⟩]
def zQe:List XO:=zQf
theorem xq120_3e:E3 zQe zQf:=E3.rfl
abbrev zQh:List XO:=[
 ⟨some 19,.p (.faddr 2 (T 3)),none⟩,
 ⟨some 20,.r (.load1 (T 19)),none⟩,
 ⟨some 21,.p (.lenV (T 20)),none⟩,
 ⟨some 22,.p (.mov (C (.int .i64 0))),none⟩]
def zQg:List XO:=zQh
theorem xq120_4e:E3 zQg zQh:=E3.rfl
abbrev zQj:List XO:=[
 ⟨some 23,.p (.bin .lss (T 22) (T 21)),none⟩]
def zQi:List XO:=zQj
theorem xq120_5e:E3 zQi zQj:=E3.rfl
abbrev zQl:List XO:=[
 ⟨some 24,.p (.iaddrS 3 (T 20) (T 22)),none⟩,
 ⟨some 25,.r (.loadN 3 (T 24)),none⟩,
 ⟨some 5,.a (.alloc [(.int .i64 0),(.string (strOf [])),(.string (strOf []))]),none⟩,
 ⟨none,.e (.store 3 (T 5) (T 25)),none⟩]
def zQk:List XO:=zQl
theorem xq120_6e:E3 zQk zQl:=E3.rfl
abbrev zQn:List XO:=[
 ⟨some 26,.p (.mov (T 0)),none⟩,
 ⟨some 27,.p (.faddr 0 (T 5)),none⟩,
 ⟨some 28,.r (.load1 (T 27)),none⟩,
 ⟨some 29,.p (.cint .u64 (T 28)),none⟩,
 ⟨some 30,.call (.func 78) [(T 26),(T 29),(C (.int .i64 1))],none⟩]
def zQm:List XO:=zQn
theorem xq120_7e:E3 zQm zQn:=E3.rfl
abbrev zQp:List XO:=[
 ⟨some 31,.p (.mov (T 0)),none⟩,
 ⟨some 32,.p (.faddr 1 (T 5)),none⟩,
 ⟨some 33,.r (.load1 (T 32)),none⟩,
 ⟨some 34,.call (.func 76) [(T 31),(T 33)],none⟩]
def zQo:List XO:=zQp
theorem xq120_8e:E3 zQo zQp:=E3.rfl
abbrev zQr:List XO:=[
 ⟨some 35,.p (.mov (T 0)),none⟩,
 ⟨some 36,.p (.faddr 2 (T 5)),none⟩,
 ⟨some 37,.r (.load1 (T 36)),none⟩,
 ⟨some 38,.call (.func 76) [(T 35),(T 37)],none⟩]
def zQq:List XO:=zQr
theorem xq120_9e:E3 zQq zQr:=E3.rfl
abbrev zQZ:List XO:=[
 ⟨some 39,.p (.bin .add (T 22) (C (.int .i64 1))),none⟩,
 ⟨some 22,.p (.mov (T 39)),none⟩]
def zQY:List XO:=zQZ
theorem zdL:E3 zQY zQZ:=E3.rfl
def zJF:XC:=
 .seq (.ops zQi) (.seq (.cond (T 23) (.skip) (.exit 0)) (.seq (.block 1 (.seq (.ops zQk) (.seq (.ops zQm) (.seq (.ops zQo) (.ops zQq))))) (.ops zQY)))
def zQa:XC:=zJF
theorem zdM {pr:Prog} {k:List KI} {Q:XE→Fr→Heap→Prop} {t:Fr} {h:Heap} (hw:wpk pr zJF k Q t h):wpk pr zQa k Q t h:=hw
def xq120:XF:=⟨2,[],
 .seq (.ops zQV) (.seq (.ops zQX) (.seq (.ops zQc) (.seq (.ops zQe) (.seq (.ops zQg) (.block 0 (.loop zQa))))))⟩
def yq120:=PLift.up (And.intro (And.intro (And.intro (@xq120_0e) (@xq120_1e)) (And.intro (@xq120_2e) (And.intro (@xq120_3e) (@xq120_4e)))) (And.intro (And.intro (@xq120_5e) (And.intro (@xq120_6e) (@xq120_7e))) (And.intro (@xq120_8e) (And.intro (@xq120_9e) (@zdL)))))
theorem cq120:zg Tryz.prog Tryz.f120 = some xq120:=by kernel_rfl
abbrev zSP:List XO:=[
 ⟨some 1,.a (.box (T 0)),none⟩,
 ⟨some 2,.p (.mov (C (.bool false))),none⟩]
def zSO:List XO:=zSP
theorem xq172_0e:E3 zSO zSP:=E3.rfl
abbrev zSR:List XO:=[
 ⟨some 3,.p (.faddr 1 (T 1)),none⟩,
 ⟨some 4,.r (.load1 (T 3)),none⟩,
 ⟨some 5,.p (.lenS (T 4)),none⟩,
 ⟨some 6,.p (.bin .lss (T 5) (C (.int .i64 1))),none⟩,
 ⟨some 7,.p (.mov (T 6)),none⟩,
 ⟨some 8,.p (.faddr 1 (T 1)),some (7,false)⟩,
 ⟨some 9,.r (.load1 (T 8)),some (7,false)⟩,
 ⟨some 10,.p (.lenS (T 9)),some (7,false)⟩,
 ⟨some 11,.p (.bin .gtr (T 10) (C (.int .i64 32))),some (7,false)⟩,
 ⟨some 12,.p (.pick (T 7) (C (.bool true)) (T 11)),none⟩,
 ⟨some 13,.p (.mov (T 12)),none⟩,
 ⟨some 14,.p (.faddr 2 (T 1)),some (13,false)⟩,
 ⟨some 15,.r (.load1 (T 14)),some (13,false)⟩,
 ⟨some 16,.p (.lenS (T 15)),some (13,false)⟩,
 ⟨some 17,.p (.bin .gtr (T 16) (C (.int .i64 64))),some (13,false)⟩,
 ⟨some 18,.p (.pick (T 13) (C (.bool true)) (T 17)),none⟩]
def zSQ:List XO:=zSR
theorem xq172_1e:E3 zSQ zSR:=E3.rfl
abbrev zST:List XO:=[
 ⟨some 2,.p (.mov (C (.bool false))),none⟩]
def zSS:List XO:=zST
theorem xq172_2e:E3 zSS zST:=E3.rfl
abbrev zSV:List XO:=[
 ⟨some 19,.p (.faddr 0 (T 1)),none⟩,
 ⟨some 20,.r (.load1 (T 19)),none⟩]
def zSU:List XO:=zSV
theorem xq172_3e:E3 zSU zSV:=E3.rfl
abbrev zSX:List XO:=[
 ⟨some 22,.p (.eql false .int (T 20) (C (.int .i64 1))),none⟩,
 ⟨some 21,.p (.mov (T 22)),none⟩]
def zSW:List XO:=zSX
theorem xq172_4e:E3 zSW zSX:=E3.rfl
abbrev zSZ:List XO:=[
 ⟨some 23,.p (.eql false .int (T 20) (C (.int .i64 3))),none⟩,
 ⟨some 21,.p (.mov (T 23)),none⟩]
def zSY:List XO:=zSZ
theorem xq172_5e:E3 zSY zSZ:=E3.rfl
abbrev zSb:List XO:=[
 ⟨some 2,.p (.mov (C (.bool true))),none⟩]
def zSa:List XO:=zSb
theorem xq172_6e:E3 zSa zSb:=E3.rfl
abbrev zSd:List XO:=[
 ⟨some 24,.p (.faddr 0 (T 1)),none⟩,
 ⟨some 25,.r (.load1 (T 24)),none⟩,
 ⟨some 26,.p (.eql false .int (T 25) (C (.int .i64 2))),none⟩,
 ⟨some 27,.p (.mov (T 26)),none⟩,
 ⟨some 28,.p (.faddr 0 (T 1)),some (27,false)⟩,
 ⟨some 29,.r (.load1 (T 28)),some (27,false)⟩,
 ⟨some 30,.p (.eql false .int (T 29) (C (.int .i64 4))),some (27,false)⟩,
 ⟨some 31,.p (.pick (T 27) (C (.bool true)) (T 30)),none⟩,
 ⟨some 32,.p (.mov (T 31)),none⟩,
 ⟨some 33,.p (.faddr 2 (T 1)),some (32,true)⟩,
 ⟨some 34,.r (.load1 (T 33)),some (32,true)⟩,
 ⟨some 35,.p (.eql false .str (T 34) (C (.string (strOf [])))),some (32,true)⟩,
 ⟨some 36,.p (.pick (T 32) (T 35) (C (.bool false))),none⟩,
 ⟨some 2,.p (.mov (T 36)),none⟩]
def zSc:List XO:=zSd
theorem xq172_7e:E3 zSc zSd:=E3.rfl
def xq172:XF:=⟨1,[.tmp 2],
 .seq (.ops zSO) (.seq (.seq (.ops zSQ) (.cond (T 18) (.seq (.ops zSS) (.ret)) (.skip))) (.seq (.seq (.ops zSU) (.block 0 (.seq (.seq (.ops zSW) (.cond (T 21) (.skip) (.ops zSY))) (.cond (T 21) (.seq (.ops zSa) (.ret)) (.skip))))) (.seq (.ops zSc) (.ret))))⟩
def yq172:=PLift.up (And.intro (And.intro (And.intro (@xq172_0e) (@xq172_1e)) (And.intro (@xq172_2e) (@xq172_3e))) (And.intro (And.intro (@xq172_4e) (@xq172_5e)) (And.intro (@xq172_6e) (@xq172_7e))))
theorem cq172:zg Tryz.prog Tryz.f172 = some xq172:=by kernel_rfl
abbrev zSH:List XO:=[
 ⟨some 4,.p (.mov (C (.bool false))),none⟩]
def zSG:List XO:=zSH
theorem xq170_0e:E3 zSG zSH:=E3.rfl
abbrev zSJ:List XO:=[
 ⟨some 5,.p (.mov (T 0)),none⟩,
 ⟨some 6,.p (.mov (T 1)),none⟩,
 ⟨some 7,.call (.func 213) [(T 5),(T 6)],none⟩,
 ⟨some 8,.p (.bin .geq (T 7) (C (.int .i64 0))),none⟩,
 ⟨some 4,.p (.mov (T 8)),none⟩]
def zSI:List XO:=zSJ
theorem xq170_1e:E3 zSI zSJ:=E3.rfl
def xq170:XF:=⟨2,[.tmp 4],
 .seq (.ops zSG) (.seq (.ops zSI) (.ret))⟩
def yq170:=PLift.up (And.intro (@xq170_0e) (@xq170_1e))
theorem cq170:zg Tryz.prog Tryz.f170 = some xq170:=by kernel_rfl
abbrev zUe:List XO:=[
 ⟨some 4,.p (.mov (C (.int .i64 0))),none⟩]
def zUd:List XO:=zUe
theorem xq213_0e:E3 zUd zUe:=E3.rfl
abbrev zUg:List XO:=[
 ⟨some 6,.p (.mov (T 0)),none⟩,
 ⟨some 7,.p (.lenV (T 6)),none⟩,
 ⟨some 8,.p (.mov (C (.int .i64 0))),none⟩]
def zUf:List XO:=zUg
theorem xq213_1e:E3 zUf zUg:=E3.rfl
abbrev zUi:List XO:=[
 ⟨some 9,.p (.bin .lss (T 8) (T 7)),none⟩]
def zUh:List XO:=zUi
theorem xq213_2e:E3 zUh zUi:=E3.rfl
abbrev zUk:List XO:=[
 ⟨some 10,.p (.mov (T 8)),none⟩,
 ⟨some 5,.p (.mov (T 10)),none⟩]
def zUj:List XO:=zUk
theorem xq213_3e:E3 zUj zUk:=E3.rfl
abbrev zUm:List XO:=[
 ⟨some 11,.p (.mov (T 1)),none⟩,
 ⟨some 12,.p (.mov (T 0)),none⟩,
 ⟨some 13,.p (.mov (T 5)),none⟩,
 ⟨some 14,.p (.iaddrS 3 (T 12) (T 13)),none⟩,
 ⟨some 15,.r (.loadN 3 (T 14)),none⟩,
 ⟨some 16,.call (T 11) [(T 15)],none⟩]
def zUl:List XO:=zUm
theorem xq213_4e:E3 zUl zUm:=E3.rfl
abbrev zUo:List XO:=[
 ⟨some 17,.p (.mov (T 5)),none⟩,
 ⟨some 4,.p (.mov (T 17)),none⟩]
def zUn:List XO:=zUo
theorem xq213_5e:E3 zUn zUo:=E3.rfl
abbrev zUq:List XO:=[
 ⟨some 18,.p (.bin .add (T 8) (C (.int .i64 1))),none⟩,
 ⟨some 8,.p (.mov (T 18)),none⟩]
def zUp:List XO:=zUq
theorem xq213_6e:E3 zUp zUq:=E3.rfl
def zJV:XC:=
 .seq (.ops zUh) (.seq (.cond (T 9) (.skip) (.exit 0)) (.seq (.block 1 (.seq (.ops zUj) (.seq (.ops zUl) (.cond (T 16) (.seq (.ops zUn) (.ret)) (.skip))))) (.ops zUp)))
def zUr:XC:=zJV
theorem xq213_7k {pr:Prog} {k:List KI} {Q:XE→Fr→Heap→Prop} {t:Fr} {h:Heap} (hw:wpk pr zJV k Q t h):wpk pr zUr k Q t h:=hw
abbrev zUt:List XO:=[
 ⟨some 4,.p (.mov (C (.int .i64 (-1)))),none⟩]
def zUs:List XO:=zUt
theorem xq213_8e:E3 zUs zUt:=E3.rfl
def xq213:XF:=⟨2,[.tmp 4],
 .seq (.ops zUd) (.seq (.seq (.ops zUf) (.block 0 (.loop zUr))) (.seq (.ops zUs) (.ret)))⟩
def yq213:=PLift.up (And.intro (And.intro (And.intro (@xq213_0e) (@xq213_1e)) (And.intro (@xq213_2e) (@xq213_3e))) (And.intro (And.intro (@xq213_4e) (@xq213_5e)) (And.intro (@xq213_6e) (@xq213_8e))))
theorem cq213:zg Tryz.prog Tryz.f213 = some xq213:=by kernel_rfl
abbrev zSL:List XO:=[
 ⟨some 1,.a (.box (T 0)),none⟩,
 ⟨some 2,.p (.mov (C (.bool false))),none⟩]
def zSK:List XO:=zSL
theorem xq171_0e:E3 zSK zSL:=E3.rfl
abbrev zSN:List XO:=[
 ⟨some 3,.r (.loadN 3 (T 1)),none⟩,
 ⟨some 4,.call (.func 172) [(T 3)],none⟩,
 ⟨some 5,.p (.un .not (T 4)),none⟩,
 ⟨some 2,.p (.mov (T 5)),none⟩]
def zSM:List XO:=zSN
theorem xq171_1e:E3 zSM zSN:=E3.rfl
def xq171:XF:=⟨1,[.tmp 2],
 .seq (.ops zSK) (.seq (.ops zSM) (.ret))⟩
def yq171:=PLift.up (And.intro (@xq171_0e) (@xq171_1e))
theorem cq171:zg Tryz.prog Tryz.f171 = some xq171:=by kernel_rfl
abbrev zQO:List XO:=[
 ⟨some 1,.a (.box (T 0)),none⟩,
 ⟨some 2,.p (.mov (C (.int .i64 0))),none⟩]
def zQN:List XO:=zQO
theorem xq119_0e:E3 zQN zQO:=E3.rfl
abbrev zQQ:List XO:=[
 ⟨some 3,.p (.faddr 1 (T 1)),none⟩,
 ⟨some 4,.r (.load1 (T 3)),none⟩,
 ⟨some 5,.p (.bin .lss (T 4) (C (.int .u64 1))),none⟩,
 ⟨some 6,.p (.mov (T 5)),none⟩,
 ⟨some 7,.p (.faddr 2 (T 1)),some (6,false)⟩,
 ⟨some 8,.r (.load1 (T 7)),some (6,false)⟩,
 ⟨some 9,.p (.lenV (T 8)),some (6,false)⟩,
 ⟨some 10,.p (.bin .lss (T 9) (C (.int .i64 1))),some (6,false)⟩,
 ⟨some 11,.p (.pick (T 6) (C (.bool true)) (T 10)),none⟩,
 ⟨some 12,.p (.mov (T 11)),none⟩,
 ⟨some 13,.p (.faddr 2 (T 1)),some (12,false)⟩,
 ⟨some 14,.r (.load1 (T 13)),some (12,false)⟩,
 ⟨some 15,.p (.lenV (T 14)),some (12,false)⟩,
 ⟨some 16,.p (.bin .gtr (T 15) (C (.int .i64 8))),some (12,false)⟩,
 ⟨some 17,.p (.pick (T 12) (C (.bool true)) (T 16)),none⟩,
 ⟨some 18,.p (.mov (T 17)),none⟩,
 ⟨some 19,.p (.faddr 2 (T 1)),some (18,false)⟩,
 ⟨some 20,.r (.load1 (T 19)),some (18,false)⟩,
 ⟨some 21,.call (.func 170) [(T 20),(.func 171)],some (18,false)⟩,
 ⟨some 22,.p (.pick (T 18) (C (.bool true)) (T 21)),none⟩]
def zQP:List XO:=zQQ
theorem xq119_1e:E3 zQP zQQ:=E3.rfl
abbrev zQS:List XO:=[
 ⟨some 2,.p (.mov (C (.int .i64 40))),none⟩]
def zQR:List XO:=zQS
theorem xq119_2e:E3 zQR zQS:=E3.rfl
abbrev zQU:List XO:=[
 ⟨some 2,.p (.mov (C (.int .i64 0))),none⟩]
def zQT:List XO:=zQU
theorem xq119_3e:E3 zQT zQU:=E3.rfl
def xq119:XF:=⟨1,[.tmp 2],
 .seq (.ops zQN) (.seq (.seq (.ops zQP) (.cond (T 22) (.seq (.ops zQR) (.ret)) (.skip))) (.seq (.ops zQT) (.ret)))⟩
def yq119:=PLift.up (And.intro (And.intro (@xq119_0e) (@xq119_1e)) (And.intro (@xq119_2e) (@xq119_3e)))
theorem cq119:zg Tryz.prog Tryz.f119 = some xq119:=by kernel_rfl
abbrev zOE:List XO:=[
 ⟨some 2,.a (.alloc [(.slice none 0 0),(.bool false),(.string (strOf [])),(.string (strOf []))]),none⟩]
def zOD:List XO:=zOE
theorem xq106_0e:E3 zOD zOE:=E3.rfl
abbrev zOM:List XO:=[
 ⟨some 3,.a (.alloc [(.slice none 0 0),(.bool false),(.string (strOf [])),(.string (strOf []))]),none⟩]
def zOF:List XO:=zOM
theorem xq106_1e:E3 zOF zOM:=E3.rfl
abbrev zOO:List XO:=[
 ⟨some 5,.p (.mov (T 0)),none⟩,
 ⟨some 6,.call (.func 108) [(T 5),(C (.int .i64 256))],none⟩,
 ⟨some 4,.p (.mov (T 6)),none⟩]
def zON:List XO:=zOO
theorem xq106_2e:E3 zON zOO:=E3.rfl
abbrev zOQ:List XO:=[
 ⟨some 7,.p (.mov (T 4)),none⟩,
 ⟨some 8,.p (.bin .gtr (T 7) (C (.int .i64 0))),none⟩,
 ⟨some 9,.p (.mov (T 8)),none⟩,
 ⟨some 10,.p (.mov (T 0)),some (9,true)⟩,
 ⟨some 11,.call (.func 109) [(T 10)],some (9,true)⟩,
 ⟨some 12,.p (.eql false .int (T 11) (C (.int .i64 0))),some (9,true)⟩,
 ⟨some 13,.p (.pick (T 9) (T 12) (C (.bool false))),none⟩]
def zOP:List XO:=zOQ
theorem xq106_3e:E3 zOP zOQ:=E3.rfl
abbrev zOS:List XO:=[
 ⟨some 16,.p (.faddr 0 (T 3)),none⟩,
 ⟨some 17,.r (.load1 (T 16)),none⟩,
 ⟨some 18,.p (.mov (T 0)),none⟩,
 ⟨some 19,.call (.func 90) [(T 18)],none⟩,
 ⟨some 20,.a (.bslice [(.string (strOf []))] 1 [(0,1,(T 19))]),none⟩,
 ⟨some 21,.e (.append 1 16 (T 17) (T 20)),none⟩,
 ⟨some 22,.p (.faddr 0 (T 3)),none⟩,
 ⟨none,.e (.store 1 (T 22) (T 21)),none⟩]
def zOR:List XO:=zOS
theorem xq106_4e:E3 zOR zOS:=E3.rfl
abbrev zOU:List XO:=[
 ⟨some 14,.p (.mov (T 4)),none⟩,
 ⟨some 15,.p (.bin .sub (T 14) (C (.int .i64 1))),none⟩,
 ⟨some 4,.p (.mov (T 15)),none⟩]
def zOT:List XO:=zOU
theorem xq106_5e:E3 zOT zOU:=E3.rfl
def zJB:XC:=
 .seq (.seq (.ops zOP) (.cond (T 13) (.skip) (.exit 0))) (.seq (.block 1 (.draw zOR [(1,(5,[]))])) (.ops zOT))
def zOV:XC:=zJB
theorem xq106_6k {pr:Prog} {k:List KI} {Q:XE→Fr→Heap→Prop} {t:Fr} {h:Heap} (hw:wpk pr zJB k Q t h):wpk pr zOV k Q t h:=hw
abbrev zOX:List XO:=[
 ⟨some 23,.p (.mov (T 0)),none⟩,
 ⟨some 24,.call (.func 105) [(T 23)],none⟩,
 ⟨some 25,.p (.faddr 1 (T 3)),none⟩,
 ⟨none,.e (.store 1 (T 25) (T 24)),none⟩]
def zOW:List XO:=zOX
theorem xq106_7e:E3 zOW zOX:=E3.rfl
abbrev zOZ:List XO:=[
 ⟨some 26,.p (.faddr 1 (T 3)),none⟩,
 ⟨some 27,.r (.load1 (T 26)),none⟩]
def zOY:List XO:=zOZ
theorem xq106_8e:E3 zOY zOZ:=E3.rfl
abbrev zOb:List XO:=[
 ⟨some 28,.p (.mov (T 0)),none⟩,
 ⟨some 29,.call (.func 90) [(T 28)],none⟩,
 ⟨some 30,.p (.mov (T 0)),none⟩,
 ⟨some 31,.call (.func 90) [(T 30)],none⟩,
 ⟨some 32,.p (.build [(.string (strOf [])),(.string (strOf []))] [(0,1,(T 29)),(1,1,(T 31))]),none⟩,
 ⟨some 33,.p (.faddr 2 (T 3)),none⟩,
 ⟨none,.e (.store 2 (T 33) (T 32)),none⟩]
def zOa:List XO:=zOb
theorem xq106_9e:E3 zOa zOb:=E3.rfl
abbrev zOH:List XO:=[
 ⟨some 34,.p (.mov (T 0)),none⟩,
 ⟨some 35,.call (.func 109) [(T 34)],none⟩,
 ⟨some 36,.p (.eql true .int (T 35) (C (.int .i64 0))),none⟩]
def zOG:List XO:=zOH
theorem zdE:E3 zOG zOH:=E3.rfl
abbrev zOJ:List XO:=[
 ⟨some 37,.p (.build [(.slice none 0 0),(.bool false),(.string (strOf [])),(.string (strOf []))] []),none⟩,
 ⟨none,.e (.store 4 (T 2) (T 37)),none⟩]
def zOI:List XO:=zOJ
theorem zdF:E3 zOI zOJ:=E3.rfl
abbrev zOL:List XO:=[
 ⟨some 38,.r (.loadN 4 (T 3)),none⟩,
 ⟨none,.e (.store 4 (T 2) (T 38)),none⟩]
def zOK:List XO:=zOL
theorem zdG:E3 zOK zOL:=E3.rfl
def xq106:XF:=⟨1,[.cellN 2 4],
 .seq (.ops zOD) (.seq (.ops zOF) (.seq (.seq (.ops zON) (.block 0 (.loop zOV))) (.seq (.seq (.ops zOW) (.seq (.ops zOY) (.cond (T 27) (.ops zOa) (.skip)))) (.seq (.seq (.ops zOG) (.cond (T 36) (.seq (.ops zOI) (.ret)) (.skip))) (.seq (.ops zOK) (.ret))))))⟩
def yq106:=PLift.up (And.intro (And.intro (And.intro (@xq106_0e) (And.intro (@xq106_1e) (@xq106_2e))) (And.intro (@xq106_3e) (And.intro (@xq106_4e) (@xq106_5e)))) (And.intro (And.intro (@xq106_7e) (And.intro (@xq106_8e) (@xq106_9e))) (And.intro (@zdE) (And.intro (@zdF) (@zdG)))))
theorem cq106:zg Tryz.prog Tryz.f106 = some xq106:=by kernel_rfl
abbrev zP1:List XO:=[
 ⟨some 3,.a (.box (T 1)),none⟩]
def zP0:List XO:=zP1
theorem xq118_0e:E3 zP0 zP1:=E3.rfl
abbrev zP7:List XO:=[
 ⟨some 6,.p (.mov (T 0)),none⟩,
 ⟨some 7,.p (.faddr 0 (T 3)),none⟩,
 ⟨some 8,.r (.load1 (T 7)),none⟩,
 ⟨some 9,.p (.lenV (T 8)),none⟩,
 ⟨some 10,.call (.func 121) [(T 6),(T 9)],none⟩]
def zP2:List XO:=zP7
theorem xq118_1e:E3 zP2 zP7:=E3.rfl
abbrev zP9:List XO:=[
 ⟨some 11,.p (.faddr 0 (T 3)),none⟩,
 ⟨some 12,.r (.load1 (T 11)),none⟩,
 ⟨some 13,.p (.lenV (T 12)),none⟩,
 ⟨some 14,.p (.mov (C (.int .i64 0))),none⟩]
def zP8:List XO:=zP9
theorem xq118_2e:E3 zP8 zP9:=E3.rfl
abbrev zQB:List XO:=[
 ⟨some 15,.p (.bin .lss (T 14) (T 13)),none⟩]
def zQA:List XO:=zQB
theorem xq118_3e:E3 zQA zQB:=E3.rfl
abbrev zQD:List XO:=[
 ⟨some 16,.p (.iaddrS 1 (T 12) (T 14)),none⟩,
 ⟨some 17,.r (.load1 (T 16)),none⟩,
 ⟨some 5,.p (.mov (T 17)),none⟩]
def zQC:List XO:=zQD
theorem xq118_4e:E3 zQC zQD:=E3.rfl
abbrev zQF:List XO:=[
 ⟨some 18,.p (.mov (T 0)),none⟩,
 ⟨some 19,.p (.mov (T 5)),none⟩,
 ⟨some 20,.call (.func 79) [(T 18),(T 19)],none⟩]
def zQE:List XO:=zQF
theorem xq118_5e:E3 zQE zQF:=E3.rfl
abbrev zQH:List XO:=[
 ⟨some 21,.p (.bin .add (T 14) (C (.int .i64 1))),none⟩,
 ⟨some 14,.p (.mov (T 21)),none⟩]
def zQG:List XO:=zQH
theorem xq118_6e:E3 zQG zQH:=E3.rfl
def zJE:XC:=
 .seq (.ops zQA) (.seq (.cond (T 15) (.skip) (.exit 0)) (.seq (.block 1 (.seq (.ops zQC) (.ops zQE))) (.ops zQG)))
def zQI:XC:=zJE
theorem xq118_7k {pr:Prog} {k:List KI} {Q:XE→Fr→Heap→Prop} {t:Fr} {h:Heap} (hw:wpk pr zJE k Q t h):wpk pr zQI k Q t h:=hw
abbrev zQK:List XO:=[
 ⟨some 22,.p (.mov (T 0)),none⟩,
 ⟨some 23,.p (.faddr 1 (T 3)),none⟩,
 ⟨some 24,.r (.load1 (T 23)),none⟩,
 ⟨some 25,.call (.func 117) [(T 22),(T 24)],none⟩]
def zQJ:List XO:=zQK
theorem xq118_8e:E3 zQJ zQK:=E3.rfl
abbrev zQM:List XO:=[
 ⟨some 26,.p (.faddr 1 (T 3)),none⟩,
 ⟨some 27,.r (.load1 (T 26)),none⟩]
def zQL:List XO:=zQM
theorem xq118_9e:E3 zQL zQM:=E3.rfl
abbrev zP4:List XO:=[
 ⟨some 28,.p (.mov (T 0)),none⟩,
 ⟨some 29,.p (.faddr 2 (T 3)),none⟩,
 ⟨some 30,.p (.faddr 0 (T 29)),none⟩,
 ⟨some 31,.r (.load1 (T 30)),none⟩,
 ⟨some 32,.call (.func 79) [(T 28),(T 31)],none⟩]
def zP3:List XO:=zP4
theorem zdJ:E3 zP3 zP4:=E3.rfl
abbrev zP6:List XO:=[
 ⟨some 33,.p (.mov (T 0)),none⟩,
 ⟨some 34,.p (.faddr 2 (T 3)),none⟩,
 ⟨some 35,.p (.faddr 1 (T 34)),none⟩,
 ⟨some 36,.r (.load1 (T 35)),none⟩,
 ⟨some 37,.call (.func 79) [(T 33),(T 36)],none⟩]
def zP5:List XO:=zP6
theorem zdK:E3 zP5 zP6:=E3.rfl
def xq118:XF:=⟨2,[],
 .seq (.ops zP0) (.seq (.ops zP2) (.seq (.seq (.ops zP8) (.block 0 (.loop zQI))) (.seq (.ops zQJ) (.seq (.ops zQL) (.cond (T 27) (.seq (.ops zP3) (.ops zP5)) (.skip))))))⟩
def yq118:=PLift.up (And.intro (And.intro (And.intro (@xq118_0e) (@xq118_1e)) (And.intro (@xq118_2e) (And.intro (@xq118_3e) (@xq118_4e)))) (And.intro (And.intro (@xq118_5e) (And.intro (@xq118_6e) (@xq118_8e))) (And.intro (@xq118_9e) (And.intro (@zdJ) (@zdK)))))
theorem cq118:zg Tryz.prog Tryz.f118 = some xq118:=by kernel_rfl
abbrev zYP:List XO:=[
 ⟨some 2,.a (.alloc [(.int .u64 0),(.string (strOf [])),(.string (strOf [])),(.string (strOf [])),(.slice none 0 0),(.slice none 0 0),(.string (strOf [])),(.bool false),(.string (strOf [])),(.slice none 0 0),(.bool false),(.string (strOf [])),(.string (strOf []))]),none⟩,
 ⟨some 3,.p (.mov (C (.int .i64 0))),none⟩]
def xq42_0:List XO:=zYP
theorem xq42_0e:E3 xq42_0 zYP:=E3.rfl
abbrev zYQ:List XO:=[
 ⟨some 7,.p (.mov (T 0)),none⟩,
 ⟨some 8,.call (.func 86) [(T 7)],none⟩,
 ⟨some 4,.p (.mov (T 8)),none⟩]
def xq42_1:List XO:=zYQ
theorem xq42_1e:E3 xq42_1 zYQ:=E3.rfl
abbrev zYR:List XO:=[
 ⟨some 9,.p (.mov (T 4)),none⟩,
 ⟨some 10,.call (.func 103) [(T 9)],none⟩,
 ⟨some 11,.p (.mov (T 4)),none⟩,
 ⟨some 12,.call (.func 104) [(T 11)],none⟩,
 ⟨some 13,.p (.mov (T 4)),none⟩,
 ⟨some 14,.call (.func 87) [(T 13),(C (.int .i64 32))],none⟩,
 ⟨some 15,.p (.mov (T 4)),none⟩,
 ⟨some 16,.call (.func 105) [(T 15)],none⟩,
 ⟨some 17,.p (.mov (T 4)),none⟩,
 ⟨some 18,.call (.func 87) [(T 17),(C (.int .i64 64))],none⟩,
 ⟨some 19,.p (.mov (T 4)),none⟩,
 ⟨some 20,.call (.func 106) [(T 19)],none⟩,
 ⟨some 21,.p (.build [(.int .u64 0),(.string (strOf [])),(.string (strOf [])),(.string (strOf [])),(.slice none 0 0),(.slice none 0 0),(.string (strOf [])),(.bool false),(.string (strOf [])),(.slice none 0 0),(.bool false),(.string (strOf [])),(.string (strOf []))] [(0,5,(T 10)),(5,1,(T 12)),(6,1,(T 14)),(7,1,(T 16)),(8,1,(T 18)),(9,4,(T 20))]),none⟩,
 ⟨some 5,.a (.alloc [(.int .u64 0),(.string (strOf [])),(.string (strOf [])),(.string (strOf [])),(.slice none 0 0),(.slice none 0 0),(.string (strOf [])),(.bool false),(.string (strOf [])),(.slice none 0 0),(.bool false),(.string (strOf [])),(.string (strOf []))]),none⟩,
 ⟨none,.e (.store 13 (T 5) (T 21)),none⟩]
def xq42_2:List XO:=zYR
theorem xq42_2e:E3 xq42_2 zYR:=E3.rfl
abbrev zYS:List XO:=[
 ⟨some 22,.p (.mov (T 4)),none⟩,
 ⟨some 23,.call (.func 91) [(T 22)],none⟩,
 ⟨some 6,.p (.mov (T 23)),none⟩]
def xq42_3:List XO:=zYS
theorem xq42_3e:E3 xq42_3 zYS:=E3.rfl
abbrev zYT:List XO:=[
 ⟨some 24,.p (.mov (T 6)),none⟩,
 ⟨some 25,.p (.eql true .int (T 24) (C (.int .i64 0))),none⟩]
def xq42_4:List XO:=zYT
theorem xq42_4e:E3 xq42_4 zYT:=E3.rfl
abbrev zYU:List XO:=[
 ⟨some 26,.p (.build [(.int .u64 0),(.string (strOf [])),(.string (strOf [])),(.string (strOf [])),(.slice none 0 0),(.slice none 0 0),(.string (strOf [])),(.bool false),(.string (strOf [])),(.slice none 0 0),(.bool false),(.string (strOf [])),(.string (strOf []))] []),none⟩,
 ⟨some 27,.p (.mov (T 6)),none⟩,
 ⟨none,.e (.store 13 (T 2) (T 26)),none⟩,
 ⟨some 3,.p (.mov (T 27)),none⟩]
def xq42_5:List XO:=zYU
theorem xq42_5e:E3 xq42_5 zYU:=E3.rfl
abbrev zYV:List XO:=[
 ⟨some 28,.r (.loadN 13 (T 5)),none⟩,
 ⟨none,.e (.store 13 (T 2) (T 28)),none⟩,
 ⟨some 3,.p (.mov (C (.int .i64 0))),none⟩]
def xq42_6:List XO:=zYV
theorem xq42_6e:E3 xq42_6 zYV:=E3.rfl
def xq42:XF:=⟨1,[.cellN 2 13,.tmp 3],
 .seq (.ops xq42_0) (.seq (.ops xq42_1) (.seq (.ops xq42_2) (.seq (.seq (.ops xq42_3) (.seq (.ops xq42_4) (.cond (T 25) (.seq (.ops xq42_5) (.ret)) (.skip)))) (.seq (.ops xq42_6) (.ret)))))⟩
def yq42:=PLift.up (And.intro (And.intro (@xq42_0e) (And.intro (@xq42_1e) (@xq42_2e))) (And.intro (And.intro (@xq42_3e) (@xq42_4e)) (And.intro (@xq42_5e) (@xq42_6e))))
theorem cq42:zg Tryz.prog Tryz.f42 = some xq42:=by kernel_rfl
abbrev zYW:List XO:=[
 ⟨some 2,.a (.alloc [(.int .u64 0),(.string (strOf [])),(.string (strOf [])),(.string (strOf [])),(.slice none 0 0),(.slice none 0 0),(.int .u64 0),(.int .u64 0),(.slice none 0 0),(.int .i64 0),(.int .i64 0),(.slice none 0 0)]),none⟩,
 ⟨some 3,.p (.mov (C (.int .i64 0))),none⟩]
def xq43_0:List XO:=zYW
theorem xq43_0e:E3 xq43_0 zYW:=E3.rfl
abbrev zYb:List XO:=[
 ⟨some 8,.p (.mov (T 0)),none⟩,
 ⟨some 9,.call (.func 86) [(T 8)],none⟩,
 ⟨some 4,.p (.mov (T 9)),none⟩]
def xq43_1:List XO:=zYb
theorem xq43_1e:E3 xq43_1 zYb:=E3.rfl
abbrev zYc:List XO:=[
 ⟨some 10,.p (.mov (T 4)),none⟩,
 ⟨some 11,.call (.func 103) [(T 10)],none⟩,
 ⟨some 12,.p (.mov (T 4)),none⟩,
 ⟨some 13,.call (.func 104) [(T 12)],none⟩,
 ⟨some 14,.p (.mov (T 4)),none⟩,
 ⟨some 15,.call (.func 107) [(T 14)],none⟩,
 ⟨some 16,.p (.mov (T 4)),none⟩,
 ⟨some 17,.call (.func 108) [(T 16),(C (.int .i64 16))],none⟩,
 ⟨some 18,.p (.mov (T 4)),none⟩,
 ⟨some 19,.call (.func 108) [(T 18),(C (.int .i64 16))],none⟩,
 ⟨some 20,.p (.build [(.int .u64 0),(.string (strOf [])),(.string (strOf [])),(.string (strOf [])),(.slice none 0 0),(.slice none 0 0),(.int .u64 0),(.int .u64 0),(.slice none 0 0),(.int .i64 0),(.int .i64 0),(.slice none 0 0)] [(0,5,(T 11)),(5,1,(T 13)),(6,3,(T 15)),(9,1,(T 17)),(10,1,(T 19))]),none⟩,
 ⟨some 5,.a (.alloc [(.int .u64 0),(.string (strOf [])),(.string (strOf [])),(.string (strOf [])),(.slice none 0 0),(.slice none 0 0),(.int .u64 0),(.int .u64 0),(.slice none 0 0),(.int .i64 0),(.int .i64 0),(.slice none 0 0)]),none⟩,
 ⟨none,.e (.store 12 (T 5) (T 20)),none⟩]
def xq43_2:List XO:=zYc
theorem xq43_2e:E3 xq43_2 zYc:=E3.rfl
abbrev zYd:List XO:=[
 ⟨some 21,.p (.mov (T 4)),none⟩,
 ⟨some 22,.call (.func 108) [(T 21),(C (.int .i64 8))],none⟩,
 ⟨some 6,.p (.mov (T 22)),none⟩]
def xq43_3:List XO:=zYd
theorem xq43_3e:E3 xq43_3 zYd:=E3.rfl
abbrev zYe:List XO:=[
 ⟨some 23,.p (.mov (T 6)),none⟩,
 ⟨some 24,.p (.bin .gtr (T 23) (C (.int .i64 0))),none⟩,
 ⟨some 25,.p (.mov (T 24)),none⟩,
 ⟨some 26,.p (.mov (T 4)),some (25,true)⟩,
 ⟨some 27,.call (.func 109) [(T 26)],some (25,true)⟩,
 ⟨some 28,.p (.eql false .int (T 27) (C (.int .i64 0))),some (25,true)⟩,
 ⟨some 29,.p (.pick (T 25) (T 28) (C (.bool false))),none⟩]
def xq43_4:List XO:=zYe
theorem xq43_4e:E3 xq43_4 zYe:=E3.rfl
abbrev zYf:List XO:=[
 ⟨some 32,.p (.faddr 11 (T 5)),none⟩,
 ⟨some 33,.r (.load1 (T 32)),none⟩,
 ⟨some 34,.p (.mov (T 4)),none⟩,
 ⟨some 35,.call (.func 90) [(T 34)],none⟩,
 ⟨some 36,.a (.bslice [(.string (strOf []))] 1 [(0,1,(T 35))]),none⟩,
 ⟨some 37,.e (.append 1 16 (T 33) (T 36)),none⟩,
 ⟨some 38,.p (.faddr 11 (T 5)),none⟩,
 ⟨none,.e (.store 1 (T 38) (T 37)),none⟩]
def xq43_5:List XO:=zYf
theorem xq43_5e:E3 xq43_5 zYf:=E3.rfl
abbrev zYg:List XO:=[
 ⟨some 30,.p (.mov (T 6)),none⟩,
 ⟨some 31,.p (.bin .sub (T 30) (C (.int .i64 1))),none⟩,
 ⟨some 6,.p (.mov (T 31)),none⟩]
def xq43_6:List XO:=zYg
theorem xq43_6e:E3 xq43_6 zYg:=E3.rfl
def zJz:XC:=
 .seq (.seq (.ops xq43_4) (.cond (T 29) (.skip) (.exit 0))) (.seq (.block 1 (.draw xq43_5 [(1,(5,[]))])) (.ops xq43_6))
def xq43_7:XC:=zJz
theorem xq43_7k {pr:Prog} {k:List KI} {Q:XE→Fr→Heap→Prop} {t:Fr} {h:Heap} (hw:wpk pr zJz k Q t h):wpk pr xq43_7 k Q t h:=hw
abbrev zYh:List XO:=[
 ⟨some 39,.p (.mov (T 4)),none⟩,
 ⟨some 40,.call (.func 91) [(T 39)],none⟩,
 ⟨some 7,.p (.mov (T 40)),none⟩]
def xq43_8:List XO:=zYh
theorem xq43_8e:E3 xq43_8 zYh:=E3.rfl
abbrev zYi:List XO:=[
 ⟨some 41,.p (.mov (T 7)),none⟩,
 ⟨some 42,.p (.eql true .int (T 41) (C (.int .i64 0))),none⟩]
def xq43_9:List XO:=zYi
theorem xq43_9e:E3 xq43_9 zYi:=E3.rfl
abbrev zYY:List XO:=[
 ⟨some 43,.p (.build [(.int .u64 0),(.string (strOf [])),(.string (strOf [])),(.string (strOf [])),(.slice none 0 0),(.slice none 0 0),(.int .u64 0),(.int .u64 0),(.slice none 0 0),(.int .i64 0),(.int .i64 0),(.slice none 0 0)] []),none⟩,
 ⟨some 44,.p (.mov (T 7)),none⟩,
 ⟨none,.e (.store 12 (T 2) (T 43)),none⟩,
 ⟨some 3,.p (.mov (T 44)),none⟩]
def zYX:List XO:=zYY
theorem xq43_10e:E3 zYX zYY:=E3.rfl
abbrev zYa:List XO:=[
 ⟨some 45,.r (.loadN 12 (T 5)),none⟩,
 ⟨none,.e (.store 12 (T 2) (T 45)),none⟩,
 ⟨some 3,.p (.mov (C (.int .i64 0))),none⟩]
def zYZ:List XO:=zYa
theorem xq43_11e:E3 zYZ zYa:=E3.rfl
def xq43:XF:=⟨1,[.cellN 2 12,.tmp 3],
 .seq (.ops xq43_0) (.seq (.ops xq43_1) (.seq (.ops xq43_2) (.seq (.seq (.ops xq43_3) (.block 0 (.loop xq43_7))) (.seq (.seq (.ops xq43_8) (.seq (.ops xq43_9) (.cond (T 42) (.seq (.ops zYX) (.ret)) (.skip)))) (.seq (.ops zYZ) (.ret))))))⟩
def yq43:=PLift.up (And.intro (And.intro (And.intro (@xq43_0e) (@xq43_1e)) (And.intro (@xq43_2e) (And.intro (@xq43_3e) (@xq43_4e)))) (And.intro (And.intro (@xq43_5e) (And.intro (@xq43_6e) (@xq43_8e))) (And.intro (@xq43_9e) (And.intro (@xq43_10e) (@xq43_11e)))))
theorem cq43:zg Tryz.prog Tryz.f43 = some xq43:=by kernel_rfl
abbrev zYj:List XO:=[
 ⟨some 1,.a (.box (T 0)),none⟩,
 ⟨some 2,.p (.mov (C (.string (strOf [])))),none⟩,
 ⟨some 3,.p (.mov (C (.int .i64 0))),none⟩]
def xq45_0:List XO:=zYj
theorem xq45_0e:E3 xq45_0 zYj:=E3.rfl
abbrev zYo:List XO:=[
 ⟨some 6,.p (.faddr 0 (T 1)),none⟩,
 ⟨some 7,.r (.loadN 5 (T 6)),none⟩,
 ⟨some 8,.call (.func 64) [(T 7)],none⟩,
 ⟨some 4,.p (.mov (T 8)),none⟩]
def xq45_1:List XO:=zYo
theorem xq45_1e:E3 xq45_1 zYo:=E3.rfl
abbrev zYp:List XO:=[
 ⟨some 9,.p (.mov (T 4)),none⟩,
 ⟨some 10,.p (.eql true .int (T 9) (C (.int .i64 0))),none⟩]
def xq45_2:List XO:=zYp
theorem xq45_2e:E3 xq45_2 zYp:=E3.rfl
abbrev zYq:List XO:=[
 ⟨some 11,.p (.mov (T 4)),none⟩,
 ⟨some 2,.p (.mov (C (.string (strOf [])))),none⟩,
 ⟨some 3,.p (.mov (T 11)),none⟩]
def xq45_3:List XO:=zYq
theorem xq45_3e:E3 xq45_3 zYq:=E3.rfl
abbrev zYr:List XO:=[
 ⟨some 12,.call (.func 75) [],none⟩,
 ⟨some 5,.p (.mov (T 12)),none⟩]
def xq45_4:List XO:=zYr
theorem xq45_4e:E3 xq45_4 zYr:=E3.rfl
abbrev zYs:List XO:=[
 ⟨some 13,.p (.mov (T 5)),none⟩,
 ⟨some 14,.p (.faddr 0 (T 1)),none⟩,
 ⟨some 15,.r (.loadN 5 (T 14)),none⟩,
 ⟨some 16,.call (.func 115) [(T 13),(T 15)],none⟩]
def xq45_5:List XO:=zYs
theorem xq45_5e:E3 xq45_5 zYs:=E3.rfl
abbrev zYt:List XO:=[
 ⟨some 17,.p (.mov (T 5)),none⟩,
 ⟨some 18,.p (.faddr 5 (T 1)),none⟩,
 ⟨some 19,.r (.loadN 1 (T 18)),none⟩,
 ⟨some 20,.call (.func 116) [(T 17),(T 19)],none⟩]
def xq45_6:List XO:=zYt
theorem xq45_6e:E3 xq45_6 zYt:=E3.rfl
abbrev zYu:List XO:=[
 ⟨some 21,.p (.mov (T 5)),none⟩,
 ⟨some 22,.p (.faddr 6 (T 1)),none⟩,
 ⟨some 23,.r (.load1 (T 22)),none⟩,
 ⟨some 24,.call (.func 76) [(T 21),(T 23)],none⟩]
def xq45_7:List XO:=zYu
theorem xq45_7e:E3 xq45_7 zYu:=E3.rfl
abbrev zYv:List XO:=[
 ⟨some 25,.p (.mov (T 5)),none⟩,
 ⟨some 26,.p (.faddr 7 (T 1)),none⟩,
 ⟨some 27,.r (.load1 (T 26)),none⟩,
 ⟨some 28,.call (.func 117) [(T 25),(T 27)],none⟩]
def xq45_8:List XO:=zYv
theorem xq45_8e:E3 xq45_8 zYv:=E3.rfl
abbrev zYw:List XO:=[
 ⟨some 29,.p (.mov (T 5)),none⟩,
 ⟨some 30,.p (.faddr 8 (T 1)),none⟩,
 ⟨some 31,.r (.load1 (T 30)),none⟩,
 ⟨some 32,.call (.func 76) [(T 29),(T 31)],none⟩]
def xq45_9:List XO:=zYw
theorem xq45_9e:E3 xq45_9 zYw:=E3.rfl
abbrev zYl:List XO:=[
 ⟨some 33,.p (.mov (T 5)),none⟩,
 ⟨some 34,.p (.faddr 9 (T 1)),none⟩,
 ⟨some 35,.r (.loadN 4 (T 34)),none⟩,
 ⟨some 36,.call (.func 118) [(T 33),(T 35)],none⟩]
def zYk:List XO:=zYl
theorem xq45_10e:E3 zYk zYl:=E3.rfl
abbrev zYn:List XO:=[
 ⟨some 37,.p (.mov (T 5)),none⟩,
 ⟨some 38,.call (.func 81) [(T 37)],none⟩,
 ⟨some 2,.p (.mov (T 38)),none⟩,
 ⟨some 3,.p (.mov (C (.int .i64 0))),none⟩]
def zYm:List XO:=zYn
theorem xq45_11e:E3 zYm zYn:=E3.rfl
def xq45:XF:=⟨1,[.tmp 2,.tmp 3],
 .seq (.ops xq45_0) (.seq (.seq (.ops xq45_1) (.seq (.ops xq45_2) (.cond (T 10) (.seq (.ops xq45_3) (.ret)) (.skip)))) (.seq (.ops xq45_4) (.seq (.ops xq45_5) (.seq (.ops xq45_6) (.seq (.ops xq45_7) (.seq (.ops xq45_8) (.seq (.ops xq45_9) (.seq (.ops zYk) (.seq (.ops zYm) (.ret))))))))))⟩
def yq45:=PLift.up (And.intro (And.intro (And.intro (@xq45_0e) (And.intro (@xq45_1e) (@xq45_2e))) (And.intro (@xq45_3e) (And.intro (@xq45_4e) (@xq45_5e)))) (And.intro (And.intro (@xq45_6e) (And.intro (@xq45_7e) (@xq45_8e))) (And.intro (@xq45_9e) (And.intro (@xq45_10e) (@xq45_11e)))))
theorem cq45:zg Tryz.prog Tryz.f45 = some xq45:=by kernel_rfl
abbrev zYx:List XO:=[
 ⟨some 1,.a (.box (T 0)),none⟩,
 ⟨some 2,.p (.mov (C (.string (strOf [])))),none⟩,
 ⟨some 3,.p (.mov (C (.int .i64 0))),none⟩]
def xq46_0:List XO:=zYx
theorem xq46_0e:E3 xq46_0 zYx:=E3.rfl
abbrev zZH:List XO:=[
 ⟨some 9,.p (.faddr 0 (T 1)),none⟩,
 ⟨some 10,.r (.loadN 5 (T 9)),none⟩,
 ⟨some 11,.call (.func 64) [(T 10)],none⟩,
 ⟨some 4,.p (.mov (T 11)),none⟩]
def xq46_1:List XO:=zZH
theorem xq46_1e:E3 xq46_1 zZH:=E3.rfl
abbrev zZK:List XO:=[
 ⟨some 12,.p (.mov (T 4)),none⟩,
 ⟨some 13,.p (.eql true .int (T 12) (C (.int .i64 0))),none⟩]
def xq46_2:List XO:=zZK
theorem xq46_2e:E3 xq46_2 zZK:=E3.rfl
abbrev zZL:List XO:=[
 ⟨some 14,.p (.mov (T 4)),none⟩,
 ⟨some 2,.p (.mov (C (.string (strOf [])))),none⟩,
 ⟨some 3,.p (.mov (T 14)),none⟩]
def xq46_3:List XO:=zZL
theorem xq46_3e:E3 xq46_3 zZL:=E3.rfl
abbrev zZM:List XO:=[
 ⟨some 15,.p (.faddr 6 (T 1)),none⟩,
 ⟨some 16,.r (.loadN 3 (T 15)),none⟩,
 ⟨some 17,.call (.func 119) [(T 16)],none⟩,
 ⟨some 5,.p (.mov (T 17)),none⟩]
def xq46_4:List XO:=zZM
theorem xq46_4e:E3 xq46_4 zZM:=E3.rfl
abbrev zZN:List XO:=[
 ⟨some 18,.p (.mov (T 5)),none⟩,
 ⟨some 19,.p (.eql true .int (T 18) (C (.int .i64 0))),none⟩]
def xq46_5:List XO:=zZN
theorem xq46_5e:E3 xq46_5 zZN:=E3.rfl
abbrev zZO:List XO:=[
 ⟨some 20,.p (.mov (T 5)),none⟩,
 ⟨some 2,.p (.mov (C (.string (strOf [])))),none⟩,
 ⟨some 3,.p (.mov (T 20)),none⟩]
def xq46_6:List XO:=zZO
theorem xq46_6e:E3 xq46_6 zZO:=E3.rfl
abbrev zZP:List XO:=[
 ⟨some 21,.call (.func 75) [],none⟩,
 ⟨some 6,.p (.mov (T 21)),none⟩]
def xq46_7:List XO:=zZP
theorem xq46_7e:E3 xq46_7 zZP:=E3.rfl
abbrev zZQ:List XO:=[
 ⟨some 22,.p (.mov (T 6)),none⟩,
 ⟨some 23,.p (.faddr 0 (T 1)),none⟩,
 ⟨some 24,.r (.loadN 5 (T 23)),none⟩,
 ⟨some 25,.call (.func 115) [(T 22),(T 24)],none⟩]
def xq46_8:List XO:=zZQ
theorem xq46_8e:E3 xq46_8 zZQ:=E3.rfl
abbrev zZR:List XO:=[
 ⟨some 26,.p (.mov (T 6)),none⟩,
 ⟨some 27,.p (.faddr 5 (T 1)),none⟩,
 ⟨some 28,.r (.loadN 1 (T 27)),none⟩,
 ⟨some 29,.call (.func 116) [(T 26),(T 28)],none⟩]
def xq46_9:List XO:=zZR
theorem xq46_9e:E3 xq46_9 zZR:=E3.rfl
abbrev zYz:List XO:=[
 ⟨some 30,.p (.mov (T 6)),none⟩,
 ⟨some 31,.p (.faddr 6 (T 1)),none⟩,
 ⟨some 32,.r (.loadN 3 (T 31)),none⟩,
 ⟨some 33,.call (.func 120) [(T 30),(T 32)],none⟩]
def zYy:List XO:=zYz
theorem xq46_10e:E3 zYy zYz:=E3.rfl
abbrev zY1:List XO:=[
 ⟨some 34,.p (.mov (T 6)),none⟩,
 ⟨some 35,.p (.faddr 9 (T 1)),none⟩,
 ⟨some 36,.r (.load1 (T 35)),none⟩,
 ⟨some 37,.call (.func 121) [(T 34),(T 36)],none⟩]
def zY0:List XO:=zY1
theorem xq46_11e:E3 zY0 zY1:=E3.rfl
abbrev zY3:List XO:=[
 ⟨some 38,.p (.mov (T 6)),none⟩,
 ⟨some 39,.p (.faddr 10 (T 1)),none⟩,
 ⟨some 40,.r (.load1 (T 39)),none⟩,
 ⟨some 41,.call (.func 121) [(T 38),(T 40)],none⟩]
def zY2:List XO:=zY3
theorem xq46_12e:E3 zY2 zY3:=E3.rfl
abbrev zY5:List XO:=[
 ⟨some 42,.p (.mov (T 6)),none⟩,
 ⟨some 43,.p (.faddr 11 (T 1)),none⟩,
 ⟨some 44,.r (.load1 (T 43)),none⟩,
 ⟨some 45,.p (.lenV (T 44)),none⟩,
 ⟨some 46,.call (.func 121) [(T 42),(T 45)],none⟩]
def zY4:List XO:=zY5
theorem xq46_13e:E3 zY4 zY5:=E3.rfl
abbrev zY7:List XO:=[
 ⟨some 47,.p (.faddr 11 (T 1)),none⟩,
 ⟨some 48,.r (.load1 (T 47)),none⟩,
 ⟨some 49,.p (.lenV (T 48)),none⟩,
 ⟨some 50,.p (.mov (C (.int .i64 0))),none⟩]
def zY6:List XO:=zY7
theorem xq46_14e:E3 zY6 zY7:=E3.rfl
abbrev zY9:List XO:=[
 ⟨some 51,.p (.bin .lss (T 50) (T 49)),none⟩]
def zY8:List XO:=zY9
theorem xq46_15e:E3 zY8 zY9:=E3.rfl
abbrev zZB:List XO:=[
 ⟨some 52,.p (.iaddrS 1 (T 48) (T 50)),none⟩,
 ⟨some 53,.r (.load1 (T 52)),none⟩,
 ⟨some 8,.p (.mov (T 53)),none⟩]
def zZA:List XO:=zZB
theorem xq46_16e:E3 zZA zZB:=E3.rfl
abbrev zZD:List XO:=[
 ⟨some 54,.p (.mov (T 6)),none⟩,
 ⟨some 55,.p (.mov (T 8)),none⟩,
 ⟨some 56,.call (.func 79) [(T 54),(T 55)],none⟩]
def zZC:List XO:=zZD
theorem xq46_17e:E3 zZC zZD:=E3.rfl
abbrev zZF:List XO:=[
 ⟨some 57,.p (.bin .add (T 50) (C (.int .i64 1))),none⟩,
 ⟨some 50,.p (.mov (T 57)),none⟩]
def zZE:List XO:=zZF
theorem xq46_18e:E3 zZE zZF:=E3.rfl
def zJ0:XC:=
 .seq (.ops zY8) (.seq (.cond (T 51) (.skip) (.exit 0)) (.seq (.block 1 (.seq (.ops zZA) (.ops zZC))) (.ops zZE)))
def zZG:XC:=zJ0
theorem xq46_19k {pr:Prog} {k:List KI} {Q:XE→Fr→Heap→Prop} {t:Fr} {h:Heap} (hw:wpk pr zJ0 k Q t h):wpk pr zZG k Q t h:=hw
abbrev zZJ:List XO:=[
 ⟨some 58,.p (.mov (T 6)),none⟩,
 ⟨some 59,.call (.func 81) [(T 58)],none⟩,
 ⟨some 2,.p (.mov (T 59)),none⟩,
 ⟨some 3,.p (.mov (C (.int .i64 0))),none⟩]
def zZI:List XO:=zZJ
theorem xq46_20e:E3 zZI zZJ:=E3.rfl
def xq46:XF:=⟨1,[.tmp 2,.tmp 3],
 .seq (.ops xq46_0) (.seq (.seq (.ops xq46_1) (.seq (.ops xq46_2) (.cond (T 13) (.seq (.ops xq46_3) (.ret)) (.skip)))) (.seq (.seq (.ops xq46_4) (.seq (.ops xq46_5) (.cond (T 19) (.seq (.ops xq46_6) (.ret)) (.skip)))) (.seq (.ops xq46_7) (.seq (.ops xq46_8) (.seq (.ops xq46_9) (.seq (.ops zYy) (.seq (.ops zY0) (.seq (.ops zY2) (.seq (.ops zY4) (.seq (.seq (.ops zY6) (.block 0 (.loop zZG))) (.seq (.ops zZI) (.ret))))))))))))⟩
def yq46:=PLift.up (And.intro (And.intro (And.intro (And.intro (@xq46_0e) (@xq46_1e)) (And.intro (@xq46_2e) (And.intro (@xq46_3e) (@xq46_4e)))) (And.intro (And.intro (@xq46_5e) (@xq46_6e)) (And.intro (@xq46_7e) (And.intro (@xq46_8e) (@xq46_9e))))) (And.intro (And.intro (And.intro (@xq46_10e) (@xq46_11e)) (And.intro (@xq46_12e) (And.intro (@xq46_13e) (@xq46_14e)))) (And.intro (And.intro (@xq46_15e) (@xq46_16e)) (And.intro (@xq46_17e) (And.intro (@xq46_18e) (@xq46_20e))))))
theorem cq46:zg Tryz.prog Tryz.f46 = some xq46:=by kernel_rfl
abbrev xq8_0l:List XO:=[
 ⟨some 2,.p (.mov (C (.bool false))),none⟩]
def xq8_0:List XO:=xq8_0l
theorem xq8_0e:E3 xq8_0 xq8_0l:=E3.rfl
abbrev xq8_1l:List XO:=[
 ⟨some 12,.p (.mov (T 0)),none⟩,
 ⟨some 13,.call (.func 42) [(T 12)],none⟩,
 ⟨some 11,.p (.mov (T 13)),none⟩,
 ⟨some 14,.p (.ext (T 11) 0),none⟩,
 ⟨some 15,.p (.ext (T 11) 1),none⟩,
 ⟨some 3,.a (.alloc [(.int .u64 0),(.string (strOf [])),(.string (strOf [])),(.string (strOf [])),(.slice none 0 0),(.slice none 0 0),(.string (strOf [])),(.bool false),(.string (strOf [])),(.slice none 0 0),(.bool false),(.string (strOf [])),(.string (strOf []))]),none⟩,
 ⟨none,.e (.store 13 (T 3) (T 14)),none⟩,
 ⟨some 4,.p (.mov (T 15)),none⟩]
def xq8_1:List XO:=xq8_1l
theorem xq8_1e:E3 xq8_1 xq8_1l:=E3.rfl
abbrev xq8_2l:List XO:=[
 ⟨some 17,.p (.mov (T 0)),none⟩,
 ⟨some 18,.call (.func 43) [(T 17)],none⟩,
 ⟨some 16,.p (.mov (T 18)),none⟩,
 ⟨some 19,.p (.ext (T 16) 0),none⟩,
 ⟨some 20,.p (.ext (T 16) 1),none⟩,
 ⟨some 5,.a (.alloc [(.int .u64 0),(.string (strOf [])),(.string (strOf [])),(.string (strOf [])),(.slice none 0 0),(.slice none 0 0),(.int .u64 0),(.int .u64 0),(.slice none 0 0),(.int .i64 0),(.int .i64 0),(.slice none 0 0)]),none⟩,
 ⟨none,.e (.store 12 (T 5) (T 19)),none⟩,
 ⟨some 6,.p (.mov (T 20)),none⟩]
def xq8_2:List XO:=xq8_2l
theorem xq8_2e:E3 xq8_2 xq8_2l:=E3.rfl
abbrev xq8_3l:List XO:=[
 ⟨some 21,.call (.func 44) [],none⟩,
 ⟨some 22,.p (.un .not (T 21)),none⟩,
 ⟨some 23,.p (.mov (T 22)),none⟩,
 ⟨some 24,.p (.mov (T 4)),some (23,false)⟩,
 ⟨some 25,.p (.eql true .int (T 24) (C (.int .i64 0))),some (23,false)⟩,
 ⟨some 26,.p (.mov (T 25)),some (23,false)⟩,
 ⟨some 27,.p (.faddr 6 (T 3)),some (26,true)⟩,
 ⟨some 28,.r (.load1 (T 27)),some (26,true)⟩,
 ⟨some 29,.p (.eql true .str (T 28) (C (.string (strOf [])))),some (26,true)⟩,
 ⟨some 30,.p (.mov (T 29)),some (26,true)⟩,
 ⟨some 31,.p (.faddr 0 (T 3)),some (30,false)⟩,
 ⟨some 32,.p (.faddr 0 (T 31)),some (30,false)⟩,
 ⟨some 33,.r (.load1 (T 32)),some (30,false)⟩,
 ⟨some 34,.p (.eql true .int (T 33) (C (.int .u64 0))),some (30,false)⟩,
 ⟨some 35,.p (.pick (T 30) (C (.bool true)) (T 34)),some (26,true)⟩,
 ⟨some 36,.p (.pick (T 26) (T 35) (C (.bool false))),some (23,false)⟩,
 ⟨some 37,.p (.pick (T 23) (C (.bool true)) (T 36)),none⟩,
 ⟨some 38,.p (.mov (T 37)),none⟩,
 ⟨some 39,.p (.mov (T 6)),some (38,false)⟩,
 ⟨some 40,.p (.eql true .int (T 39) (C (.int .i64 0))),some (38,false)⟩,
 ⟨some 41,.p (.mov (T 40)),some (38,false)⟩,
 ⟨some 42,.p (.faddr 10 (T 5)),some (41,true)⟩,
 ⟨some 43,.r (.load1 (T 42)),some (41,true)⟩,
 ⟨some 44,.p (.eql true .int (T 43) (C (.int .i64 0))),some (41,true)⟩,
 ⟨some 45,.p (.mov (T 44)),some (41,true)⟩,
 ⟨some 46,.p (.faddr 0 (T 5)),some (45,false)⟩,
 ⟨some 47,.p (.faddr 0 (T 46)),some (45,false)⟩,
 ⟨some 48,.r (.load1 (T 47)),some (45,false)⟩,
 ⟨some 49,.p (.eql true .int (T 48) (C (.int .u64 0))),some (45,false)⟩,
 ⟨some 50,.p (.pick (T 45) (C (.bool true)) (T 49)),some (41,true)⟩,
 ⟨some 51,.p (.pick (T 41) (T 50) (C (.bool false))),some (38,false)⟩,
 ⟨some 52,.p (.pick (T 38) (C (.bool true)) (T 51)),none⟩]
def xq8_3:List XO:=xq8_3l
theorem xq8_3e:E3 xq8_3 xq8_3l:=E3.rfl
abbrev xq8_4l:List XO:=[
 ⟨some 2,.p (.mov (C (.bool false))),none⟩]
def xq8_4:List XO:=xq8_4l
theorem xq8_4e:E3 xq8_4 xq8_4l:=E3.rfl
abbrev xq8_5l:List XO:=[
 ⟨some 53,.p (.mov (T 4)),none⟩,
 ⟨some 54,.p (.eql false .int (T 53) (C (.int .i64 0))),none⟩]
def xq8_5:List XO:=xq8_5l
theorem xq8_5e:E3 xq8_5 xq8_5l:=E3.rfl
abbrev xq8_6l:List XO:=[
 ⟨some 56,.r (.loadN 13 (T 3)),none⟩,
 ⟨some 57,.call (.func 45) [(T 56)],none⟩,
 ⟨some 55,.p (.mov (T 57)),none⟩,
 ⟨some 58,.p (.ext (T 55) 0),none⟩,
 ⟨some 59,.p (.ext (T 55) 1),none⟩,
 ⟨some 7,.p (.mov (T 58)),none⟩,
 ⟨some 8,.p (.mov (T 59)),none⟩]
def xq8_6:List XO:=xq8_6l
theorem xq8_6e:E3 xq8_6 xq8_6l:=E3.rfl
abbrev xq8_7l:List XO:=[
 ⟨some 60,.p (.mov (T 8)),none⟩,
 ⟨some 61,.p (.eql true .int (T 60) (C (.int .i64 0))),none⟩,
 ⟨some 62,.p (.mov (T 61)),none⟩,
 ⟨some 63,.p (.mov (T 7)),some (62,false)⟩,
 ⟨some 64,.p (.mov (T 0)),some (62,false)⟩,
 ⟨some 65,.p (.eql true .str (T 63) (T 64)),some (62,false)⟩,
 ⟨some 66,.p (.pick (T 62) (C (.bool true)) (T 65)),none⟩]
def xq8_7:List XO:=xq8_7l
theorem xq8_7e:E3 xq8_7 xq8_7l:=E3.rfl
abbrev xq8_8l:List XO:=[
 ⟨some 2,.p (.mov (C (.bool false))),none⟩]
def xq8_8:List XO:=xq8_8l
theorem xq8_8e:E3 xq8_8 xq8_8l:=E3.rfl
abbrev xq8_9l:List XO:=[
 ⟨some 67,.p (.mov (T 6)),none⟩,
 ⟨some 68,.p (.eql false .int (T 67) (C (.int .i64 0))),none⟩]
def xq8_9:List XO:=xq8_9l
theorem xq8_9e:E3 xq8_9 xq8_9l:=E3.rfl
abbrev zaR:List XO:=[
 ⟨some 70,.r (.loadN 12 (T 5)),none⟩,
 ⟨some 71,.call (.func 46) [(T 70)],none⟩,
 ⟨some 69,.p (.mov (T 71)),none⟩,
 ⟨some 72,.p (.ext (T 69) 0),none⟩,
 ⟨some 73,.p (.ext (T 69) 1),none⟩,
 ⟨some 9,.p (.mov (T 72)),none⟩,
 ⟨some 10,.p (.mov (T 73)),none⟩]
def xq8_10:List XO:=zaR
theorem xq8_10e:E3 xq8_10 zaR:=E3.rfl
abbrev zaS:List XO:=[
 ⟨some 74,.p (.mov (T 10)),none⟩,
 ⟨some 75,.p (.eql false .int (T 74) (C (.int .i64 0))),none⟩,
 ⟨some 76,.p (.mov (T 75)),none⟩,
 ⟨some 77,.p (.mov (T 9)),some (76,true)⟩,
 ⟨some 78,.p (.mov (T 0)),some (76,true)⟩,
 ⟨some 79,.p (.eql false .str (T 77) (T 78)),some (76,true)⟩,
 ⟨some 80,.p (.pick (T 76) (T 79) (C (.bool false))),none⟩,
 ⟨some 2,.p (.mov (T 80)),none⟩]
def xq8_11:List XO:=zaS
theorem xq8_11e:E3 xq8_11 zaS:=E3.rfl
abbrev zaT:List XO:=[
 ⟨some 2,.p (.mov (C (.bool true))),none⟩]
def xq8_12:List XO:=zaT
theorem xq8_12e:E3 xq8_12 zaT:=E3.rfl
def xq8:XF:=⟨1,[.tmp 2],
 .seq (.ops xq8_0) (.seq (.ops xq8_1) (.seq (.ops xq8_2) (.seq (.seq (.ops xq8_3) (.cond (T 52) (.seq (.ops xq8_4) (.ret)) (.skip))) (.seq (.seq (.ops xq8_5) (.cond (T 54) (.seq (.ops xq8_6) (.seq (.ops xq8_7) (.cond (T 66) (.seq (.ops xq8_8) (.ret)) (.skip)))) (.skip))) (.seq (.seq (.ops xq8_9) (.cond (T 68) (.seq (.ops xq8_10) (.seq (.ops xq8_11) (.ret))) (.skip))) (.seq (.ops xq8_12) (.ret)))))))⟩
def yq8:=PLift.up (And.intro (And.intro (And.intro (@xq8_0e) (And.intro (@xq8_1e) (@xq8_2e))) (And.intro (@xq8_3e) (And.intro (@xq8_4e) (@xq8_5e)))) (And.intro (And.intro (@xq8_6e) (And.intro (@xq8_7e) (@xq8_8e))) (And.intro (And.intro (@xq8_9e) (@xq8_10e)) (And.intro (@xq8_11e) (@xq8_12e)))))
theorem cq8:zg Tryz.prog Tryz.f8 = some xq8:=by kernel_rfl
end Go.X
end
section
open Go Go.X
namespace Go.X
set_option linter.unusedVariables false
def RdInts (h:Heap) (v:Value) (l:List Int):Prop:=∀ h',Grows h h'→zAl h' v = some l
theorem RdInts.grow {h h':Heap} {v:Value} {l:List Int} (hr:RdInts h v l) (g:Grows h h'):RdInts h' v l:=fun h2 g2=>hr h2 (g.trans g2)
theorem RdInts.now {h:Heap} {v:Value} {l:List Int} (hr:RdInts h v l):zAl h v = some l:=hr h (Grows.refl h)
theorem Own.ints {h:Heap} {S:Nat→Prop} {v:Value} {n:Nat} {l:List Int} (ho:Own h S 1 v n (zAo l)) (hb:∀ x ∈ l,-9223372036854775808≤x∧x < 9223372036854775808):zAl h v = some l:=by
 obtain⟨a,cap,rfl,hs⟩:=ho.shape
 by_cases h0:n = 0
 ·subst h0
  have:=ho.nil_of
  obtain rfl:l = []:=by cases l with|nil=>rfl|cons x l=>simp [zAo] at this
  cases a<;>simp [zAl]
 ·obtain⟨B,off,sp,rfl,h1,_⟩:=hs h0
  rw [Nat.mul_one] at h1
  simp only [zAl]
  rw [if_neg h0]
  simp only [h1,zLb hb]
theorem Own.pushI {g:Heap} {S:Nat→Prop} {v:Value} {n:Nat} {q:List Int} (hO:Own g S 1 v n (zAo q)) (x:Int) (hroom:(n + 1) * 8≤zU) :
  ∃ v' g',zA2 (g.new [.int .i64 x]) 1 8 v (.slice (some ⟨g.next,0,none⟩) 1 1) = some (v',g')∧Own g' (fun A=>S A∨g.next≤A) 1 v' (n + 1) (zAo (q ++ [x]))∧Keeps S g g':=by
 have hO1:=hO.grow (Grows.new (l:=[.int .i64 x]))
 have hs1:=(Var.new_self (h:=g) (l:=[.int .i64 x])).src (n:=1) (esz:=1) (bytes:=8) (s:=v) (sp:=none) (c:=1) rfl (by decide)
 obtain⟨v',g2,e2,hO2,k2⟩:=hO1.append (bytes:=8) (m:=1) (new:=[.int .i64 x]) rfl rfl (by decide) (by decide) hroom
 have hk:Keeps S g g2:=(Keeps.new (W:=S)).trans k2 (fun _ _ e=>e)
 refine ⟨v',g2,by rw [hs1,e2],?_,hk⟩
 have e:zAo q ++ [.int .i64 x] = zAo (q ++ [x]):=by simp [zAo]
 rw [e] at hO2
 exact hO2.mono fun A hA=>hA.imp id fun q=>by
  have:(g.new [.int .i64 x]).next = g.next + 1:=rfl
  omega
def zAr:Nat→RS→List Int→RS×List Int
 | 0,r,acc=>(r,acc)
 | n + 1,r,acc=>if r.err = 0 then zAr n (zT r 1).1 (acc ++ [((zT r 1).2:Int)]) else (r,acc)
def memQ (p:RS×List Int):RS×List Int:=if p.1.err = 0 then (if zBg p.2 = true then p else (⟨p.1.s,p.1.pos,6⟩,[])) else (p.1,[])
def zAx (r:RS):RS×List Int:=memQ (zAr (zT r 1).2 (zT r 1).1 [])
structure MemTab (pr:Prog):Prop where
 wire:zAL pr
 mem:pr.prim 56 = some zDf
 tm:pr.prim 88 = none
 tmC:pr.code 88 = some xq88
theorem TM_run {pr:Prog} (T:MemTab pr) {h:Heap} {R:Nat} {r:RS} (hr:Rd h R r) :
  ∃ v h',cfi pr 88 [.pointer (some ⟨R,0,none⟩)] h = some (v,h')∧Rd h' R (zAx r).1∧Own h' (fun A=>h.next≤A) 1 v (zAx r).2.length (zAo (zAx r).2)∧(∀ x ∈ (zAx r).2,0≤x∧x < 256)∧Keeps (fun A=>A = R) h h':=by
 have hr64:zU = 140737488355328:=rfl
 refine zAA T.tm T.tmC rfl ?_
 unfold xq88
 dsimp only [zh]
 refine wpk.out (k:=[]) ?_
 have hR:R < h.next:=hr.2.1
 obtain⟨gc,ec,rdc,kc⟩:=zCA T.wire hr 1 (by decide)
 have hn0:=zBm r
 have eu:uw .u64 (zT r 1).2 = .int .u64 ((zT r 1).2:Int):=(zBJ (by omega)).symm
 rw [eu] at ec
 have ec:cfi pr 89 [.pointer (some ⟨R,0,none⟩),.int .i64 1] h = some (.int .u64 ((zT r 1).2:Int),gc):=ec
 have ntc:=kc.next
 (repeat (first|refine zS ?_|refine zK ?_|refine zR ?_|refine zD ?_|refine zB ?_|refine zI ?_|refine zJ ?_|refine zP ?_|refine zE ?_|refine zG ?_|refine zF ?_|refine zH (by decide) ?_|refine zQ ?_|((first|refine zC ?_|refine zM ?_|refine zO rfl rfl ?_|refine zN rfl ?_|refine zL ?_);simp only [yq88.down,zA,lemS.down,lemC.down,zex,zew,zeu,reduceIte,zev,zey,zez,ze0,ze1,ze2,ze3,ze4,ze5,reduceCtorEq,lemH.down,ec])))
 refine zAG (fun m t g=>∃ r2 acc v,m + acc.length≤256∧zAr m r2 acc = zAr (zT r 1).2 (zT r 1).1 []∧Rd g R r2∧Own g (fun A=>h.next≤A) 1 v acc.length (zAo acc)∧(∀ x ∈ acc,0≤x∧x < 256)∧Keeps (fun A=>A = R) h g∧h.next≤g.next∧t.get 0 = .pointer (some ⟨R,0,none⟩)∧t.get 3 = v∧t.get 4 = .int .u64 (m:Int)) ?_ (zT r 1).2 _ _
   ⟨_,[],_,by simp;omega,rfl,rdc,Own.nil,by simp,kc,ntc,by simp only [yq88.down,zA,lemS.down,lemC.down,zex,zew,zeu,reduceIte,zev,zey,zez,ze0,ze1,ze2,ze3,ze4,ze5,reduceCtorEq],by simp only [yq88.down,zA,lemS.down,lemC.down,zex,zew,zeu,reduceIte,zev,zey,zez,ze0,ze1,ze2,ze3,ze4,ze5,reduceCtorEq],by simp only [yq88.down,zA,lemS.down,lemC.down,zex,zew,zeu,reduceIte,zev,zey,zez,ze0,ze1,ze2,ze3,ze4,ze5,reduceCtorEq]⟩
 rintro m t g ⟨r2,acc,v,hm,hL,rd,oc,hin,kk,gn,t0,t3,t4⟩ hnext
 refine xq88_6k ?_
 dsimp only [zJ3]
 have er:=zAb T.wire rd
 obtain⟨av,cv,rfl,_⟩:=oc.shape
 have eM:zAr m r2 acc = (r2,acc)→zAx r = memQ (r2,acc):=fun e=>by unfold zAx;rw [← hL,e]
 cases m with
 | zero=>
  have eQ:=eM rfl
  by_cases c0:r2.err = 0
  ·have b0:((r2.err:Int) == 0) = true:=by rw [c0];rfl
   have hi:zAl g (.slice av acc.length cv) = some acc:=oc.ints fun x hx=>by have:=hin x hx;omega
   have em:cfi pr 56 [.slice av acc.length cv] g = some (.bool (zBg acc),g):=zEA T.mem (zLt hi (by omega))
   cases hb:zBg acc with
   | true=>
    rw [hb] at em
    (repeat (first|refine zS ?_|refine zK ?_|refine zR ?_|refine zD ?_|refine zB ?_|refine zI ?_|refine zJ ?_|refine zP ?_|refine zE ?_|refine zG ?_|refine zF ?_|refine zH (by decide) ?_|refine zQ ?_|((first|refine zC ?_|refine zM ?_|refine zO rfl rfl ?_|refine zN rfl ?_|refine zL ?_);simp only [yq88.down,zA,lemS.down,lemC.down,zex,zew,zeu,reduceIte,zev,zey,zez,ze0,ze1,ze2,ze3,ze4,ze5,reduceCtorEq,lemH.down,t0,t3,t4,zi,er,b0,em,Bool.not_true,Bool.not_false])))
    have eR:zAx r = (r2,acc):=by rw [eQ];simp only [memQ,if_pos c0,hb,if_true]
    rw [eR]
    exact⟨.inr rfl,_,by (simp only [yq88.down,zA,lemS.down,lemC.down,zex,zew,zeu,reduceIte,zev,zey,zez,ze0,ze1,ze2,ze3,ze4,ze5,reduceCtorEq,zw,zAO,resX,zAX])<;>rfl,rd,oc,hin,kk⟩
   | false=>
    rw [hb] at em
    obtain⟨g2,ef,rd2,k2⟩:=zDP T.wire rd 6
    have ef:cfi pr 151 [.pointer (some ⟨R,0,none⟩),.int .i64 6] g = some (.tuple #[],g2):=ef
    rw [if_pos c0] at rd2
    have er2:=zAb T.wire rd2
    (repeat (first|refine zS ?_|refine zK ?_|refine zR ?_|refine zD ?_|refine zB ?_|refine zI ?_|refine zJ ?_|refine zP ?_|refine zE ?_|refine zG ?_|refine zF ?_|refine zH (by decide) ?_|refine zQ ?_|((first|refine zC ?_|refine zM ?_|refine zO rfl rfl ?_|refine zN rfl ?_|refine zL ?_);simp only [yq88.down,zA,lemS.down,lemC.down,zex,zew,zeu,reduceIte,zev,zey,zez,ze0,ze1,ze2,ze3,ze4,ze5,reduceCtorEq,lemH.down,t0,t3,t4,zi,er,b0,em,ef,er2,Bool.not_true,Bool.not_false])))
    have eR:zAx r = (⟨r2.s,r2.pos,6⟩,[]):=by rw [eQ];simp only [memQ,if_pos c0,hb];rfl
    rw [eR]
    exact⟨.inr rfl,_,by (simp only [yq88.down,zA,lemS.down,lemC.down,zex,zew,zeu,reduceIte,zev,zey,zez,ze0,ze1,ze2,ze3,ze4,ze5,reduceCtorEq,zw,zAO,resX,zAX])<;>rfl,rd2,Own.nil,by simp,kk.trans k2 (fun _ _ q=>q)⟩
  ·have b0:((r2.err:Int) == 0) = false:=by rw [beq_eq_false_iff_ne];omega
   (repeat (first|refine zS ?_|refine zK ?_|refine zR ?_|refine zD ?_|refine zB ?_|refine zI ?_|refine zJ ?_|refine zP ?_|refine zE ?_|refine zG ?_|refine zF ?_|refine zH (by decide) ?_|refine zQ ?_|((first|refine zC ?_|refine zM ?_|refine zO rfl rfl ?_|refine zN rfl ?_|refine zL ?_);simp only [yq88.down,zA,lemS.down,lemC.down,zex,zew,zeu,reduceIte,zev,zey,zez,ze0,ze1,ze2,ze3,ze4,ze5,reduceCtorEq,lemH.down,t0,t3,t4,zi,er,b0,Bool.not_true,Bool.not_false])))
   have eR:zAx r = (r2,[]):=by rw [eQ];simp only [memQ,if_neg c0]
   rw [eR]
   exact⟨.inr rfl,_,by (simp only [yq88.down,zA,lemS.down,lemC.down,zex,zew,zeu,reduceIte,zev,zey,zez,ze0,ze1,ze2,ze3,ze4,ze5,reduceCtorEq,zw,zAO,resX,zAX])<;>rfl,rd,Own.nil,by simp,kk⟩
 | succ m=>
  have d0:decide (((m + 1:Nat):Int) > 0) = true:=decide_eq_true (by omega)
  by_cases c0:r2.err = 0
  ·have b0:((r2.err:Int) == 0) = true:=by rw [c0];rfl
   obtain⟨g1,e1,rd1,k1⟩:=zCA T.wire rd 1 (by decide)
   have e1:cfi pr 89 [.pointer (some ⟨R,0,none⟩),.int .i64 1] g = some (uw .u64 (zT r2 1).2,g1):=e1
   have hn2:=zBm r2
   have ci:=ci64 (n:=(zT r2 1).2) (by omega)
   have oc1:=oc.keep k1 (fun A hA q=>by omega)
   obtain⟨v2,g2,e2,oc2,k2⟩:=oc1.pushI ((zT r2 1).2:Int) (by omega)
   have wn:IntKind.u64.wrap (((m + 1:Nat):Int) - 1) = (m:Int):=by
    have:IntKind.u64.wrap (((m + 1:Nat):Int) - 1) = (((m + 1:Nat):Int) - 1) % 18446744073709551616:=by simp [IntKind.wrap,IntKind.signed,IntKind.bits]
    rw [this]
    omega
   have fl:zAB [.int .i64 0] [(0,1,.int .i64 ((zT r2 1).2:Int))] = some [.int .i64 ((zT r2 1).2:Int)]:=rfl
   (repeat (first|refine zS ?_|refine zK ?_|refine zR ?_|refine zD ?_|refine zB ?_|refine zI ?_|refine zJ ?_|refine zP ?_|refine zE ?_|refine zG ?_|refine zF ?_|refine zH (by decide) ?_|refine zQ ?_|((first|refine zC ?_|refine zM ?_|refine zO rfl rfl ?_|refine zN rfl ?_|refine zL ?_);simp only [yq88.down,zA,lemS.down,lemC.down,zex,zew,zeu,reduceIte,zev,zey,zez,ze0,ze1,ze2,ze3,ze4,ze5,reduceCtorEq,lemH.down,t0,t3,t4,d0,zi,er,b0,e1,ci,fl,e2,wn])))
   have n1:=k1.next
   have n2:=k2.next
   refine hnext m _ _ (Nat.lt_succ_self m) ⟨(zT r2 1).1,acc ++ [((zT r2 1).2:Int)],v2,by simp;omega,?_,rd1.keep k2 (fun q=>by omega),?_,?_,(kk.trans k1 (fun _ _ q=>q)).trans k2 (fun A hA q=>by omega),by omega,by simp only [yq88.down,zA,lemS.down,lemC.down,zex,zew,zeu,reduceIte,zev,zey,zez,ze0,ze1,ze2,ze3,ze4,ze5,reduceCtorEq,t0],by simp only [yq88.down,zA,lemS.down,lemC.down,zex,zew,zeu,reduceIte,zev,zey,zez,ze0,ze1,ze2,ze3,ze4,ze5,reduceCtorEq],by (simp only [yq88.down,zA,lemS.down,lemC.down,zex,zew,zeu,reduceIte,zev,zey,zez,ze0,ze1,ze2,ze3,ze4,ze5,reduceCtorEq])<;>rfl⟩
   ·rw [← hL]
    conv=>rhs;unfold zAr
    rw [if_pos c0]
   ·rw [List.length_append]
    exact oc2.mono fun A hA=>by omega
   ·intro x hx
    rcases List.mem_append.1 hx with h|h
    ·exact hin x h
    ·rw [List.mem_singleton.1 h];omega
  ·have b0:((r2.err:Int) == 0) = false:=by rw [beq_eq_false_iff_ne];omega
   have eQ:=eM (by unfold zAr;rw [if_neg c0])
   (repeat (first|refine zS ?_|refine zK ?_|refine zR ?_|refine zD ?_|refine zB ?_|refine zI ?_|refine zJ ?_|refine zP ?_|refine zE ?_|refine zG ?_|refine zF ?_|refine zH (by decide) ?_|refine zQ ?_|((first|refine zC ?_|refine zM ?_|refine zO rfl rfl ?_|refine zN rfl ?_|refine zL ?_);simp only [yq88.down,zA,lemS.down,lemC.down,zex,zew,zeu,reduceIte,zev,zey,zez,ze0,ze1,ze2,ze3,ze4,ze5,reduceCtorEq,lemH.down,t0,t3,t4,d0,zi,er,b0,Bool.not_true,Bool.not_false])))
   have eR:zAx r = (r2,[]):=by rw [eQ];simp only [memQ,if_neg c0]
   rw [eR]
   exact⟨.inr rfl,_,by (simp only [yq88.down,zA,lemS.down,lemC.down,zex,zew,zeu,reduceIte,zev,zey,zez,ze0,ze1,ze2,ze3,ze4,ze5,reduceCtorEq,zw,zAO,resX,zAX])<;>rfl,rd,Own.nil,by simp,kk⟩
end Go.X
end
section
open Go Go.X
namespace Go.X
set_option linter.unusedVariables false
def zAe (r:RS):RS×Bool:=if (zT r 1).1.err = 0 then (if 1 < (zT r 1).2 then (⟨r.s,r.pos,6⟩,false) else ((zT r 1).1,decide ((zT r 1).2 = 1))) else ((zT r 1).1,false)
structure zDN (pr:Prog):Prop where
 wire:zAL pr
 rb:pr.prim 105 = none
 rbC:pr.code 105 = some xq105
 wb:pr.prim 117 = none
 wbC:pr.code 117 = some xq117
theorem zGy {pr:Prog} (T:zDN pr) {h:Heap} {R:Nat} {r:RS} (hr:Rd h R r) :
  ∃ h',cfi pr 105 [.pointer (some ⟨R,0,none⟩)] h = some (.bool (zAe r).2,h')∧Rd h' R (zAe r).1∧Keeps (fun A=>A = R) h h':=by
 have:∃ v h',cfi pr 105 [.pointer (some ⟨R,0,none⟩)] h = some (v,h')∧v = .bool (zAe r).2∧Rd h' R (zAe r).1∧Keeps (fun A=>A = R) h h':=by
  refine zAA T.rb T.rbC rfl ?_
  unfold xq105
  dsimp only [zh]
  refine wpk.out (k:=[]) ?_
  have at0:=zGx T.wire hr
  obtain⟨g,e,r1,k1⟩:=zCA T.wire hr 1 (by decide)
  have e:cfi pr 89 [.pointer (some ⟨R,0,none⟩),.int .i64 1] h = some (uw .u64 (zT r 1).2,g):=e
  have hs:=zBm r
  rw [← zBJ (by omega)] at e
  have er:=zAb T.wire r1
  have hpos:r.pos≤r.s.length:=hr.1.1
  have hlen:=hr.1.2
  have es:(zT r 1).1.s = r.s:=zBi r 1
  obtain⟨q,eq⟩:∃ q,zT r 1 = q:=⟨_,rfl⟩
  obtain⟨r2,n⟩:=q
  have eb:zAe r = if r2.err = 0 then (if 1 < n then (⟨r.s,r.pos,6⟩,false) else (r2,decide (n = 1))) else (r2,false):=by unfold zAe;rw [eq]
  rw [eq] at e r1 er hs es
  have hs:n < 256:=hs
  have es:r2.s = r.s:=es
  have r1:Rd g R r2:=r1
  have er:cfi pr 109 [.pointer (some ⟨R,0,none⟩)] g = some (.int .i64 (r2.err:Int),g):=er
  have e:cfi pr 89 [.pointer (some ⟨R,0,none⟩),.int .i64 1] h = some (.int .u64 (n:Int),g):=e
  rw [eb]
  by_cases c0:r2.err = 0
  ·have b0:((r2.err:Int) == 0) = true:=by rw [c0];rfl
   rw [if_pos c0]
   by_cases c1:1 < n
   ·rw [if_pos c1]
    have d1:decide ((n:Int) > 1) = true:=by simp;omega
    obtain⟨sA,stA⟩:∃ sA,zn g 1 (.pointer (some ⟨R,1,none⟩)) (.int .i64 (r.pos:Int)) = some (.tuple #[],sA)∧Rd sA R ⟨r2.s,r.pos,r2.err⟩∧Keeps (fun A=>A = R) g sA:=⟨_,r1.s1 r.pos,r1.wr ⟨by rw [es];exact hpos,by rw [es];exact hlen⟩,Keeps.wr⟩
    obtain⟨stA,rA,kA⟩:=stA
    obtain⟨sB,stB,rB,kB⟩:∃ sB,zn sA 1 (.pointer (some ⟨R,2,none⟩)) (.int .i64 6) = some (.tuple #[],sB)∧Rd sB R ⟨r2.s,r.pos,6⟩∧Keeps (fun A=>A = R) sA sB:=⟨_,rA.s2L 6,rA.wr ⟨by rw [es];exact hpos,by rw [es];exact hlen⟩,Keeps.wr⟩
    have erB:=zAb T.wire rB
    (repeat (first|refine zS ?_|refine zK ?_|refine zR ?_|refine zD ?_|refine zB ?_|refine zI ?_|refine zJ ?_|refine zP ?_|refine zE ?_|refine zG ?_|refine zF ?_|refine zH (by decide) ?_|refine zQ ?_|((first|refine zC ?_|refine zM ?_|refine zO rfl rfl ?_|refine zN rfl ?_|refine zL ?_);simp only [yq105.down,zA,lemS.down,lemC.down,zex,zew,zeu,reduceIte,zev,zey,zez,ze0,ze1,ze2,ze3,ze4,ze5,reduceCtorEq,lemH.down,at0,e,er,b0,d1,stA,stB,erB,zi])))
    rw [es] at rB
    exact⟨.inr rfl,_,by (simp only [yq105.down,zA,lemS.down,lemC.down,zex,zew,zeu,reduceIte,zev,zey,zez,ze0,ze1,ze2,ze3,ze4,ze5,reduceCtorEq,zw,zAO,resX,zAX])<;>rfl,rfl,rB,((k1.trans kA (fun _ _ q=>q)).trans kB (fun _ _ q=>q))⟩
   ·rw [if_neg c1]
    have d1:decide ((n:Int) > 1) = false:=by simp;omega
    have d2:((n:Int) == 1) = decide (n = 1):=by rw [Bool.eq_iff_iff];simp;omega
    (repeat (first|refine zS ?_|refine zK ?_|refine zR ?_|refine zD ?_|refine zB ?_|refine zI ?_|refine zJ ?_|refine zP ?_|refine zE ?_|refine zG ?_|refine zF ?_|refine zH (by decide) ?_|refine zQ ?_|((first|refine zC ?_|refine zM ?_|refine zO rfl rfl ?_|refine zN rfl ?_|refine zL ?_);simp only [yq105.down,zA,lemS.down,lemC.down,zex,zew,zeu,reduceIte,zev,zey,zez,ze0,ze1,ze2,ze3,ze4,ze5,reduceCtorEq,lemH.down,at0,e,er,b0,d1,d2,zi])))
    exact⟨.inr rfl,_,by (simp only [yq105.down,zA,lemS.down,lemC.down,zex,zew,zeu,reduceIte,zev,zey,zez,ze0,ze1,ze2,ze3,ze4,ze5,reduceCtorEq,zw,zAO,resX,zAX])<;>rfl,rfl,r1,k1⟩
  ·have b0:((r2.err:Int) == 0) = false:=by rw [beq_eq_false_iff_ne];omega
   rw [if_neg c0]
   (repeat (first|refine zS ?_|refine zK ?_|refine zR ?_|refine zD ?_|refine zB ?_|refine zI ?_|refine zJ ?_|refine zP ?_|refine zE ?_|refine zG ?_|refine zF ?_|refine zH (by decide) ?_|refine zQ ?_|((first|refine zC ?_|refine zM ?_|refine zO rfl rfl ?_|refine zN rfl ?_|refine zL ?_);simp only [yq105.down,zA,lemS.down,lemC.down,zex,zew,zeu,reduceIte,zev,zey,zez,ze0,ze1,ze2,ze3,ze4,ze5,reduceCtorEq,lemH.down,at0,e,er,b0,zi])))
   exact⟨.inr rfl,_,by (simp only [yq105.down,zA,lemS.down,lemC.down,zex,zew,zeu,reduceIte,zev,zey,zez,ze0,ze1,ze2,ze3,ze4,ze5,reduceCtorEq,zw,zAO,resX,zAX])<;>rfl,rfl,r1,k1⟩
 obtain⟨v,h',e,rfl,q⟩:=this
 exact⟨h',e,q⟩
def bitN (b:Bool):Nat:=if b then 1 else 0
theorem WBoolS {pr:Prog} (T:zDN pr) {h:Heap} {W:Nat} {S:Nat→Prop} {b:List UInt8} (hw:WrS h W S b) (hS:∀ A,h.next≤A→S A) (x:Bool) (hroom:b.length + 8≤zU) :
  ∃ h',cfi pr 117 [.pointer (some ⟨W,0,none⟩),.bool x] h = some (.tuple #[],h')∧WrS h' W S (b ++ numB (bitN x) 1)∧Keeps S h h':=by
 have:∃ v h',cfi pr 117 [.pointer (some ⟨W,0,none⟩),.bool x] h = some (v,h')∧v = .tuple #[]∧WrS h' W S (b ++ numB (bitN x) 1)∧Keeps S h h':=by
  refine zAA T.wb T.wbC rfl ?_
  unfold xq117
  dsimp only [zh]
  refine wpk.out (k:=[]) ?_
  obtain⟨h1,e1,w1,k1⟩:=zCB T.wire hw hS (bitN x) 1 (by cases x<;>decide) (by decide) hroom
  cases x with
  | true=>
   have e1:cfi pr 78 [.pointer (some ⟨W,0,none⟩),.int .u64 1,.int .i64 1] h = some (.tuple #[],h1):=e1
   (repeat (first|refine zS ?_|refine zK ?_|refine zR ?_|refine zD ?_|refine zB ?_|refine zI ?_|refine zJ ?_|refine zP ?_|refine zE ?_|refine zG ?_|refine zF ?_|refine zH (by decide) ?_|refine zQ ?_|((first|refine zC ?_|refine zM ?_|refine zO rfl rfl ?_|refine zN rfl ?_|refine zL ?_);simp only [yq117.down,zA,lemS.down,lemC.down,zex,zew,zeu,reduceIte,zev,zey,zez,ze0,ze1,ze2,ze3,ze4,ze5,reduceCtorEq,lemH.down,e1])))
   exact⟨.inl rfl,_,rfl,rfl,w1,k1⟩
  | false=>
   have e1:cfi pr 78 [.pointer (some ⟨W,0,none⟩),.int .u64 0,.int .i64 1] h = some (.tuple #[],h1):=e1
   (repeat (first|refine zS ?_|refine zK ?_|refine zR ?_|refine zD ?_|refine zB ?_|refine zI ?_|refine zJ ?_|refine zP ?_|refine zE ?_|refine zG ?_|refine zF ?_|refine zH (by decide) ?_|refine zQ ?_|((first|refine zC ?_|refine zM ?_|refine zO rfl rfl ?_|refine zN rfl ?_|refine zL ?_);simp only [yq117.down,zA,lemS.down,lemC.down,zex,zew,zeu,reduceIte,zev,zey,zez,ze0,ze1,ze2,ze3,ze4,ze5,reduceCtorEq,lemH.down,e1])))
   exact⟨.inl rfl,_,rfl,rfl,w1,k1⟩
 obtain⟨v,h',e,rfl,r⟩:=this
 exact⟨h',e,r⟩
end Go.X
end
section
open Go Go.X
namespace Go.X
set_option linter.unusedVariables false
abbrev OpV:=Int×List UInt8×List UInt8
def zAT (o:OpV):List Value:=[.int .i64 o.1,.string (strOf o.2.1),.string (strOf o.2.2)]
def zAh (l:List OpV):List Value:=l.flatMap zAT
theorem zax (l m:List OpV):zAh (l ++ m) = zAh l ++ zAh m:=by simp [zAh]
theorem zHL:∀ (l:List OpV) (i:Nat),i < l.length→((zAh l).drop (i * 3)).take 3 = zAT (l.getD i (0,[],[]))
 | [],i,h=>by simp at h
 | x :: l,0,_=>by simp [zAh,zAT]
 | x :: l,i + 1,h=>by
  have e:zAh (x :: l) = zAT x ++ zAh l:=by simp [zAh]
  have e2:(i + 1) * 3 = (zAT x).length + i * 3:=by simp [zAT];omega
  rw [e,e2,← List.drop_drop,List.drop_left,List.getD_cons_succ]
  exact zHL l i (by simpa using h)
theorem Own.at {h:Heap} {S:Nat→Prop} {e n:Nat} {v:Value} {l:List Value} (ho:Own h S e v n l) {i:Nat} (hi:i < n) :
  ∃ B o,(∀ k:IntKind,zA0 e v (.int k (i:Int)) = some (.pointer (some ⟨B,o,none⟩)))∧∀ h',Own h' S e v n l→∀ sp,h'.loadN ⟨B,o,sp⟩ e = some ((l.drop (i * e)).take e):=by
 obtain⟨a,cap,rfl,hs⟩:=ho.shape
 obtain⟨B,off,sp,rfl,_,_⟩:=hs (by omega)
 refine ⟨B,off + i * e,fun k=>zLV hi,fun h' ho' sp'=>?_⟩
 obtain⟨a',cap',e',hs'⟩:=ho'.shape
 cases e'
 obtain⟨B',off',sp'',e'',hl,_⟩:=hs' (by omega)
 cases e''
 exact zH0 (a:=⟨B,off,sp⟩) hl (by
  have:(i + 1) * e≤n * e:=Nat.mul_le_mul_right e hi
  rw [Nat.add_mul,Nat.one_mul] at this
  exact this)
def mayP (o:OpV):Bool:=decide (1≤o.2.1.length) && decide (o.2.1.length≤32) && decide (o.2.2.length≤64) && (decide (o.1 = 1) || decide (o.1 = 3) || ((decide (o.1 = 2) || decide (o.1 = 4)) && decide (o.2.2 = [])))
theorem zCy (a:Int) (n:Nat):(a == (OfNat.ofNat n:Int)) = decide (a = (OfNat.ofNat n:Int)):=by rw [Bool.eq_iff_iff];simp
theorem may_ok (pr:Prog) (h:Heap) (o:OpV) (hk:o.2.1.length≤9223372036854775807) (hv:o.2.2.length≤9223372036854775807):Comes pr xq172 [.agg (zAT o).toArray] h (.bool (mayP o)):=by
 apply Comes.of
 unfold xq172
 dsimp only [zh]
 obtain⟨k,key,val⟩:=o
 have hk:key.length≤9223372036854775807:=hk
 have hv:val.length≤9223372036854775807:=hv
 obtain⟨g,hg,vg,gg,gn⟩:∃ g,h.new (zAT (k,key,val)) = g∧Var g h.next (zAT (k,key,val))∧Grows h g∧g.next = h.next + 1:=⟨_,rfl,Var.new_self,Grows.new,rfl⟩
 have l0:∀ sp,g.load ⟨h.next,0,sp⟩ = some (.int .i64 k):=fun sp=>vg.load
 have l1:∀ sp,g.load ⟨h.next,1,sp⟩ = some (.string (strOf key)):=fun sp=>vg.load
 have l2:∀ sp,g.load ⟨h.next,2,sp⟩ = some (.string (strOf val)):=fun sp=>vg.load
 have cc:zq (.agg (zAT (k,key,val)).toArray) = zAT (k,key,val):=rfl
 have hm:mayP (k,key,val) = (decide (1≤key.length) && decide (key.length≤32) && decide (val.length≤64) && (decide (k = 1) || decide (k = 3) || ((decide (k = 2) || decide (k = 4)) && decide (val = [])))):=rfl
 rw [hm]
 by_cases c1:(key.length:Int) < 1
 ·have d1:decide ((key.length:Int) < 1) = true:=decide_eq_true c1
  (repeat (first|refine zS ?_|refine zK ?_|refine zR ?_|refine zD ?_|refine zB ?_|refine zI ?_|refine zJ ?_|refine zP ?_|refine zE ?_|refine zG ?_|refine zF ?_|refine zH (by decide) ?_|refine zQ ?_|((first|refine zC ?_|refine zM ?_|refine zO rfl rfl ?_|refine zN rfl ?_|refine zL ?_);simp only [yq172.down,zA,lemS.down,lemC.down,zex,zew,zeu,reduceIte,zev,zey,zez,ze0,ze1,ze2,ze3,ze4,ze5,reduceCtorEq,lemH.down,cc,hg,l0,l1,l2,d1,zi,Bool.not_true,Bool.not_false])))
  exact⟨.inr rfl,by (rw [show decide (1≤key.length) = false from decide_eq_false (by omega),Bool.false_and,Bool.false_and,Bool.false_and];simp only [yq172.down,zA,lemS.down,lemC.down,zex,zew,zeu,reduceIte,zev,zey,zez,ze0,ze1,ze2,ze3,ze4,ze5,reduceCtorEq])<;>rfl,gg⟩
 ·have d1:decide ((key.length:Int) < 1) = false:=decide_eq_false c1
  rw [show decide (1≤key.length) = true from decide_eq_true (by omega),Bool.true_and]
  by_cases c2:(key.length:Int) > 32
  ·have d2:decide ((key.length:Int) > 32) = true:=decide_eq_true c2
   (repeat (first|refine zS ?_|refine zK ?_|refine zR ?_|refine zD ?_|refine zB ?_|refine zI ?_|refine zJ ?_|refine zP ?_|refine zE ?_|refine zG ?_|refine zF ?_|refine zH (by decide) ?_|refine zQ ?_|((first|refine zC ?_|refine zM ?_|refine zO rfl rfl ?_|refine zN rfl ?_|refine zL ?_);simp only [yq172.down,zA,lemS.down,lemC.down,zex,zew,zeu,reduceIte,zev,zey,zez,ze0,ze1,ze2,ze3,ze4,ze5,reduceCtorEq,lemH.down,cc,hg,l0,l1,l2,d1,d2,zi,Bool.not_true,Bool.not_false])))
   exact⟨.inr rfl,by (rw [show decide (key.length≤32) = false from decide_eq_false (by omega),Bool.false_and,Bool.false_and];simp only [yq172.down,zA,lemS.down,lemC.down,zex,zew,zeu,reduceIte,zev,zey,zez,ze0,ze1,ze2,ze3,ze4,ze5,reduceCtorEq])<;>rfl,gg⟩
  ·have d2:decide ((key.length:Int) > 32) = false:=decide_eq_false c2
   rw [show decide (key.length≤32) = true from decide_eq_true (by omega),Bool.true_and]
   by_cases c3:(val.length:Int) > 64
   ·have d3:decide ((val.length:Int) > 64) = true:=decide_eq_true c3
    (repeat (first|refine zS ?_|refine zK ?_|refine zR ?_|refine zD ?_|refine zB ?_|refine zI ?_|refine zJ ?_|refine zP ?_|refine zE ?_|refine zG ?_|refine zF ?_|refine zH (by decide) ?_|refine zQ ?_|((first|refine zC ?_|refine zM ?_|refine zO rfl rfl ?_|refine zN rfl ?_|refine zL ?_);simp only [yq172.down,zA,lemS.down,lemC.down,zex,zew,zeu,reduceIte,zev,zey,zez,ze0,ze1,ze2,ze3,ze4,ze5,reduceCtorEq,lemH.down,cc,hg,l0,l1,l2,d1,d2,d3,zi,Bool.not_true,Bool.not_false])))
    exact⟨.inr rfl,by (rw [show decide (val.length≤64) = false from decide_eq_false (by omega),Bool.false_and];simp only [yq172.down,zA,lemS.down,lemC.down,zex,zew,zeu,reduceIte,zev,zey,zez,ze0,ze1,ze2,ze3,ze4,ze5,reduceCtorEq])<;>rfl,gg⟩
   ·have d3:decide ((val.length:Int) > 64) = false:=decide_eq_false c3
    rw [show decide (val.length≤64) = true from decide_eq_true (by omega),Bool.true_and]
    by_cases q1:k = 1
    ·have e1:(k == (1:Int)) = true:=by rw [zCy];exact decide_eq_true q1
     have f1:decide (k = 1) = true:=decide_eq_true q1
     (repeat (first|refine zS ?_|refine zK ?_|refine zR ?_|refine zD ?_|refine zB ?_|refine zI ?_|refine zJ ?_|refine zP ?_|refine zE ?_|refine zG ?_|refine zF ?_|refine zH (by decide) ?_|refine zQ ?_|((first|refine zC ?_|refine zM ?_|refine zO rfl rfl ?_|refine zN rfl ?_|refine zL ?_);simp only [yq172.down,zA,lemS.down,lemC.down,zex,zew,zeu,reduceIte,zev,zey,zez,ze0,ze1,ze2,ze3,ze4,ze5,reduceCtorEq,lemH.down,cc,hg,l0,l1,l2,d1,d2,d3,e1,zi,Bool.not_true,Bool.not_false])))
     exact⟨.inr rfl,by (rw [f1,Bool.true_or,Bool.true_or];simp only [yq172.down,zA,lemS.down,lemC.down,zex,zew,zeu,reduceIte,zev,zey,zez,ze0,ze1,ze2,ze3,ze4,ze5,reduceCtorEq])<;>rfl,gg⟩
    ·have e1:(k == (1:Int)) = false:=by rw [zCy];exact decide_eq_false q1
     have f1:decide (k = 1) = false:=decide_eq_false q1
     by_cases q3:k = 3
     ·have e3:(k == (3:Int)) = true:=by rw [zCy];exact decide_eq_true q3
      have f3:decide (k = 3) = true:=decide_eq_true q3
      (repeat (first|refine zS ?_|refine zK ?_|refine zR ?_|refine zD ?_|refine zB ?_|refine zI ?_|refine zJ ?_|refine zP ?_|refine zE ?_|refine zG ?_|refine zF ?_|refine zH (by decide) ?_|refine zQ ?_|((first|refine zC ?_|refine zM ?_|refine zO rfl rfl ?_|refine zN rfl ?_|refine zL ?_);simp only [yq172.down,zA,lemS.down,lemC.down,zex,zew,zeu,reduceIte,zev,zey,zez,ze0,ze1,ze2,ze3,ze4,ze5,reduceCtorEq,lemH.down,cc,hg,l0,l1,l2,d1,d2,d3,e1,e3,zi,Bool.not_true,Bool.not_false])))
      exact⟨.inr rfl,by (rw [f1,f3,Bool.false_or,Bool.true_or];simp only [yq172.down,zA,lemS.down,lemC.down,zex,zew,zeu,reduceIte,zev,zey,zez,ze0,ze1,ze2,ze3,ze4,ze5,reduceCtorEq])<;>rfl,gg⟩
     ·have e3:(k == (3:Int)) = false:=by rw [zCy];exact decide_eq_false q3
      have f3:decide (k = 3) = false:=decide_eq_false q3
      by_cases q2:k = 2
      ·have e2:(k == (2:Int)) = true:=by rw [zCy];exact decide_eq_true q2
       have f2:decide (k = 2) = true:=decide_eq_true q2
       by_cases q0:val = []
       ·have v0:(val == ([]:List UInt8)) = true:=by rw [q0];rfl
        (repeat (first|refine zS ?_|refine zK ?_|refine zR ?_|refine zD ?_|refine zB ?_|refine zI ?_|refine zJ ?_|refine zP ?_|refine zE ?_|refine zG ?_|refine zF ?_|refine zH (by decide) ?_|refine zQ ?_|((first|refine zC ?_|refine zM ?_|refine zO rfl rfl ?_|refine zN rfl ?_|refine zL ?_);simp only [yq172.down,zA,lemS.down,lemC.down,zex,zew,zeu,reduceIte,zev,zey,zez,ze0,ze1,ze2,ze3,ze4,ze5,reduceCtorEq,lemH.down,cc,hg,l0,l1,l2,d1,d2,d3,e1,e3,e2,v0,zi,Bool.not_true,Bool.not_false])))
        exact⟨.inr rfl,by (rw [f1,f3,f2,Bool.false_or,Bool.false_or,Bool.true_or,decide_eq_true q0,Bool.true_and];simp only [yq172.down,zA,lemS.down,lemC.down,zex,zew,zeu,reduceIte,zev,zey,zez,ze0,ze1,ze2,ze3,ze4,ze5,reduceCtorEq])<;>rfl,gg⟩
       ·have v0:(val == ([]:List UInt8)) = false:=by cases val with|nil=>exact absurd rfl q0|cons a b=>rfl
        (repeat (first|refine zS ?_|refine zK ?_|refine zR ?_|refine zD ?_|refine zB ?_|refine zI ?_|refine zJ ?_|refine zP ?_|refine zE ?_|refine zG ?_|refine zF ?_|refine zH (by decide) ?_|refine zQ ?_|((first|refine zC ?_|refine zM ?_|refine zO rfl rfl ?_|refine zN rfl ?_|refine zL ?_);simp only [yq172.down,zA,lemS.down,lemC.down,zex,zew,zeu,reduceIte,zev,zey,zez,ze0,ze1,ze2,ze3,ze4,ze5,reduceCtorEq,lemH.down,cc,hg,l0,l1,l2,d1,d2,d3,e1,e3,e2,v0,zi,Bool.not_true,Bool.not_false])))
        exact⟨.inr rfl,by (rw [f1,f3,f2,Bool.false_or,Bool.false_or,Bool.true_or,decide_eq_false q0,Bool.and_false];simp only [yq172.down,zA,lemS.down,lemC.down,zex,zew,zeu,reduceIte,zev,zey,zez,ze0,ze1,ze2,ze3,ze4,ze5,reduceCtorEq])<;>rfl,gg⟩
      ·have e2:(k == (2:Int)) = false:=by rw [zCy];exact decide_eq_false q2
       have f2:decide (k = 2) = false:=decide_eq_false q2
       by_cases q4:k = 4
       ·have e4:(k == (4:Int)) = true:=by rw [zCy];exact decide_eq_true q4
        have f4:decide (k = 4) = true:=decide_eq_true q4
        by_cases q0:val = []
        ·have v0:(val == ([]:List UInt8)) = true:=by rw [q0];rfl
         (repeat (first|refine zS ?_|refine zK ?_|refine zR ?_|refine zD ?_|refine zB ?_|refine zI ?_|refine zJ ?_|refine zP ?_|refine zE ?_|refine zG ?_|refine zF ?_|refine zH (by decide) ?_|refine zQ ?_|((first|refine zC ?_|refine zM ?_|refine zO rfl rfl ?_|refine zN rfl ?_|refine zL ?_);simp only [yq172.down,zA,lemS.down,lemC.down,zex,zew,zeu,reduceIte,zev,zey,zez,ze0,ze1,ze2,ze3,ze4,ze5,reduceCtorEq,lemH.down,cc,hg,l0,l1,l2,d1,d2,d3,e1,e3,e2,e4,v0,zi,Bool.not_true,Bool.not_false])))
         exact⟨.inr rfl,by (rw [f1,f3,f2,f4,Bool.false_or,Bool.false_or,Bool.false_or,decide_eq_true q0,Bool.true_and];simp only [yq172.down,zA,lemS.down,lemC.down,zex,zew,zeu,reduceIte,zev,zey,zez,ze0,ze1,ze2,ze3,ze4,ze5,reduceCtorEq])<;>rfl,gg⟩
        ·have v0:(val == ([]:List UInt8)) = false:=by cases val with|nil=>exact absurd rfl q0|cons a b=>rfl
         (repeat (first|refine zS ?_|refine zK ?_|refine zR ?_|refine zD ?_|refine zB ?_|refine zI ?_|refine zJ ?_|refine zP ?_|refine zE ?_|refine zG ?_|refine zF ?_|refine zH (by decide) ?_|refine zQ ?_|((first|refine zC ?_|refine zM ?_|refine zO rfl rfl ?_|refine zN rfl ?_|refine zL ?_);simp only [yq172.down,zA,lemS.down,lemC.down,zex,zew,zeu,reduceIte,zev,zey,zez,ze0,ze1,ze2,ze3,ze4,ze5,reduceCtorEq,lemH.down,cc,hg,l0,l1,l2,d1,d2,d3,e1,e3,e2,e4,v0,zi,Bool.not_true,Bool.not_false])))
         exact⟨.inr rfl,by (rw [f1,f3,f2,f4,Bool.false_or,Bool.false_or,Bool.false_or,decide_eq_false q0,Bool.and_false];simp only [yq172.down,zA,lemS.down,lemC.down,zex,zew,zeu,reduceIte,zev,zey,zez,ze0,ze1,ze2,ze3,ze4,ze5,reduceCtorEq])<;>rfl,gg⟩
       ·have e4:(k == (4:Int)) = false:=by rw [zCy];exact decide_eq_false q4
        have f4:decide (k = 4) = false:=decide_eq_false q4
        (repeat (first|refine zS ?_|refine zK ?_|refine zR ?_|refine zD ?_|refine zB ?_|refine zI ?_|refine zJ ?_|refine zP ?_|refine zE ?_|refine zG ?_|refine zF ?_|refine zH (by decide) ?_|refine zQ ?_|((first|refine zC ?_|refine zM ?_|refine zO rfl rfl ?_|refine zN rfl ?_|refine zL ?_);simp only [yq172.down,zA,lemS.down,lemC.down,zex,zew,zeu,reduceIte,zev,zey,zez,ze0,ze1,ze2,ze3,ze4,ze5,reduceCtorEq,lemH.down,cc,hg,l0,l1,l2,d1,d2,d3,e1,e3,e2,e4,zi,Bool.not_true,Bool.not_false])))
        exact⟨.inr rfl,by (rw [f1,f3,f2,f4,Bool.false_or,Bool.false_and,Bool.false_or];simp only [yq172.down,zA,lemS.down,lemC.down,zex,zew,zeu,reduceIte,zev,zey,zez,ze0,ze1,ze2,ze3,ze4,ze5,reduceCtorEq])<;>rfl,gg⟩
end Go.X
end
section
open Go Go.X
namespace Go.X
set_option linter.unusedVariables false
noncomputable def callV (pr:Prog) (v:Value) (args:List Value) (h:Heap):Option (Value×Heap):=match v with
 | .func (.func g) first caps=>cfi pr g (first.toList ++ args ++ caps.toList) h
 | .func (.yield l) first caps=>cond (first.isEmpty && caps.isEmpty) ((cfi pr).yl l args h) none
 | _=>none
theorem zMw {t:Fr} {h:Heap} {i:Nat} {xs:List Operand} {pr:Prog}:zAC (cfi pr) t h (.call (.tmp i) xs) = callV pr (t.get i) (xs.map t.eval) h:=by
 show (match t.get i with|.func (.func g) first caps=>(cfi pr) g (first.toList ++ xs.map t.eval ++ caps.toList) h|.func (.yield l) first caps=>cond (first.isEmpty && caps.isEmpty) ((cfi pr).yl l (xs.map t.eval) h) none|_=>none) = _
 unfold callV
 split<;>simp_all
theorem zKj {pr:Prog} {g:Nat} {args:List Value} {h:Heap}:callV pr (.func (.func g) #[] #[]) args h = cfi pr g args h:=by simp [callV]
structure zDS (pr:Prog):Prop where
 may:pr.prim 172 = none
 mayC:pr.code 172 = some xq172
 fn1:pr.prim 171 = none
 fn1C:pr.code 171 = some xq171
 idx:pr.prim 213 = none
 idxC:pr.code 213 = some xq213
 con:pr.prim 170 = none
 conC:pr.code 170 = some xq170
 chk:pr.prim 119 = none
 chkC:pr.code 119 = some xq119
def okO (o:OpV):Prop:=o.2.1.length≤9223372036854775807∧o.2.2.length≤9223372036854775807
theorem fn1_run {pr:Prog} (T:zDS pr) {h:Heap} {o:OpV} (ho:okO o):∃ h',cfi pr 171 [.agg (zAT o).toArray] h = some (.bool (!mayP o),h')∧Grows h h':=by
 have:∃ v h',cfi pr 171 [.agg (zAT o).toArray] h = some (v,h')∧v = .bool (!mayP o)∧Grows h h':=by
  refine zAA T.fn1 T.fn1C rfl ?_
  unfold xq171
  dsimp only [zh]
  refine wpk.out (k:=[]) ?_
  obtain⟨g,hg,vg,gg,gn⟩:∃ g,h.new (zAT o) = g∧Var g h.next (zAT o)∧Grows h g∧g.next = h.next + 1:=⟨_,rfl,Var.new_self,Grows.new,rfl⟩
  have cc:zq (.agg (zAT o).toArray) = zAT o:=rfl
  have ld:∀ sp,g.loadN ⟨h.next,0,sp⟩ 3 = some (zAT o):=fun sp=>vg.loadAll rfl
  obtain⟨g2,e2,gg2⟩:=za5 T.may T.mayC rfl (may_ok pr g o ho.1 ho.2)
  (repeat (first|refine zS ?_|refine zK ?_|refine zR ?_|refine zD ?_|refine zB ?_|refine zI ?_|refine zJ ?_|refine zP ?_|refine zE ?_|refine zG ?_|refine zF ?_|refine zH (by decide) ?_|refine zQ ?_|((first|refine zC ?_|refine zM ?_|refine zO rfl rfl ?_|refine zN rfl ?_|refine zL ?_);simp only [yq171.down,zA,lemS.down,lemC.down,zex,zew,zeu,reduceIte,zev,zey,zez,ze0,ze1,ze2,ze3,ze4,ze5,reduceCtorEq,lemH.down,cc,hg,ld,e2])))
  exact⟨.inr rfl,_,by (simp only [yq171.down,zA,lemS.down,lemC.down,zex,zew,zeu,reduceIte,zev,zey,zez,ze0,ze1,ze2,ze3,ze4,ze5,reduceCtorEq,zw,zAO,resX,zAX])<;>rfl,rfl,gg.trans gg2⟩
 obtain⟨v,h',e,rfl,q⟩:=this
 exact⟨h',e,q⟩
def badO (l:List OpV):Bool:=l.any fun o=>!mayP o
theorem idx_run {pr:Prog} (T:zDS pr) {h:Heap} {S:Nat→Prop} {v:Value} {l:List OpV} (ho:Own h S 3 v l.length (zAh l)) (hl:∀ o ∈ l,okO o) (hlen:l.length≤1000000) :
  ∃ w h',cfi pr 213 [v,.func (.func 171) #[] #[]] h = some (w,h')∧(∃ i:Int,w = .int .i64 i∧decide (i≥0) = badO l)∧Grows h h':=by
 refine zAA T.idx T.idxC rfl ?_
 unfold xq213
 dsimp only [zh]
 refine wpk.out (k:=[]) ?_
 have lv:=ho.lenV
 (repeat (first|refine zS ?_|refine zK ?_|refine zR ?_|refine zD ?_|refine zB ?_|refine zI ?_|refine zJ ?_|refine zP ?_|refine zE ?_|refine zG ?_|refine zF ?_|refine zH (by decide) ?_|refine zQ ?_|((first|refine zC ?_|refine zM ?_|refine zO rfl rfl ?_|refine zN rfl ?_|refine zL ?_);simp only [yq213.down,zA,lemS.down,lemC.down,zex,zew,zeu,reduceIte,zev,zey,zez,ze0,ze1,ze2,ze3,ze4,ze5,reduceCtorEq,lemH.down,lv])))
 refine zAG (fun m t g=>∃ i,m = l.length - i∧i≤l.length∧(∀ j,j < i→mayP (l.getD j (0,[],[])) = true)∧Grows h g∧t.get 0 = v∧t.get 1 = .func (.func 171) #[] #[]∧t.get 7 = .int .i64 (l.length:Int)∧t.get 8 = .int .i64 (i:Int)) ?_ l.length _ _ ⟨0,rfl,by omega,by simp,Grows.refl h,by simp only [yq213.down,zA,lemS.down,lemC.down,zex,zew,zeu,reduceIte,zev,zey,zez,ze0,ze1,ze2,ze3,ze4,ze5,reduceCtorEq],by simp only [yq213.down,zA,lemS.down,lemC.down,zex,zew,zeu,reduceIte,zev,zey,zez,ze0,ze1,ze2,ze3,ze4,ze5,reduceCtorEq],by simp only [yq213.down,zA,lemS.down,lemC.down,zex,zew,zeu,reduceIte,zev,zey,zez,ze0,ze1,ze2,ze3,ze4,ze5,reduceCtorEq],by (simp only [yq213.down,zA,lemS.down,lemC.down,zex,zew,zeu,reduceIte,zev,zey,zez,ze0,ze1,ze2,ze3,ze4,ze5,reduceCtorEq])<;>rfl⟩
 rintro m t g ⟨i,rfl,hi,hall,gg,t0,t1,t7,t8⟩ hnext
 refine xq213_7k ?_
 dsimp only [zJV]
 have og:=ho.grow gg
 (repeat (first|refine zS ?_|refine zK ?_|refine zR ?_|refine zD ?_|refine zB ?_|refine zI ?_|refine zJ ?_|refine zP ?_|refine zE ?_|refine zG ?_|refine zF ?_|refine zH (by decide) ?_|refine zQ ?_|((first|refine zC ?_|refine zM ?_|refine zO rfl rfl ?_|refine zN rfl ?_|refine zL ?_);simp only [yq213.down,zA,lemS.down,lemC.down,zex,zew,zeu,reduceIte,zev,zey,zez,ze0,ze1,ze2,ze3,ze4,ze5,reduceCtorEq,lemH.down,t0,t1,t7,t8])))
 refine ⟨fun hlt=>?_,fun hge=>?_⟩
 ·have hi':i < l.length:=by omega
  obtain⟨B,o,ia,ld⟩:=og.at hi'
  have ld:=ld g og
  rw [zHL l i hi'] at ld
  have hm:l.getD i (0,[],[]) ∈ l:=by rw [List.getD_eq_getElem?_getD,List.getElem?_eq_getElem hi'];exact List.getElem_mem hi'
  obtain⟨x,ex⟩:∃ x,l.getD i (0,[],[]) = x:=⟨_,rfl⟩
  rw [ex] at ld hm
  obtain⟨g2,e2,gg2⟩:=fn1_run T (h:=g) (hl x hm)
  have w1:IntKind.i64.wrap ((i:Int) + 1) = ((i + 1:Nat):Int):=by rw [wrap_i64 (by omega) (by omega)];omega
  cases hb:mayP x with
  | true=>
   rw [hb] at e2
   (repeat (first|refine zS ?_|refine zK ?_|refine zR ?_|refine zD ?_|refine zB ?_|refine zI ?_|refine zJ ?_|refine zP ?_|refine zE ?_|refine zG ?_|refine zF ?_|refine zH (by decide) ?_|refine zQ ?_|((first|refine zC ?_|refine zM ?_|refine zO rfl rfl ?_|refine zN rfl ?_|refine zL ?_);simp only [yq213.down,zA,lemS.down,lemC.down,zex,zew,zeu,reduceIte,zev,zey,zez,ze0,ze1,ze2,ze3,ze4,ze5,reduceCtorEq,lemH.down,t0,t1,t7,t8,zAs,ia,ld,zMw,zKj,e2,w1,Bool.not_true])))
   exact hnext (l.length - (i + 1)) _ _ (by omega) ⟨i + 1,rfl,by omega,fun j hj=>by
    rcases Nat.lt_or_ge j i with q|q
    ·exact hall j q
    ·obtain rfl:j = i:=by omega
     rw [ex];exact hb,gg.trans gg2,by simp only [yq213.down,zA,lemS.down,lemC.down,zex,zew,zeu,reduceIte,zev,zey,zez,ze0,ze1,ze2,ze3,ze4,ze5,reduceCtorEq,t0],by simp only [yq213.down,zA,lemS.down,lemC.down,zex,zew,zeu,reduceIte,zev,zey,zez,ze0,ze1,ze2,ze3,ze4,ze5,reduceCtorEq,t1],by simp only [yq213.down,zA,lemS.down,lemC.down,zex,zew,zeu,reduceIte,zev,zey,zez,ze0,ze1,ze2,ze3,ze4,ze5,reduceCtorEq,t7],by (simp only [yq213.down,zA,lemS.down,lemC.down,zex,zew,zeu,reduceIte,zev,zey,zez,ze0,ze1,ze2,ze3,ze4,ze5,reduceCtorEq])<;>rfl⟩
  | false=>
   rw [hb] at e2
   (repeat (first|refine zS ?_|refine zK ?_|refine zR ?_|refine zD ?_|refine zB ?_|refine zI ?_|refine zJ ?_|refine zP ?_|refine zE ?_|refine zG ?_|refine zF ?_|refine zH (by decide) ?_|refine zQ ?_|((first|refine zC ?_|refine zM ?_|refine zO rfl rfl ?_|refine zN rfl ?_|refine zL ?_);simp only [yq213.down,zA,lemS.down,lemC.down,zex,zew,zeu,reduceIte,zev,zey,zez,ze0,ze1,ze2,ze3,ze4,ze5,reduceCtorEq,lemH.down,t0,t1,t7,t8,zAs,ia,ld,zMw,zKj,e2,Bool.not_false])))
   refine ⟨.inr rfl,_,by (simp only [yq213.down,zA,lemS.down,lemC.down,zex,zew,zeu,reduceIte,zev,zey,zez,ze0,ze1,ze2,ze3,ze4,ze5,reduceCtorEq,zw,zAO,resX,zAX])<;>rfl,⟨(i:Int),rfl,?_⟩,gg.trans gg2⟩
   have:badO l = true:=List.any_eq_true.2 ⟨x,hm,by rw [hb];rfl⟩
   rw [this]
   simp
 ·have hi':i = l.length:=by omega
  (repeat (first|refine zS ?_|refine zK ?_|refine zR ?_|refine zD ?_|refine zB ?_|refine zI ?_|refine zJ ?_|refine zP ?_|refine zE ?_|refine zG ?_|refine zF ?_|refine zH (by decide) ?_|refine zQ ?_|((first|refine zC ?_|refine zM ?_|refine zO rfl rfl ?_|refine zN rfl ?_|refine zL ?_);simp only [yq213.down,zA,lemS.down,lemC.down,zex,zew,zeu,reduceIte,zev,zey,zez,ze0,ze1,ze2,ze3,ze4,ze5,reduceCtorEq,lemH.down,t0,t1,t7,t8])))
  refine ⟨.inr rfl,_,by (simp only [yq213.down,zA,lemS.down,lemC.down,zex,zew,zeu,reduceIte,zev,zey,zez,ze0,ze1,ze2,ze3,ze4,ze5,reduceCtorEq,zw,zAO,resX,zAX])<;>rfl,⟨-1,rfl,?_⟩,gg⟩
  have:badO l = false:=by
   unfold badO
   rw [List.any_eq_false]
   intro x hx
   obtain⟨j,hj,rfl⟩:=List.mem_iff_getElem.1 hx
   have:=hall j (by omega)
   rw [List.getD_eq_getElem?_getD,List.getElem?_eq_getElem hj] at this
   simpa using this
  rw [this]
  rfl
def txE (n:Nat) (l:List OpV):Nat:=if n < 1∨l.length < 1∨8 < l.length∨badO l = true then 40 else 0
theorem con_run {pr:Prog} (T:zDS pr) {h:Heap} {S:Nat→Prop} {v:Value} {l:List OpV} (ho:Own h S 3 v l.length (zAh l)) (hl:∀ o ∈ l,okO o) (hlen:l.length≤1000000) :
  ∃ h',cfi pr 170 [v,.func (.func 171) #[] #[]] h = some (.bool (badO l),h')∧Grows h h':=by
 have:∃ w h',cfi pr 170 [v,.func (.func 171) #[] #[]] h = some (w,h')∧w = .bool (badO l)∧Grows h h':=by
  refine zAA T.con T.conC rfl ?_
  unfold xq170
  dsimp only [zh]
  refine wpk.out (k:=[]) ?_
  obtain⟨w,g,e,⟨i,rfl,hi⟩,gg⟩:=idx_run T ho hl hlen
  (repeat (first|refine zS ?_|refine zK ?_|refine zR ?_|refine zD ?_|refine zB ?_|refine zI ?_|refine zJ ?_|refine zP ?_|refine zE ?_|refine zG ?_|refine zF ?_|refine zH (by decide) ?_|refine zQ ?_|((first|refine zC ?_|refine zM ?_|refine zO rfl rfl ?_|refine zN rfl ?_|refine zL ?_);simp only [yq170.down,zA,lemS.down,lemC.down,zex,zew,zeu,reduceIte,zev,zey,zez,ze0,ze1,ze2,ze3,ze4,ze5,reduceCtorEq,lemH.down,e,hi])))
  exact⟨.inr rfl,_,by (simp only [yq170.down,zA,lemS.down,lemC.down,zex,zew,zeu,reduceIte,zev,zey,zez,ze0,ze1,ze2,ze3,ze4,ze5,reduceCtorEq,zw,zAO,resX,zAX])<;>rfl,rfl,gg⟩
 obtain⟨w,h',e,rfl,q⟩:=this
 exact⟨h',e,q⟩
end Go.X
end
section
open Go Go.X
namespace Go.X
set_option linter.unusedVariables false
theorem zLB {t:Fr} {f:Nat}:Fr.eval t (.func f) = .func (.func f) #[] #[]:=rfl
theorem zKE {pr:Prog} (T:zDS pr) {h:Heap} {S:Nat→Prop} {v:Value} {l:List OpV} {c:Int} {n:Nat} (ho:Own h S 3 v l.length (zAh l)) (hl:∀ o ∈ l,okO o) (hlen:l.length≤1000000) :
  ∃ h',cfi pr 119 [.agg [.int .u64 c,.int .u64 (n:Int),v].toArray] h = some (.int .i64 (txE n l:Int),h')∧Grows h h':=by
 have:∃ w h',cfi pr 119 [.agg [.int .u64 c,.int .u64 (n:Int),v].toArray] h = some (w,h')∧w = .int .i64 (txE n l:Int)∧Grows h h':=by
  refine zAA T.chk T.chkC rfl ?_
  unfold xq119
  dsimp only [zh]
  refine wpk.out (k:=[]) ?_
  obtain⟨g,hg,vg,gg,gn⟩:∃ g,h.new [.int .u64 c,.int .u64 (n:Int),v] = g∧Var g h.next [.int .u64 c,.int .u64 (n:Int),v]∧Grows h g∧g.next = h.next + 1:=⟨_,rfl,Var.new_self,Grows.new,rfl⟩
  have cc:zq (.agg [.int .u64 c,.int .u64 (n:Int),v].toArray) = [.int .u64 c,.int .u64 (n:Int),v]:=rfl
  have l1:∀ sp,g.load ⟨h.next,1,sp⟩ = some (.int .u64 (n:Int)):=fun sp=>vg.load
  have l2:∀ sp,g.load ⟨h.next,2,sp⟩ = some v:=fun sp=>vg.load
  have lv:=ho.lenV
  obtain⟨g2,e2,gg2⟩:=con_run T (ho.grow gg) hl hlen
  by_cases c1:n < 1
  ·have d1:decide ((n:Int) < 1) = true:=decide_eq_true (by omega)
   have e:txE n l = 40:=if_pos (.inl c1)
   rw [e]
   (repeat (first|refine zS ?_|refine zK ?_|refine zR ?_|refine zD ?_|refine zB ?_|refine zI ?_|refine zJ ?_|refine zP ?_|refine zE ?_|refine zG ?_|refine zF ?_|refine zH (by decide) ?_|refine zQ ?_|((first|refine zC ?_|refine zM ?_|refine zO rfl rfl ?_|refine zN rfl ?_|refine zL ?_);simp only [yq119.down,zA,lemS.down,lemC.down,zex,zew,zeu,reduceIte,zev,zey,zez,ze0,ze1,ze2,ze3,ze4,ze5,reduceCtorEq,lemH.down,cc,hg,l1,l2,lv,d1,zi])))
   exact⟨.inr rfl,_,by (simp only [yq119.down,zA,lemS.down,lemC.down,zex,zew,zeu,reduceIte,zev,zey,zez,ze0,ze1,ze2,ze3,ze4,ze5,reduceCtorEq,zw,zAO,resX,zAX])<;>rfl,rfl,gg⟩
  ·have d1:decide ((n:Int) < 1) = false:=decide_eq_false (by omega)
   by_cases c2:l.length < 1
   ·have d2:decide ((l.length:Int) < 1) = true:=decide_eq_true (by omega)
    have e:txE n l = 40:=if_pos (.inr (.inl c2))
    rw [e]
    (repeat (first|refine zS ?_|refine zK ?_|refine zR ?_|refine zD ?_|refine zB ?_|refine zI ?_|refine zJ ?_|refine zP ?_|refine zE ?_|refine zG ?_|refine zF ?_|refine zH (by decide) ?_|refine zQ ?_|((first|refine zC ?_|refine zM ?_|refine zO rfl rfl ?_|refine zN rfl ?_|refine zL ?_);simp only [yq119.down,zA,lemS.down,lemC.down,zex,zew,zeu,reduceIte,zev,zey,zez,ze0,ze1,ze2,ze3,ze4,ze5,reduceCtorEq,lemH.down,cc,hg,l1,l2,lv,d1,d2,zi])))
    exact⟨.inr rfl,_,by (simp only [yq119.down,zA,lemS.down,lemC.down,zex,zew,zeu,reduceIte,zev,zey,zez,ze0,ze1,ze2,ze3,ze4,ze5,reduceCtorEq,zw,zAO,resX,zAX])<;>rfl,rfl,gg⟩
   ·have d2:decide ((l.length:Int) < 1) = false:=decide_eq_false (by omega)
    by_cases c3:8 < l.length
    ·have d3:decide ((l.length:Int) > 8) = true:=decide_eq_true (by omega)
     have e:txE n l = 40:=if_pos (.inr (.inr (.inl c3)))
     rw [e]
     (repeat (first|refine zS ?_|refine zK ?_|refine zR ?_|refine zD ?_|refine zB ?_|refine zI ?_|refine zJ ?_|refine zP ?_|refine zE ?_|refine zG ?_|refine zF ?_|refine zH (by decide) ?_|refine zQ ?_|((first|refine zC ?_|refine zM ?_|refine zO rfl rfl ?_|refine zN rfl ?_|refine zL ?_);simp only [yq119.down,zA,lemS.down,lemC.down,zex,zew,zeu,reduceIte,zev,zey,zez,ze0,ze1,ze2,ze3,ze4,ze5,reduceCtorEq,lemH.down,cc,hg,l1,l2,lv,d1,d2,d3,zi])))
     exact⟨.inr rfl,_,by (simp only [yq119.down,zA,lemS.down,lemC.down,zex,zew,zeu,reduceIte,zev,zey,zez,ze0,ze1,ze2,ze3,ze4,ze5,reduceCtorEq,zw,zAO,resX,zAX])<;>rfl,rfl,gg⟩
    ·have d3:decide ((l.length:Int) > 8) = false:=decide_eq_false (by omega)
     cases hb:badO l with
     | true=>
      rw [hb] at e2
      have e:txE n l = 40:=if_pos (.inr (.inr (.inr hb)))
      rw [e]
      (repeat (first|refine zS ?_|refine zK ?_|refine zR ?_|refine zD ?_|refine zB ?_|refine zI ?_|refine zJ ?_|refine zP ?_|refine zE ?_|refine zG ?_|refine zF ?_|refine zH (by decide) ?_|refine zQ ?_|((first|refine zC ?_|refine zM ?_|refine zO rfl rfl ?_|refine zN rfl ?_|refine zL ?_);simp only [yq119.down,zA,lemS.down,lemC.down,zex,zew,zeu,reduceIte,zev,zey,zez,ze0,ze1,ze2,ze3,ze4,ze5,reduceCtorEq,lemH.down,cc,hg,l1,l2,lv,d1,d2,d3,zi,zLB,e2])))
      exact⟨.inr rfl,_,by (simp only [yq119.down,zA,lemS.down,lemC.down,zex,zew,zeu,reduceIte,zev,zey,zez,ze0,ze1,ze2,ze3,ze4,ze5,reduceCtorEq,zw,zAO,resX,zAX])<;>rfl,rfl,gg.trans gg2⟩
     | false=>
      rw [hb] at e2
      have e:txE n l = 0:=if_neg fun q=>by
       rcases q with q|q|q|q
       ·exact c1 q
       ·exact c2 q
       ·exact c3 q
       ·rw [hb] at q;cases q
      rw [e]
      (repeat (first|refine zS ?_|refine zK ?_|refine zR ?_|refine zD ?_|refine zB ?_|refine zI ?_|refine zJ ?_|refine zP ?_|refine zE ?_|refine zG ?_|refine zF ?_|refine zH (by decide) ?_|refine zQ ?_|((first|refine zC ?_|refine zM ?_|refine zO rfl rfl ?_|refine zN rfl ?_|refine zL ?_);simp only [yq119.down,zA,lemS.down,lemC.down,zex,zew,zeu,reduceIte,zev,zey,zez,ze0,ze1,ze2,ze3,ze4,ze5,reduceCtorEq,lemH.down,cc,hg,l1,l2,lv,d1,d2,d3,zi,zLB,e2])))
      exact⟨.inr rfl,_,by (simp only [yq119.down,zA,lemS.down,lemC.down,zex,zew,zeu,reduceIte,zev,zey,zez,ze0,ze1,ze2,ze3,ze4,ze5,reduceCtorEq,zw,zAO,resX,zAX])<;>rfl,rfl,gg.trans gg2⟩
 obtain⟨w,h',e,rfl,q⟩:=this
 exact⟨h',e,q⟩
end Go.X
end
section
open Go Go.X
namespace Go.X
set_option linter.unusedVariables false
def zDM:Hdr:=⟨0,[],[],[],[]⟩
def zAz (r:RS):RS×Hdr:=
 ((zAx (zX (zX (zX (zT r 8).1 32).1 32).1 32).1).1,⟨(zT r 8).2,(zX (zT r 8).1 32).2,(zX (zX (zT r 8).1 32).1 32).2,(zX (zX (zX (zT r 8).1 32).1 32).1 32).2,(zAx (zX (zX (zX (zT r 8).1 32).1 32).1 32).1).2⟩)
def zBw (p:RS×Hdr):RS×Hdr:=if p.1.err = 0 then (if zAy p.2 = 0 then p else (⟨p.1.s,p.1.pos,zAy p.2⟩,zDM)) else (p.1,zDM)
def zAE (r:RS):RS×Hdr:=zBw (zAz r)
theorem box5 {h:Heap} (l:List Value):∃ g,h.new l = g∧Var g h.next l∧Grows h g∧g.next = h.next + 1:=⟨_,rfl,Var.new_self,Grows.new,rfl⟩
theorem zHE (r:RS):(zX r 32).2.length≤32:=zFp r 32
theorem zLr:∀ (n:Nat) (r:RS) (acc:List Int),(zAr n r acc).2.length≤acc.length + n
 | 0,r,acc=>by simp [zAr]
 | n + 1,r,acc=>by
  unfold zAr
  split
  ·have:=zLr n (zT r 1).1 (acc ++ [((zT r 1).2:Int)])
   rw [List.length_append] at this
   simp only [List.length_cons,List.length_nil] at this
   omega
  ·show acc.length≤_;omega
theorem zH8 (r:RS):(zAx r).2.length≤256:=by
 have h1:=zLr (zT r 1).2 (zT r 1).1 []
 have h2:=zBm r
 simp only [List.length_nil] at h1
 unfold zAx memQ
 split
 ·split
  ·omega
  ·exact Nat.zero_le _
 ·exact Nat.zero_le _
structure HdTab (pr:Prog):Prop extends MemTab pr where
 chk:pr.prim 64 = some zEI
 ht:pr.prim 103 = none
 htC:pr.code 103 = some xq103
theorem HT_run {pr:Prog} (T:HdTab pr) {h:Heap} {R:Nat} {r:RS} (hr:Rd h R r) :
  ∃ w h',cfi pr 103 [.pointer (some ⟨R,0,none⟩)] h = some (w,h')∧∃ mv,w = .agg (zm (zAE r).2 mv).toArray∧Rd h' R (zAE r).1∧Own h' (fun A=>h.next≤A) 1 mv (zAE r).2.m.length (zAo (zAE r).2.m)∧HdAt h' (zAE r).2 mv∧Keeps (fun A=>A = R) h h':=by
 have hr64:zU = 140737488355328:=rfl
 refine zAA T.ht T.htC rfl ?_
 unfold xq103
 dsimp only [zh]
 refine wpk.out (k:=[]) ?_
 have hR:R < h.next:=hr.2.1
 obtain⟨ga,hga,va,gga,gna⟩:=box5 (h:=h) [.int .u64 0,.string (strOf []),.string (strOf []),.string (strOf []),.slice none 0 0]
 obtain⟨gb,eb,rb,kb⟩:=zCA T.wire (hr.grow gga) 8 (by decide)
 have eb:cfi pr 89 [.pointer (some ⟨R,0,none⟩),.int .i64 8] ga = some (uw .u64 (zT r 8).2,gb):=eb
 have hn:(zT r 8).2 < 18446744073709551616:=zC8 r (k:=8) (by decide)
 rw [← zBJ hn] at eb
 obtain⟨gc,ec,rc,kc⟩:=zB9 T.wire rb
 obtain⟨gd,ed,rd,kd⟩:=zB9 T.wire rc
 obtain⟨ge,ee,re,ke⟩:=zB9 T.wire rd
 obtain⟨mv,gf,ef,rf,of,hf,kf⟩:=TM_run T.toMemTab re
 have e0:(zAz r).1 = (zAx (zX (zX (zX (zT r 8).1 32).1 32).1 32).1).1:=rfl
 have x1:(zT r 8).2 = (zAz r).2.n:=rfl
 have x2:(zX (zT r 8).1 32).2 = (zAz r).2.p:=rfl
 have x3:(zX (zX (zT r 8).1 32).1 32).2 = (zAz r).2.t:=rfl
 have x4:(zX (zX (zX (zT r 8).1 32).1 32).1 32).2 = (zAz r).2.s:=rfl
 have x5:(zAx (zX (zX (zX (zT r 8).1 32).1 32).1 32).1).2 = (zAz r).2.m:=rfl
 have lp:(zAz r).2.p.length≤32:=zHE _
 have lt:(zAz r).2.t.length≤32:=zHE _
 have ls:(zAz r).2.s.length≤32:=zHE _
 have lm:(zAz r).2.m.length≤256:=zH8 _
 rw [x1] at eb hn
 rw [x2] at ec
 rw [x3] at ed
 rw [x4] at ee
 rw [x5] at of hf
 rw [← e0] at rf
 obtain⟨q,eq⟩:∃ q,zAz r = q:=⟨_,rfl⟩
 have eR:zAE r = zBw q:=by rw [zAE,eq]
 rw [eq] at eb ec ed ee of hf hn lp lt ls lm rf
 rw [eR]
 clear eR eq x1 x2 x3 x4 x5 e0
 obtain⟨r2,x⟩:=q
 have lm:x.m.length≤256:=lm
 have lp:x.p.length≤32:=lp
 have lt:x.t.length≤32:=lt
 have ls:x.s.length≤32:=ls
 have hn:x.n < 18446744073709551616:=hn
 obtain⟨gg,hgg,vg,ggg,gng⟩:=box5 (h:=gf) [.int .u64 0,.string (strOf []),.string (strOf []),.string (strOf []),.slice none 0 0]
 have ka:Keeps (fun A=>A = R) h gf:=(((((gga.keeps).trans kb (fun _ _ q=>q)).trans kc (fun _ _ q=>q)).trans kd (fun _ _ q=>q)).trans ke (fun _ _ q=>q)).trans kf (fun _ _ q=>q)
 have kab:Keeps (fun A=>A = R) ga gf:=(((kb.trans kc (fun _ _ q=>q)).trans kd (fun _ _ q=>q)).trans ke (fun _ _ q=>q)).trans kf (fun _ _ q=>q)
 have na:ga.next≤gf.next:=kab.next
 have nb:ga.next≤ge.next:=(((kb.trans kc (fun _ _ q=>q)).trans kd (fun _ _ q=>q)).trans ke (fun _ _ q=>q)).next
 have va2:=(va.keep kab (fun q=>by omega)).grow ggg
 obtain⟨av,cv,rfl,_⟩:=of.shape
 have fl:zAB [.int .u64 0,.string (strOf []),.string (strOf []),.string (strOf []),.slice none 0 0] [(0,1,.int .u64 (x.n:Int)),(1,1,.string (strOf x.p)),(2,1,.string (strOf x.t)),(3,1,.string (strOf x.s)),(4,1,.slice av x.m.length cv)] = some (zm x (.slice av x.m.length cv)):=rfl
 have st:zn gg 5 (.pointer (some ⟨gf.next,0,none⟩)) (.agg (zm x (.slice av x.m.length cv)).toArray) = some (.tuple #[],gg.wr gf.next (zm x (.slice av x.m.length cv))):=vg.storeAll rfl rfl (by decide) rfl
 obtain⟨gh,hgh⟩:∃ gh,gg.wr gf.next (zm x (.slice av x.m.length cv)) = gh:=⟨_,rfl⟩
 have vh:Var gh gf.next (zm x (.slice av x.m.length cv)):=by rw [← hgh];exact vg.wr
 have kgh:Keeps (fun A=>A = gf.next) gg gh:=by rw [← hgh];exact Keeps.wr
 have khh:Keeps (fun A=>A = R) h gh:=(ka.trans ggg.keeps (fun _ _ q=>q)).trans kgh (fun A hA e=>by omega)
 have nh:=kgh.next
 rw [hgh] at st
 have ld:∀ sp,gh.loadN ⟨gf.next,0,sp⟩ 5 = some (zm x (.slice av x.m.length cv)):=fun sp=>vh.loadAll rfl
 have va3:=va2.keep kgh (fun q=>by omega)
 have rh:Rd gh R r2:=((rf.grow ggg).keep kgh (fun q=>by omega))
 have oh:=(of.bound.grow ggg).keep kgh (fun A hA q=>by have:=hA.2;omega)
 have oh':Own gh (fun A=>h.next≤A) 1 (.slice av x.m.length cv) x.m.length (zAo x.m):=oh.mono fun A hA=>by have:=hA.1;omega
 have hi:zAl gh (.slice av x.m.length cv) = some x.m:=oh.ints fun y hy=>by have:=hf y hy;omega
 have hd:HdAt gh x (.slice av x.m.length cv):=⟨hn,hi,by omega,by rw [hr64];have:=lp;show x.p.length + 10000000≤_;omega,by rw [hr64];show x.t.length + 10000000≤_;omega,by rw [hr64];show x.s.length + 10000000≤_;omega⟩
 have er:=zAb T.wire rh
 have em:cfi pr 64 [.agg (zm x (.slice av x.m.length cv)).toArray] gh = some (.int .i64 (zAy x:Int),gh):=zEA T.chk (zHk hd)
 have stz:∀ g,Var g h.next [.int .u64 0,.string (strOf []),.string (strOf []),.string (strOf []),.slice none 0 0]→zn g 5 (.pointer (some ⟨h.next,0,none⟩)) (.agg [.int .u64 0,.string (strOf []),.string (strOf []),.string (strOf []),.slice none 0 0].toArray) = some (.tuple #[],g.wr h.next [.int .u64 0,.string (strOf []),.string (strOf []),.string (strOf []),.slice none 0 0]):=fun g v=>v.storeAll rfl rfl (by decide) rfl
 have zz:HdAt h zDM (.slice none 0 0):=⟨by decide,rfl,by decide,by decide,by decide,by decide⟩
 by_cases c0:r2.err = 0
 ·have b0:((r2.err:Int) == 0) = true:=by rw [c0];rfl
  by_cases c1:zAy x = 0
  ·rw [c1] at em
   obtain⟨gi,ei,ri,ki⟩:=zDP T.wire rh 0
   have ei:cfi pr 151 [.pointer (some ⟨R,0,none⟩),.int .i64 0] gh = some (.tuple #[],gi):=ei
   rw [if_pos c0] at ri
   have ri:Rd gi R r2:=by obtain⟨s,p,e⟩:=r2;simp only at c0;subst c0;exact ri
   have eri:=zAb T.wire ri
   have vhi:=vh.keep ki (fun q=>by omega)
   have vai:=va3.keep ki (fun q=>by omega)
   have ldi:∀ sp,gi.loadN ⟨gf.next,0,sp⟩ 5 = some (zm x (.slice av x.m.length cv)):=fun sp=>vhi.loadAll rfl
   have sti:zn gi 5 (.pointer (some ⟨h.next,0,none⟩)) (.agg (zm x (.slice av x.m.length cv)).toArray) = some (.tuple #[],gi.wr h.next (zm x (.slice av x.m.length cv))):=vai.storeAll rfl rfl (by decide) rfl
   (repeat (first|refine zS ?_|refine zK ?_|refine zR ?_|refine zD ?_|refine zB ?_|refine zI ?_|refine zJ ?_|refine zP ?_|refine zE ?_|refine zG ?_|refine zF ?_|refine zH (by decide) ?_|refine zQ ?_|((first|refine zC ?_|refine zM ?_|refine zO rfl rfl ?_|refine zN rfl ?_|refine zL ?_);simp only [yq103.down,zA,lemS.down,lemC.down,zex,zew,zeu,reduceIte,zev,zey,zez,ze0,ze1,ze2,ze3,ze4,ze5,reduceCtorEq,lemH.down,hga,gna,eb,ec,ed,ee,ef,fl,hgg,gng,st,er,b0,ld,em,ei,eri,ldi,sti,Bool.not_true,Bool.not_false])))
   have eQ:zBw (r2,x) = (r2,x):=by simp only [zBw,if_pos c0,if_pos c1]
   rw [eQ]
   have kw:Keeps (fun A=>A = R) h (gi.wr h.next (zm x (.slice av x.m.length cv))):=(khh.trans ki (fun _ _ q=>q)).trans Keeps.wr (fun A hA e=>by omega)
   have ow:Own (gi.wr h.next (zm x (.slice av x.m.length cv))) (fun A=>h.next≤A) 1 (.slice av x.m.length cv) x.m.length (zAo x.m):=((oh.keep ki (fun A hA q=>by have:=hA.1;omega)).keep Keeps.wr (fun A hA q=>by have:=hA.1;omega)).mono fun A hA=>by have:=hA.1;omega
   exact⟨.inr rfl,_,zA1 (a:=⟨h.next,0,none⟩) (by simp only [yq103.down,zA,lemS.down,lemC.down,zex,zew,zeu,reduceIte,zev,zey,zez,ze0,ze1,ze2,ze3,ze4,ze5,reduceCtorEq]) (vai.wr.loadAll rfl),_,rfl,ri.keep Keeps.wr (by omega),ow,⟨hn,ow.ints fun y hy=>by have:=hf y hy;omega,hd.2.2⟩,kw⟩
  ·have c2:zAy x = 80:=by
    unfold zAy at c1 ⊢
    split
    ·rfl
    ·rename_i q;exact absurd (if_neg q) c1
   rw [c2] at em
   obtain⟨gi,ei,ri,ki⟩:=zDP T.wire rh 80
   have ei:cfi pr 151 [.pointer (some ⟨R,0,none⟩),.int .i64 80] gh = some (.tuple #[],gi):=ei
   rw [if_pos c0] at ri
   have eri:=zAb T.wire ri
   have vai:=va3.keep ki (fun q=>by omega)
   have sti:=stz gi vai
   (repeat (first|refine zS ?_|refine zK ?_|refine zR ?_|refine zD ?_|refine zB ?_|refine zI ?_|refine zJ ?_|refine zP ?_|refine zE ?_|refine zG ?_|refine zF ?_|refine zH (by decide) ?_|refine zQ ?_|((first|refine zC ?_|refine zM ?_|refine zO rfl rfl ?_|refine zN rfl ?_|refine zL ?_);simp only [yq103.down,zA,lemS.down,lemC.down,zex,zew,zeu,reduceIte,zev,zey,zez,ze0,ze1,ze2,ze3,ze4,ze5,reduceCtorEq,lemH.down,hga,gna,eb,ec,ed,ee,ef,fl,hgg,gng,st,er,b0,ld,em,ei,eri,zBO,sti,Bool.not_true,Bool.not_false])))
   have eQ:zBw (r2,x) = (⟨r2.s,r2.pos,80⟩,zDM):=by simp [zBw,c0,c2]
   rw [eQ]
   have kw:Keeps (fun A=>A = R) h (gi.wr h.next [.int .u64 0,.string (strOf []),.string (strOf []),.string (strOf []),.slice none 0 0]):=(khh.trans ki (fun _ _ q=>q)).trans Keeps.wr (fun A hA e=>by omega)
   exact⟨.inr rfl,_,zA1 (a:=⟨h.next,0,none⟩) (by simp only [yq103.down,zA,lemS.down,lemC.down,zex,zew,zeu,reduceIte,zev,zey,zez,ze0,ze1,ze2,ze3,ze4,ze5,reduceCtorEq]) (vai.wr.loadAll rfl),.slice none 0 0,rfl,ri.keep Keeps.wr (by omega),Own.nil,⟨zz.1,rfl,zz.2.2⟩,kw⟩
 ·have b0:((r2.err:Int) == 0) = false:=by rw [beq_eq_false_iff_ne];omega
  have sti:=stz gh va3
  (repeat (first|refine zS ?_|refine zK ?_|refine zR ?_|refine zD ?_|refine zB ?_|refine zI ?_|refine zJ ?_|refine zP ?_|refine zE ?_|refine zG ?_|refine zF ?_|refine zH (by decide) ?_|refine zQ ?_|((first|refine zC ?_|refine zM ?_|refine zO rfl rfl ?_|refine zN rfl ?_|refine zL ?_);simp only [yq103.down,zA,lemS.down,lemC.down,zex,zew,zeu,reduceIte,zev,zey,zez,ze0,ze1,ze2,ze3,ze4,ze5,reduceCtorEq,lemH.down,hga,gna,eb,ec,ed,ee,ef,fl,hgg,gng,st,er,b0,zBO,sti,Bool.not_true,Bool.not_false])))
  have eQ:zBw (r2,x) = (r2,zDM):=by simp only [zBw,if_neg c0]
  rw [eQ]
  have kw:Keeps (fun A=>A = R) h (gh.wr h.next [.int .u64 0,.string (strOf []),.string (strOf []),.string (strOf []),.slice none 0 0]):=khh.trans Keeps.wr (fun A hA e=>by omega)
  exact⟨.inr rfl,_,zA1 (a:=⟨h.next,0,none⟩) (by simp only [yq103.down,zA,lemS.down,lemC.down,zex,zew,zeu,reduceIte,zev,zey,zez,ze0,ze1,ze2,ze3,ze4,ze5,reduceCtorEq]) (va3.wr.loadAll rfl),.slice none 0 0,rfl,rh.keep Keeps.wr (by omega),Own.nil,⟨zz.1,rfl,zz.2.2⟩,kw⟩
end Go.X
end
section
open Go Go.X
namespace Go.X
set_option linter.unusedVariables false
theorem Own.pushOp {g:Heap} {S:Nat→Prop} {v:Value} {n:Nat} {q:List OpV} (hO:Own g S 3 v n (zAh q)) (x:OpV) (hroom:(n + 1) * 40≤zU) :
  ∃ v' g',zA2 (g.new (zAT x)) 3 40 v (.slice (some ⟨g.next,0,none⟩) 1 1) = some (v',g')∧Own g' (fun A=>S A∨g.next≤A) 3 v' (n + 1) (zAh (q ++ [x]))∧Keeps S g g':=by
 have hO1:=hO.grow (Grows.new (l:=zAT x))
 have hs1:=(Var.new_self (h:=g) (l:=zAT x)).src (n:=1) (esz:=3) (bytes:=40) (s:=v) (sp:=none) (c:=1) rfl (by decide)
 obtain⟨v',g2,e2,hO2,k2⟩:=hO1.append (bytes:=40) (m:=1) (new:=zAT x) rfl rfl (by decide) (by decide) hroom
 have hk:Keeps S g g2:=(Keeps.new (W:=S)).trans k2 (fun _ _ e=>e)
 refine ⟨v',g2,by rw [hs1,e2],?_,hk⟩
 have e:zAh q ++ zAT x = zAh (q ++ [x]):=by rw [zax];simp [zAh]
 rw [e] at hO2
 exact hO2.mono fun A hA=>hA.imp id fun q=>by
  have:(g.new (zAT x)).next = g.next + 1:=rfl
  omega
def opR (r:RS):RS×OpV:=((z8 (z8 (zT r 1).1 32).1 64).1,(((zT r 1).2:Int),(z8 (zT r 1).1 32).2,(z8 (z8 (zT r 1).1 32).1 64).2))
def zAa:Nat→RS→List OpV→RS×List OpV
 | 0,r,acc=>(r,acc)
 | n + 1,r,acc=>if r.err = 0 then zAa n (opR r).1 (acc ++ [(opR r).2]) else (r,acc)
structure TxV where
 c:Nat
 n:Nat
 ops:List OpV
def zBG:TxV:=⟨0,0,[]⟩
def txX (r:RS):RS×TxV:=
 ((zAa (zc (zT (zT r 8).1 8).1 8).2 (zc (zT (zT r 8).1 8).1 8).1 []).1,⟨(zT r 8).2,(zT (zT r 8).1 8).2,(zAa (zc (zT (zT r 8).1 8).1 8).2 (zc (zT (zT r 8).1 8).1 8).1 []).2⟩)
def txQ (p:RS×TxV):RS×TxV:=if p.1.err = 0 then (if txE p.2.n p.2.ops = 0 then p else (⟨p.1.s,p.1.pos,40⟩,zBG)) else (p.1,zBG)
def txR (r:RS):RS×TxV:=txQ (txX r)
def zCk (x:TxV) (v:Value):List Value:=[.int .u64 (x.c:Int),.int .u64 (x.n:Int),v]
theorem zEB (r:RS) (m:Nat):(zc r m).2≤m:=by
 unfold zc
 split
 ·exact Nat.zero_le _
 ·split
  ·exact Nat.zero_le _
  ·omega
theorem zGi (r:RS) (m:Nat):(z8 r m).2.length≤m:=Nat.le_trans (zFp _ _) (zEB r m)
theorem opR_ok (r:RS):okO (opR r).2:=by
 have e:opR r = ((z8 (z8 (zT r 1).1 32).1 64).1,(((zT r 1).2:Int),(z8 (zT r 1).1 32).2,(z8 (z8 (zT r 1).1 32).1 64).2)):=rfl
 rw [e]
 have h1:=zGi (zT r 1).1 32
 have h2:=zGi (z8 (zT r 1).1 32).1 64
 generalize z8 (z8 (zT r 1).1 32).1 64 = y at *
 generalize z8 (zT r 1).1 32 = x at *
 exact⟨by show x.2.length≤_;omega,by show y.2.length≤_;omega⟩
structure TTab (pr:Prog):Prop where
 wire:zAL pr
 tx:zDS pr
 tk:pr.prim 107 = none
 tkC:pr.code 107 = some xq107
theorem TT_run {pr:Prog} (T:TTab pr) {h:Heap} {R:Nat} {r:RS} (hr:Rd h R r) :
  ∃ w h',cfi pr 107 [.pointer (some ⟨R,0,none⟩)] h = some (w,h')∧∃ v,w = .agg (zCk (txR r).2 v).toArray∧Rd h' R (txR r).1∧Own h' (fun A=>h.next≤A) 3 v (txR r).2.ops.length (zAh (txR r).2.ops)∧(∀ o ∈ (txR r).2.ops,okO o)∧(txR r).2.ops.length≤8∧Keeps (fun A=>A = R) h h':=by
 have hr64:zU = 140737488355328:=rfl
 refine zAA T.tk T.tkC rfl ?_
 unfold xq107
 dsimp only [zh]
 refine wpk.out (k:=[]) ?_
 have hR:R < h.next:=hr.2.1
 obtain⟨ga,hga,va,gga,gna⟩:=box5 (h:=h) [.int .u64 0,.int .u64 0,.slice none 0 0]
 obtain⟨gb,eb,rb,kb⟩:=zCA T.wire (hr.grow gga) 8 (by decide)
 have eb:cfi pr 89 [.pointer (some ⟨R,0,none⟩),.int .i64 8] ga = some (uw .u64 (zT r 8).2,gb):=eb
 obtain⟨gc,ec,rc,kc⟩:=zCA T.wire rb 8 (by decide)
 have ec:cfi pr 89 [.pointer (some ⟨R,0,none⟩),.int .i64 8] gb = some (uw .u64 (zT (zT r 8).1 8).2,gc):=ec
 rw [← zBJ (zC8 r (k:=8) (by decide))] at eb
 rw [← zBJ (zC8 _ (k:=8) (by decide))] at ec
 obtain⟨gd,hgd,vd,ggd,gnd⟩:=box5 (h:=gc) [.int .u64 0,.int .u64 0,.slice none 0 0]
 obtain⟨c,hc⟩:∃ c,(zT r 8).2 = c:=⟨_,rfl⟩
 obtain⟨n,hn⟩:∃ n,(zT (zT r 8).1 8).2 = n:=⟨_,rfl⟩
 obtain⟨rq,hq⟩:∃ rq,(zT (zT r 8).1 8).1 = rq:=⟨_,rfl⟩
 have eX:txX r = ((zAa (zc rq 8).2 (zc rq 8).1 []).1,⟨c,n,(zAa (zc rq 8).2 (zc rq 8).1 []).2⟩):=by unfold txX;rw [hc,hn,hq]
 rw [hc] at eb
 rw [hn] at ec
 rw [hq] at rc
 have fl:zAB [.int .u64 0,.int .u64 0,.slice none 0 0] [(0,1,.int .u64 (c:Int)),(1,1,.int .u64 (n:Int))] = some [.int .u64 (c:Int),.int .u64 (n:Int),.slice none 0 0]:=rfl
 have st:zn gd 3 (.pointer (some ⟨gc.next,0,none⟩)) (.agg [.int .u64 (c:Int),.int .u64 (n:Int),.slice none 0 0].toArray) = some (.tuple #[],gd.wr gc.next [.int .u64 (c:Int),.int .u64 (n:Int),.slice none 0 0]):=vd.storeAll rfl rfl (by decide) rfl
 obtain⟨ge,hge⟩:∃ ge,gd.wr gc.next [.int .u64 (c:Int),.int .u64 (n:Int),.slice none 0 0] = ge:=⟨_,rfl⟩
 have ve:Var ge gc.next [.int .u64 (c:Int),.int .u64 (n:Int),.slice none 0 0]:=by rw [← hge];exact vd.wr
 have kde:Keeps (fun A=>A = gc.next) gd ge:=by rw [← hge];exact Keeps.wr
 rw [hge] at st
 have kac:Keeps (fun A=>A = R) ga gc:=kb.trans kc (fun _ _ q=>q)
 have nac:=kac.next
 have nde:=kde.next
 have va2:=((va.keep kac (fun q=>by omega)).grow ggd).keep kde (fun q=>by omega)
 have re:=(rc.grow ggd).keep kde (fun q=>by omega)
 have khe:Keeps (fun A=>A = R) h ge:=((gga.keeps.trans kac (fun _ _ q=>q)).trans ggd.keeps (fun _ _ q=>q)).trans kde (fun A hA q=>by omega)
 obtain⟨gf,ef,rf,kf⟩:=zD3 T.wire re 8 (by decide)
 have ef:cfi pr 108 [.pointer (some ⟨R,0,none⟩),.int .i64 8] ge = some (.int .i64 ((zc rq 8).2:Int),gf):=ef
 have nef:=kf.next
 have hcm:=zEB rq 8
 obtain⟨B,hB⟩:∃ B,gc.next = B:=⟨_,rfl⟩
 rw [hB] at st ve gnd kde nac
 (repeat (first|refine zS ?_|refine zK ?_|refine zR ?_|refine zD ?_|refine zB ?_|refine zI ?_|refine zJ ?_|refine zP ?_|refine zE ?_|refine zG ?_|refine zF ?_|refine zH (by decide) ?_|refine zQ ?_|((first|refine zC ?_|refine zM ?_|refine zO rfl rfl ?_|refine zN rfl ?_|refine zL ?_);simp only [yq107.down,zA,lemS.down,lemC.down,zex,zew,zeu,reduceIte,zev,zey,zez,ze0,ze1,ze2,ze3,ze4,ze5,reduceCtorEq,lemH.down,hga,gna,eb,ec,fl,hgd,hB,st,ef])))
 have hBh:h.next < B:=by omega
 obtain⟨Z,hZ⟩:∃ Z,zAa (zc rq 8).2 (zc rq 8).1 [] = Z:=⟨_,rfl⟩
 have eZ:txR r = txQ (Z.1,⟨c,n,Z.2⟩):=by rw [txR,eX,hZ]
 refine zAG (fun m t g=>∃ r2 acc v,m + acc.length≤8∧zAa m r2 acc = Z∧Rd g R r2∧Own g (fun A=>B < A) 3 v acc.length (zAh acc)∧(∀ o ∈ acc,okO o)∧Var g h.next [.int .u64 0,.int .u64 0,.slice none 0 0]∧Var g B [.int .u64 (c:Int),.int .u64 (n:Int),v]∧Keeps (fun A=>A = R) h g∧B < g.next∧t.get 0 = .pointer (some ⟨R,0,none⟩)∧t.get 2 = .pointer (some ⟨h.next,0,none⟩)∧t.get 3 = .pointer (some ⟨B,0,none⟩)∧t.get 4 = .int .i64 (m:Int)) ?_ (zc rq 8).2 _ _
   ⟨_,[],_,by simp;omega,hZ,rf,Own.nil,by simp,va2.keep kf (fun q=>by omega),ve.keep kf (fun q=>by omega),khe.trans kf (fun _ _ q=>q),by omega,by simp only [yq107.down,zA,lemS.down,lemC.down,zex,zew,zeu,reduceIte,zev,zey,zez,ze0,ze1,ze2,ze3,ze4,ze5,reduceCtorEq],by simp only [yq107.down,zA,lemS.down,lemC.down,zex,zew,zeu,reduceIte,zev,zey,zez,ze0,ze1,ze2,ze3,ze4,ze5,reduceCtorEq],by simp only [yq107.down,zA,lemS.down,lemC.down,zex,zew,zeu,reduceIte,zev,zey,zez,ze0,ze1,ze2,ze3,ze4,ze5,reduceCtorEq],by simp only [yq107.down,zA,lemS.down,lemC.down,zex,zew,zeu,reduceIte,zev,zey,zez,ze0,ze1,ze2,ze3,ze4,ze5,reduceCtorEq]⟩
 clear hga va gga gna eb rb kb ec rc kc hgd vd ggd gnd hc hn hq eX fl st hge ve kde kac nac nde va2 re khe ef rf kf nef hcm hB hZ hr
 rintro m t g ⟨r2,acc,v,hm,hL,rd,oc,hin,vz,vb,kk,gn,t0,t2,t3,t4⟩ hnext
 refine xq107_6k ?_
 dsimp only [zJC]
 have er:=zAb T.wire rd
 obtain⟨av,cv,rfl,_⟩:=oc.shape
 have eM:zAa m r2 acc = (r2,acc)→txR r = txQ (r2,⟨c,n,acc⟩):=fun e=>by rw [eZ,← hL,e]
 have stz:∀ g,Var g h.next [.int .u64 0,.int .u64 0,.slice none 0 0]→zn g 3 (.pointer (some ⟨h.next,0,none⟩)) (.agg [.int .u64 0,.int .u64 0,.slice none 0 0].toArray) = some (.tuple #[],g.wr h.next [.int .u64 0,.int .u64 0,.slice none 0 0]):=fun g v=>v.storeAll rfl rfl (by decide) rfl
 have ld:∀ sp,g.loadN ⟨B,0,sp⟩ 3 = some [.int .u64 (c:Int),.int .u64 (n:Int),.slice av acc.length cv]:=fun sp=>vb.loadAll rfl
 cases m with
 | zero=>
  have eQ:=eM rfl
  by_cases c0:r2.err = 0
  ·have b0:((r2.err:Int) == 0) = true:=by rw [c0];rfl
   obtain⟨gg,em,gr⟩:=zKE (c:=(c:Int)) (n:=n) T.tx oc hin (by omega)
   by_cases c1:txE n acc = 0
   ·rw [c1] at em
    obtain⟨gi,ei,ri,ki⟩:=zDP T.wire (rd.grow gr) 0
    have ei:cfi pr 151 [.pointer (some ⟨R,0,none⟩),.int .i64 0] gg = some (.tuple #[],gi):=ei
    rw [if_pos c0] at ri
    have ri:Rd gi R r2:=by obtain⟨s,p,e⟩:=r2;simp only at c0;subst c0;exact ri
    have eri:=zAb T.wire ri
    have vbi:=(vb.grow gr).keep ki (fun q=>by omega)
    have vzi:=(vz.grow gr).keep ki (fun q=>by omega)
    have ldi:∀ sp,gi.loadN ⟨B,0,sp⟩ 3 = some [.int .u64 (c:Int),.int .u64 (n:Int),.slice av acc.length cv]:=fun sp=>vbi.loadAll rfl
    have sti:zn gi 3 (.pointer (some ⟨h.next,0,none⟩)) (.agg [.int .u64 (c:Int),.int .u64 (n:Int),.slice av acc.length cv].toArray) = some (.tuple #[],gi.wr h.next [.int .u64 (c:Int),.int .u64 (n:Int),.slice av acc.length cv]):=vzi.storeAll rfl rfl (by decide) rfl
    (repeat (first|refine zS ?_|refine zK ?_|refine zR ?_|refine zD ?_|refine zB ?_|refine zI ?_|refine zJ ?_|refine zP ?_|refine zE ?_|refine zG ?_|refine zF ?_|refine zH (by decide) ?_|refine zQ ?_|((first|refine zC ?_|refine zM ?_|refine zO rfl rfl ?_|refine zN rfl ?_|refine zL ?_);simp only [yq107.down,zA,lemS.down,lemC.down,zex,zew,zeu,reduceIte,zev,zey,zez,ze0,ze1,ze2,ze3,ze4,ze5,reduceCtorEq,lemH.down,t0,t2,t3,t4,zi,er,b0,ld,em,ei,eri,ldi,sti,Bool.not_true,Bool.not_false])))
    have eR:txR r = (r2,⟨c,n,acc⟩):=by rw [eQ];simp [txQ,c0,c1]
    rw [eR]
    refine ⟨.inr rfl,_,zA1 (a:=⟨h.next,0,none⟩) (by simp only [yq107.down,zA,lemS.down,lemC.down,zex,zew,zeu,reduceIte,zev,zey,zez,ze0,ze1,ze2,ze3,ze4,ze5,reduceCtorEq,t2]) (vzi.wr.loadAll rfl),_,rfl,ri.keep Keeps.wr (by omega),(((oc.grow gr).keep ki (fun A hA q=>by omega)).keep Keeps.wr (fun A hA q=>by omega)).mono (fun A hA=>by omega),hin,by show acc.length≤8;omega,((kk.trans gr.keeps (fun _ _ q=>q)).trans ki (fun _ _ q=>q)).trans Keeps.wr (fun A hA q=>by omega)⟩
   ·have c2:txE n acc = 40:=by
     unfold txE at c1 ⊢
     split
     ·rfl
     ·rename_i q;exact absurd (if_neg q) c1
    rw [c2] at em
    obtain⟨gi,ei,ri,ki⟩:=zDP T.wire (rd.grow gr) 40
    have ei:cfi pr 151 [.pointer (some ⟨R,0,none⟩),.int .i64 40] gg = some (.tuple #[],gi):=ei
    rw [if_pos c0] at ri
    have eri:=zAb T.wire ri
    have vzi:=(vz.grow gr).keep ki (fun q=>by omega)
    have sti:=stz gi vzi
    (repeat (first|refine zS ?_|refine zK ?_|refine zR ?_|refine zD ?_|refine zB ?_|refine zI ?_|refine zJ ?_|refine zP ?_|refine zE ?_|refine zG ?_|refine zF ?_|refine zH (by decide) ?_|refine zQ ?_|((first|refine zC ?_|refine zM ?_|refine zO rfl rfl ?_|refine zN rfl ?_|refine zL ?_);simp only [yq107.down,zA,lemS.down,lemC.down,zex,zew,zeu,reduceIte,zev,zey,zez,ze0,ze1,ze2,ze3,ze4,ze5,reduceCtorEq,lemH.down,t0,t2,t3,t4,zi,er,b0,ld,em,ei,eri,zBO,sti,Bool.not_true,Bool.not_false])))
    have eR:txR r = (⟨r2.s,r2.pos,40⟩,zBG):=by rw [eQ];simp [txQ,c0,c2]
    rw [eR]
    refine ⟨.inr rfl,_,zA1 (a:=⟨h.next,0,none⟩) (by simp only [yq107.down,zA,lemS.down,lemC.down,zex,zew,zeu,reduceIte,zev,zey,zez,ze0,ze1,ze2,ze3,ze4,ze5,reduceCtorEq,t2]) (vzi.wr.loadAll rfl),.slice none 0 0,rfl,ri.keep Keeps.wr (by omega),Own.nil,by simp [zBG],by simp [zBG],((kk.trans gr.keeps (fun _ _ q=>q)).trans ki (fun _ _ q=>q)).trans Keeps.wr (fun A hA q=>by omega)⟩
  ·have b0:((r2.err:Int) == 0) = false:=by rw [beq_eq_false_iff_ne];omega
   have sti:=stz g vz
   (repeat (first|refine zS ?_|refine zK ?_|refine zR ?_|refine zD ?_|refine zB ?_|refine zI ?_|refine zJ ?_|refine zP ?_|refine zE ?_|refine zG ?_|refine zF ?_|refine zH (by decide) ?_|refine zQ ?_|((first|refine zC ?_|refine zM ?_|refine zO rfl rfl ?_|refine zN rfl ?_|refine zL ?_);simp only [yq107.down,zA,lemS.down,lemC.down,zex,zew,zeu,reduceIte,zev,zey,zez,ze0,ze1,ze2,ze3,ze4,ze5,reduceCtorEq,lemH.down,t0,t2,t3,t4,zi,er,b0,zBO,sti,Bool.not_true,Bool.not_false])))
   have eR:txR r = (r2,zBG):=by rw [eQ];simp [txQ,c0]
   rw [eR]
   refine ⟨.inr rfl,_,zA1 (a:=⟨h.next,0,none⟩) (by simp only [yq107.down,zA,lemS.down,lemC.down,zex,zew,zeu,reduceIte,zev,zey,zez,ze0,ze1,ze2,ze3,ze4,ze5,reduceCtorEq,t2]) (vz.wr.loadAll rfl),.slice none 0 0,rfl,rd.keep Keeps.wr (by omega),Own.nil,by simp [zBG],by simp [zBG],kk.trans Keeps.wr (fun A hA q=>by omega)⟩
 | succ m=>
  have d0:decide (((m + 1:Nat):Int) > 0) = true:=decide_eq_true (by omega)
  by_cases c0:r2.err = 0
  ·have b0:((r2.err:Int) == 0) = true:=by rw [c0];rfl
   have hoo:=opR_ok r2
   have hn2:=zBm r2
   obtain⟨g1,e1,rd1,k1⟩:=zCA T.wire rd 1 (by decide)
   obtain⟨a,ha⟩:∃ a,zT r2 1 = a:=⟨_,rfl⟩
   have e1:cfi pr 89 [.pointer (some ⟨R,0,none⟩),.int .i64 1] g = some (uw .u64 (zT r2 1).2,g1):=e1
   rw [ha] at e1 rd1 hn2
   have ci:=ci64 (n:=a.2) (by omega)
   obtain⟨g2,e2,rd2,k2⟩:=zFc T.wire rd1 32 (by omega)
   obtain⟨b,hb⟩:∃ b,z8 a.1 32 = b:=⟨_,rfl⟩
   rw [hb] at e2 rd2
   have e2:cfi pr 87 [.pointer (some ⟨R,0,none⟩),.int .i64 32] g1 = some (.string (strOf b.2),g2):=e2
   obtain⟨g3,e3,rd3,k3⟩:=zFc T.wire rd2 64 (by omega)
   obtain⟨d,hd⟩:∃ d,z8 b.1 64 = d:=⟨_,rfl⟩
   rw [hd] at e3 rd3
   have e3:cfi pr 87 [.pointer (some ⟨R,0,none⟩),.int .i64 64] g2 = some (.string (strOf d.2),g3):=e3
   have eo:opR r2 = (d.1,((a.2:Int),b.2,d.2)):=by unfold opR;rw [ha,hb,hd]
   rw [eo] at hoo
   have hL2:zAa m d.1 (acc ++ [((a.2:Int),b.2,d.2)]) = Z:=by
    rw [← hL]
    conv=>rhs;unfold zAa
    rw [if_pos c0,eo]
   clear ha hb hd eo
   have k12:Keeps (fun A=>A = R) g g2:=k1.trans k2 (fun _ _ q=>q)
   have k13:Keeps (fun A=>A = R) g g3:=k12.trans k3 (fun _ _ q=>q)
   have oc3:=oc.keep k13 (fun A hA q=>by omega)
   obtain⟨v2,g4,e4,oc4,k4⟩:=oc3.pushOp ((a.2:Int),b.2,d.2) (by omega)
   have e4:zA2 (g3.new [.int .i64 (a.2:Int),.string (strOf b.2),.string (strOf d.2)]) 3 40 (.slice av acc.length cv) (.slice (some ⟨g3.next,0,none⟩) 1 1) = some (v2,g4):=e4
   have n13:=k13.next
   have n4:=k4.next
   have l0:∀ sp,g.load ⟨B,2,sp⟩ = some (.slice av acc.length cv):=fun sp=>vb.load
   have vb1:=vb.keep k1 (fun q=>by omega)
   have vb2:=vb.keep k12 (fun q=>by omega)
   have vb3:=vb.keep k13 (fun q=>by omega)
   have l1:∀ sp,g1.load ⟨B,2,sp⟩ = some (.slice av acc.length cv):=fun sp=>vb1.load
   have l2:∀ sp,g2.load ⟨B,2,sp⟩ = some (.slice av acc.length cv):=fun sp=>vb2.load
   have l3:∀ sp,(g3.new [.int .i64 (a.2:Int),.string (strOf b.2),.string (strOf d.2)]).load ⟨B,2,sp⟩ = some (.slice av acc.length cv):=fun sp=>(vb3.grow Grows.new).load
   have l3':∀ sp,g3.load ⟨B,2,sp⟩ = some (.slice av acc.length cv):=fun sp=>vb3.load
   have vb4:=vb3.keep k4 (fun q=>by omega)
   have vz4:=(vz.keep k13 (fun q=>by omega)).keep k4 (fun q=>by omega)
   have st4:zn g4 1 (.pointer (some ⟨B,2,none⟩)) v2 = some (.tuple #[],g4.wr B [.int .u64 (c:Int),.int .u64 (n:Int),v2]):=oc4.store vb4 (by show 2 < 3;decide)
   have fl1:zAB [.int .i64 0,.string (strOf []),.string (strOf [])] [(0,1,.int .i64 (a.2:Int)),(1,1,.string (strOf b.2)),(2,1,.string (strOf d.2))] = some [.int .i64 (a.2:Int),.string (strOf b.2),.string (strOf d.2)]:=rfl
   have fl2:zAB [.int .i64 0,.string (strOf []),.string (strOf [])] [(0,3,.agg [.int .i64 (a.2:Int),.string (strOf b.2),.string (strOf d.2)].toArray)] = some [.int .i64 (a.2:Int),.string (strOf b.2),.string (strOf d.2)]:=rfl
   have wn:IntKind.i64.wrap (((m + 1:Nat):Int) - 1) = (m:Int):=by rw [wrap_i64 (by omega) (by omega)];omega
   (repeat (first|refine zS ?_|refine zK ?_|refine zR ?_|refine zD ?_|refine zB ?_|refine zI ?_|refine zJ ?_|refine zP ?_|refine zE ?_|refine zG ?_|refine zF ?_|refine zH (by decide) ?_|refine zQ ?_|((first|refine zC ?_|refine zM ?_|refine zO rfl rfl ?_|refine zN rfl ?_|refine zL ?_);simp only [yq107.down,zA,lemS.down,lemC.down,zex,zew,zeu,reduceIte,zev,zey,zez,ze0,ze1,ze2,ze3,ze4,ze5,reduceCtorEq,lemH.down,t0,t2,t3,t4,d0,zi,er,b0,l0,e1,ci,e2,e3,fl1,fl2,e4,st4,wn])))
   refine ⟨?_,?_,?_,?_⟩
   ·(refine zBb rfl rfl rfl ?_ ?_<;>simp only [yq107.down,zA,lemS.down,lemC.down,zex,zew,zeu,reduceIte,zev,zey,zez,ze0,ze1,ze2,ze3,ze4,ze5,reduceCtorEq,l1,l0,zBV,zBQ,zBW,zBR,zBH,Option.isSome_some])
   ·(refine zBb rfl rfl rfl ?_ ?_<;>simp only [yq107.down,zA,lemS.down,lemC.down,zex,zew,zeu,reduceIte,zev,zey,zez,ze0,ze1,ze2,ze3,ze4,ze5,reduceCtorEq,l2,l0,zBV,zBQ,zBW,zBR,zBH,Option.isSome_some])
   ·(refine zBb rfl rfl rfl ?_ ?_<;>simp only [yq107.down,zA,lemS.down,lemC.down,zex,zew,zeu,reduceIte,zev,zey,zez,ze0,ze1,ze2,ze3,ze4,ze5,reduceCtorEq,l3,l0,zBV,zBQ,zBW,zBR,zBH,Option.isSome_some])
   (repeat (first|refine zS ?_|refine zK ?_|refine zR ?_|refine zD ?_|refine zB ?_|refine zI ?_|refine zJ ?_|refine zP ?_|refine zE ?_|refine zG ?_|refine zF ?_|refine zH (by decide) ?_|refine zQ ?_|((first|refine zC ?_|refine zM ?_|refine zO rfl rfl ?_|refine zN rfl ?_|refine zL ?_);simp only [yq107.down,zA,lemS.down,lemC.down,zex,zew,zeu,reduceIte,zev,zey,zez,ze0,ze1,ze2,ze3,ze4,ze5,reduceCtorEq,lemH.down,t0,t2,t3,t4,wn,st4])))
   refine hnext m _ _ (Nat.lt_succ_self m) ⟨d.1,acc ++ [((a.2:Int),b.2,d.2)],v2,by simp;omega,hL2,(rd3.keep k4 (fun q=>by omega)).keep Keeps.wr (by omega),?_,?_,vz4.wr_ne (by omega),vb4.wr,((kk.trans k13 (fun _ _ q=>q)).trans k4 (fun A hA q=>by omega)).trans Keeps.wr (fun A hA q=>by omega),by show B < g4.next;omega,by simp only [yq107.down,zA,lemS.down,lemC.down,zex,zew,zeu,reduceIte,zev,zey,zez,ze0,ze1,ze2,ze3,ze4,ze5,reduceCtorEq,t0],by simp only [yq107.down,zA,lemS.down,lemC.down,zex,zew,zeu,reduceIte,zev,zey,zez,ze0,ze1,ze2,ze3,ze4,ze5,reduceCtorEq,t2],by simp only [yq107.down,zA,lemS.down,lemC.down,zex,zew,zeu,reduceIte,zev,zey,zez,ze0,ze1,ze2,ze3,ze4,ze5,reduceCtorEq,t3],by (simp only [yq107.down,zA,lemS.down,lemC.down,zex,zew,zeu,reduceIte,zev,zey,zez,ze0,ze1,ze2,ze3,ze4,ze5,reduceCtorEq])<;>rfl⟩
   ·rw [List.length_append]
    exact (oc4.bound.keep (Keeps.wr (A:=B)) (fun A hA q=>by have:=hA.1;omega)).mono fun A hA=>by have:=hA.1;omega
   ·intro x hx
    rcases List.mem_append.1 hx with q|q
    ·exact hin x q
    ·rw [List.mem_singleton.1 q];exact hoo
  ·have b0:((r2.err:Int) == 0) = false:=by rw [beq_eq_false_iff_ne];omega
   have eQ:=eM (by unfold zAa;rw [if_neg c0])
   have sti:=stz g vz
   (repeat (first|refine zS ?_|refine zK ?_|refine zR ?_|refine zD ?_|refine zB ?_|refine zI ?_|refine zJ ?_|refine zP ?_|refine zE ?_|refine zG ?_|refine zF ?_|refine zH (by decide) ?_|refine zQ ?_|((first|refine zC ?_|refine zM ?_|refine zO rfl rfl ?_|refine zN rfl ?_|refine zL ?_);simp only [yq107.down,zA,lemS.down,lemC.down,zex,zew,zeu,reduceIte,zev,zey,zez,ze0,ze1,ze2,ze3,ze4,ze5,reduceCtorEq,lemH.down,t0,t2,t3,t4,d0,zi,er,b0,zBO,sti,Bool.not_true,Bool.not_false])))
   have eR:txR r = (r2,zBG):=by rw [eQ];simp [txQ,c0]
   rw [eR]
   refine ⟨.inr rfl,_,zA1 (a:=⟨h.next,0,none⟩) (by simp only [yq107.down,zA,lemS.down,lemC.down,zex,zew,zeu,reduceIte,zev,zey,zez,ze0,ze1,ze2,ze3,ze4,ze5,reduceCtorEq,t2]) (vz.wr.loadAll rfl),.slice none 0 0,rfl,rd.keep Keeps.wr (by omega),Own.nil,by simp [zBG],by simp [zBG],kk.trans Keeps.wr (fun A hA q=>by omega)⟩
end Go.X
end
section
open Go Go.X
namespace Go.X
set_option linter.unusedVariables false
theorem WrS.apart {S:Nat→Prop} {h g:Heap} {W:Nat} {b:List UInt8} (hw:WrS h W S b) (gg:Grows h g):WrS g W (fun A=>S A∧A≠h.next) b:=by
 obtain⟨sw,u,vw,ow⟩:=hw
 refine ⟨⟨sw,fun e=>?_⟩,u,vw.grow gg,?_⟩
 ·have:=vw.1
  omega
 ·refine (ow.bound.grow gg).mono fun A hB=>⟨⟨hB.1.1,?_⟩,hB.1.2⟩
  have:=hB.2
  omega
def zCQ (s:List UInt8):List UInt8:=numB s.length 4 ++ s
def opB (o:OpV):List UInt8:=numB (w64 o.1) 1 ++ zCQ o.2.1 ++ zCQ o.2.2
def opsB (l:List OpV):List UInt8:=l.flatMap opB
def txB (c n:Nat) (l:List OpV):List UInt8:=numB c 8 ++ numB n 8 ++ numB l.length 4 ++ opsB l
theorem zcz (s:List UInt8):(zCQ s).length = 4 + s.length:=by simp [zCQ,zAH]
theorem opB_len {o:OpV} (h:o.2.1.length≤32∧o.2.2.length≤64):(opB o).length≤105:=by
 simp only [opB,List.length_append,zcz,zAH];omega
theorem zIL:∀ {l:List OpV},(∀ o ∈ l,o.2.1.length≤32∧o.2.2.length≤64)→(opsB l).length≤l.length * 105
 | [],_=>by simp [opsB]
 | o :: l,h=>by
  have h1:=opB_len (h o List.mem_cons_self)
  have h2:=zIL (l:=l) fun x hx=>h x (List.mem_cons_of_mem _ hx)
  have e:opsB (o :: l) = opB o ++ opsB l:=by simp [opsB]
  rw [e,List.length_append,List.length_cons];omega
theorem zcE {l:List OpV} {i:Nat} (hi:i < l.length):opsB (l.take (i + 1)) = opsB (l.take i) ++ opB (l.getD i (0,[],[])):=by
 rw [List.take_succ_eq_append_getElem hi,List.getD_eq_getElem?_getD,List.getElem?_eq_getElem hi]
 simp only [opsB,List.flatMap_append,List.flatMap_cons,List.flatMap_nil,List.append_nil,Option.getD_some]
structure TPTab (pr:Prog):Prop where
 wire:zAL pr
 tp:pr.prim 120 = none
 tpC:pr.code 120 = some xq120
theorem TPutS {pr:Prog} (T:TPTab pr) {h:Heap} {W:Nat} {S So:Nat→Prop} {b:List UInt8} (hw:WrS h W S b) (hS:∀ A,h.next≤A→S A) {c n:Nat} (hc:c < 18446744073709551616) (hn:n < 18446744073709551616) {v:Value} {l:List OpV} (ho:Own h So 3 v l.length (zAh l)) (hSo:∀ A,A < h.next→So A→¬ S A) (hlen:l.length≤8) (hl:∀ o ∈ l,o.2.1.length≤32∧o.2.2.length≤64) (hroom:b.length + 2000≤zU) :
  ∃ h',cfi pr 120 [.pointer (some ⟨W,0,none⟩),.agg (zCk ⟨c,n,l⟩ v).toArray] h = some (.tuple #[],h')∧WrS h' W S (b ++ txB c n l)∧Keeps S h h':=by
 have hr64:zU = 140737488355328:=rfl
 have:∃ w h',cfi pr 120 [.pointer (some ⟨W,0,none⟩),.agg (zCk ⟨c,n,l⟩ v).toArray] h = some (w,h')∧w = .tuple #[]∧WrS h' W S (b ++ txB c n l)∧Keeps S h h':=by
  refine zAA T.tp T.tpC rfl ?_
  unfold xq120
  dsimp only [zh]
  refine wpk.out (k:=[]) ?_
  obtain⟨a,cap,rfl,_⟩:=ho.shape
  obtain⟨g,hg,vg,gg,gn⟩:=box5 (h:=h) (zCk ⟨c,n,l⟩ (.slice a l.length cap))
  have vg:Var g h.next [.int .u64 (c:Int),.int .u64 (n:Int),.slice a l.length cap]:=vg
  have l0:∀ sp,g.load ⟨h.next,0,sp⟩ = some (uw .u64 c):=fun sp=>by rw [← zBJ hc];exact vg.load
  have hSg:∀ A,g.next≤A→S A∧A≠h.next:=fun A hA=>⟨hS A (by omega),by omega⟩
  obtain⟨h1,e1,w1,k1⟩:=zCB T.wire (hw.apart gg) hSg c 8 hc (by decide) (by omega)
  have e1:cfi pr 78 [.pointer (some ⟨W,0,none⟩),uw .u64 c,.int .i64 8] g = some (.tuple #[],h1):=e1
  have v1:=vg.keep k1 (fun q=>q.2 rfl)
  have l1:∀ sp,h1.load ⟨h.next,1,sp⟩ = some (uw .u64 n):=fun sp=>by rw [← zBJ hn];exact v1.load
  have n1:=k1.next
  obtain⟨h2,e2,w2,k2⟩:=zCB T.wire w1 (fun A hA=>hSg A (by omega)) n 8 hn (by decide) (by rw [List.length_append,zAH];omega)
  have e2:cfi pr 78 [.pointer (some ⟨W,0,none⟩),uw .u64 n,.int .i64 8] h1 = some (.tuple #[],h2):=e2
  have v2:=v1.keep k2 (fun q=>q.2 rfl)
  have l2:∀ sp,h2.load ⟨h.next,2,sp⟩ = some (.slice a l.length cap):=fun sp=>v2.load
  have n2:=k2.next
  obtain⟨h3,e3,w3,k3⟩:=zD4 T.wire w2 (fun A hA=>hSg A (by omega)) l.length (by omega) (by simp only [List.length_append,zAH];omega)
  have v3:=v2.keep k3 (fun q=>q.2 rfl)
  have l3:∀ sp,h3.load ⟨h.next,2,sp⟩ = some (.slice a l.length cap):=fun sp=>v3.load
  have n3:=k3.next
  have k03:Keeps (fun A=>S A∧A≠h.next) g h3:=(k1.trans k2 (fun _ _ q=>q)).trans k3 (fun _ _ q=>q)
  have o3:=(ho.bound.grow gg).keep k03 (fun A hA q=>hSo A hA.2 hA.1 q.1)
  (repeat (first|refine zS ?_|refine zK ?_|refine zR ?_|refine zD ?_|refine zB ?_|refine zI ?_|refine zJ ?_|refine zP ?_|refine zE ?_|refine zG ?_|refine zF ?_|refine zH (by decide) ?_|refine zQ ?_|((first|refine zC ?_|refine zM ?_|refine zO rfl rfl ?_|refine zN rfl ?_|refine zL ?_);simp only [yq120.down,zA,lemS.down,lemC.down,zex,zew,zeu,reduceIte,zev,zey,zez,ze0,ze1,ze2,ze3,ze4,ze5,reduceCtorEq,lemH.down,hg,l0,e1,l1,e2,l2,e3,l3,Nat.add_zero])))
  refine zAG (fun m t g'=>∃ i,m = l.length - i∧i≤l.length∧WrS g' W (fun A=>S A∧A≠h.next) (b ++ numB c 8 ++ numB n 8 ++ numB l.length 4 ++ opsB (l.take i))∧Keeps (fun A=>S A∧A≠h.next) h3 g'∧t.get 0 = .pointer (some ⟨W,0,none⟩)∧t.get 20 = .slice a l.length cap∧t.get 21 = .int .i64 (l.length:Int)∧t.get 22 = .int .i64 (i:Int)) ?_ l.length _ _ ⟨0,rfl,by omega,by simpa [opsB] using w3,Keeps.refl,by simp only [yq120.down,zA,lemS.down,lemC.down,zex,zew,zeu,reduceIte,zev,zey,zez,ze0,ze1,ze2,ze3,ze4,ze5,reduceCtorEq],by simp only [yq120.down,zA,lemS.down,lemC.down,zex,zew,zeu,reduceIte,zev,zey,zez,ze0,ze1,ze2,ze3,ze4,ze5,reduceCtorEq],by simp only [yq120.down,zA,lemS.down,lemC.down,zex,zew,zeu,reduceIte,zev,zey,zez,ze0,ze1,ze2,ze3,ze4,ze5,reduceCtorEq],by (simp only [yq120.down,zA,lemS.down,lemC.down,zex,zew,zeu,reduceIte,zev,zey,zez,ze0,ze1,ze2,ze3,ze4,ze5,reduceCtorEq])<;>rfl⟩
  have hb3:∀ i,i≤l.length→(opsB (l.take i)).length≤840:=fun i hi=>by
   have:=zIL (l:=l.take i) fun o ho=>hl o (List.mem_of_mem_take ho)
   rw [List.length_take] at this
   omega
  rintro m t g' ⟨i,rfl,hi,gw,gk,t0,t20,t21,t22⟩ hnext
  refine zdM ?_
  dsimp only [zJF]
  (repeat (first|refine zS ?_|refine zK ?_|refine zR ?_|refine zD ?_|refine zB ?_|refine zI ?_|refine zJ ?_|refine zP ?_|refine zE ?_|refine zG ?_|refine zF ?_|refine zH (by decide) ?_|refine zQ ?_|((first|refine zC ?_|refine zM ?_|refine zO rfl rfl ?_|refine zN rfl ?_|refine zL ?_);simp only [yq120.down,zA,lemS.down,lemC.down,zex,zew,zeu,reduceIte,zev,zey,zez,ze0,ze1,ze2,ze3,ze4,ze5,reduceCtorEq,lemH.down,t0,t20,t21,t22])))
  refine ⟨fun hlt=>?_,fun hge=>?_⟩
  ·have hi':i < l.length:=by omega
   have kn:=gk.next
   have og:=o3.keep gk (fun A hA q=>hSo A hA.2 hA.1 q.1)
   obtain⟨B,o,ia,ld⟩:=og.at hi'
   have ld:=ld g' og
   rw [zHL l i hi'] at ld
   have hm:l.getD i (0,[],[]) ∈ l:=by rw [List.getD_eq_getElem?_getD,List.getElem?_eq_getElem hi'];exact List.getElem_mem hi'
   have hlx:=hl _ hm
   have eB:=zcE hi'
   have hb:=hb3 i hi
   obtain⟨x,ex⟩:∃ x,l.getD i (0,[],[]) = x:=⟨_,rfl⟩
   rw [ex] at ld hlx eB
   obtain⟨kx,key,val⟩:=x
   have hk:key.length≤32:=hlx.1
   have hv:val.length≤64:=hlx.2
   have ww:IntKind.i64.wrap ((i:Int) + 1) = ((i + 1:Nat):Int):=by rw [wrap_i64 (by omega) (by omega)];omega
   have cm:=zHQ kx
   obtain⟨q1,hq1,vq1,gq1,nq1⟩:=box5 (h:=g') [.int .i64 0,.string (strOf []),.string (strOf [])]
   have st1:zn q1 3 (.pointer (some ⟨g'.next,0,none⟩)) (.agg (zAT (kx,key,val)).toArray) = some (.tuple #[],q1.wr g'.next (zAT (kx,key,val))):=vq1.storeAll rfl rfl (by decide) rfl
   obtain⟨q2,hq2⟩:∃ q2,q1.wr g'.next (zAT (kx,key,val)) = q2:=⟨_,rfl⟩
   have vq2:Var q2 g'.next (zAT (kx,key,val)):=by rw [← hq2];exact vq1.wr
   have kq:Keeps (fun A=>A = g'.next) q1 q2:=by rw [← hq2];exact Keeps.wr
   have nq2:=kq.next
   rw [hq2] at st1
   have la:∀ sp,q2.load ⟨g'.next,0,sp⟩ = some (.int .i64 kx):=fun sp=>vq2.load
   have gw2:WrS q2 W (fun A=>(S A∧A≠h.next)∧A≠g'.next) (b ++ numB c 8 ++ numB n 8 ++ numB l.length 4 ++ opsB (l.take i)):=(gw.apart gq1).keep kq (fun A hA q=>hA.2 q)
   have hS2:∀ A,q2.next≤A→(S A∧A≠h.next)∧A≠g'.next:=fun A hA=>⟨hSg A (by omega),by omega⟩
   obtain⟨g3,e3,w3,k3⟩:=zCB T.wire gw2 hS2 (w64 kx) 1 (zGo _) (by decide) (by simp only [List.length_append,zAH];omega)
   have e3:cfi pr 78 [.pointer (some ⟨W,0,none⟩),uw .u64 (w64 kx),.int .i64 1] q2 = some (.tuple #[],g3):=e3
   have vq3:=vq2.keep k3 (fun q=>q.2 rfl)
   have lb:∀ sp,g3.load ⟨g'.next,1,sp⟩ = some (.string (strOf key)):=fun sp=>vq3.load
   have m3:=k3.next
   obtain⟨g4,e4,w4,k4⟩:=zFd T.wire w3 (fun A hA=>hS2 A (by omega)) key (by simp only [List.length_append,zAH];omega)
   have vq4:=vq3.keep k4 (fun q=>q.2 rfl)
   have lc:∀ sp,g4.load ⟨g'.next,2,sp⟩ = some (.string (strOf val)):=fun sp=>vq4.load
   have m4:=k4.next
   obtain⟨g5,e5,w5,k5⟩:=zFd T.wire w4 (fun A hA=>hS2 A (by omega)) val (by simp only [List.length_append,zAH];omega)
   (repeat (first|refine zS ?_|refine zK ?_|refine zR ?_|refine zD ?_|refine zB ?_|refine zI ?_|refine zJ ?_|refine zP ?_|refine zE ?_|refine zG ?_|refine zF ?_|refine zH (by decide) ?_|refine zQ ?_|((first|refine zC ?_|refine zM ?_|refine zO rfl rfl ?_|refine zN rfl ?_|refine zL ?_);simp only [yq120.down,zA,lemS.down,lemC.down,zex,zew,zeu,reduceIte,zev,zey,zez,ze0,ze1,ze2,ze3,ze4,ze5,reduceCtorEq,lemH.down,t0,t20,t21,t22,zAs,ia,ld,hq1,st1,la,Nat.add_zero,cm,e3,lb,e4,lc,e5,ww])))
   refine hnext (l.length - (i + 1)) _ g5 (by omega) ⟨i + 1,rfl,by omega,?_,?_,by simp only [yq120.down,zA,lemS.down,lemC.down,zex,zew,zeu,reduceIte,zev,zey,zez,ze0,ze1,ze2,ze3,ze4,ze5,reduceCtorEq,t0],by simp only [yq120.down,zA,lemS.down,lemC.down,zex,zew,zeu,reduceIte,zev,zey,zez,ze0,ze1,ze2,ze3,ze4,ze5,reduceCtorEq,t20],by simp only [yq120.down,zA,lemS.down,lemC.down,zex,zew,zeu,reduceIte,zev,zey,zez,ze0,ze1,ze2,ze3,ze4,ze5,reduceCtorEq,t21],by simp only [yq120.down,zA,lemS.down,lemC.down,zex,zew,zeu,reduceIte,zev,zey,zez,ze0,ze1,ze2,ze3,ze4,ze5,reduceCtorEq]⟩
   ·have e:b ++ numB c 8 ++ numB n 8 ++ numB l.length 4 ++ opsB (l.take (i + 1)) = b ++ numB c 8 ++ numB n 8 ++ numB l.length 4 ++ opsB (l.take i) ++ numB (w64 kx) 1 ++ numB key.length 4 ++ key ++ numB val.length 4 ++ val:=by
     rw [eB];simp only [opB,zCQ,List.append_assoc]
    rw [e]
    exact w5.mono fun A _ hA=>hA.1
   ·have k25:Keeps (fun A=>(S A∧A≠h.next)∧A≠g'.next) q2 g5:=(k3.trans k4 (fun _ _ q=>q)).trans k5 (fun _ _ q=>q)
    have kA:Keeps (fun A=>S A∧A≠h.next) g' q2:=gq1.keeps.trans kq (fun A hA q=>by omega)
    exact (gk.trans kA (fun _ _ q=>q)).trans (k25.mono fun A _ q=>q.1) (fun _ _ q=>q)
  ·obtain rfl:i = l.length:=by omega
   (repeat (first|refine zS ?_|refine zK ?_|refine zR ?_|refine zD ?_|refine zB ?_|refine zI ?_|refine zJ ?_|refine zP ?_|refine zE ?_|refine zG ?_|refine zF ?_|refine zH (by decide) ?_|refine zQ ?_|((first|refine zC ?_|refine zM ?_|refine zO rfl rfl ?_|refine zN rfl ?_|refine zL ?_);simp only [yq120.down,zA,lemS.down,lemC.down,zex,zew,zeu,reduceIte,zev,zey,zez,ze0,ze1,ze2,ze3,ze4,ze5,reduceCtorEq,lemH.down,t0,t20,t21,t22])))
   refine ⟨.inl rfl,_,rfl,rfl,?_,?_⟩
   ·have e:b ++ txB c n l = b ++ numB c 8 ++ numB n 8 ++ numB l.length 4 ++ opsB l:=by simp only [txB,List.append_assoc]
    rw [List.take_length] at gw
    rw [e]
    exact gw.mono fun A _ hA=>hA.1
   ·exact ((gg.keeps (W:=S)).trans (k03.mono fun A _ q=>q.1) (fun _ _ q=>q)).trans (gk.mono fun A _ q=>q.1) (fun _ _ q=>q)
 obtain⟨w,h',e,rfl,r⟩:=this
 exact⟨h',e,r⟩
end Go.X
end
section
open Go Go.X
namespace Go.X
set_option linter.unusedVariables false
theorem Own.pushS {g:Heap} {S:Nat→Prop} {v:Value} {n:Nat} {q:List (List UInt8)} (hO:Own g S 1 v n (zAj q)) (x:List UInt8) (hroom:(n + 1) * 16≤zU) :
  ∃ v' g',zA2 (g.new [.string (strOf x)]) 1 16 v (.slice (some ⟨g.next,0,none⟩) 1 1) = some (v',g')∧Own g' (fun A=>S A∨g.next≤A) 1 v' (n + 1) (zAj (q ++ [x]))∧Keeps S g g':=by
 have hO1:=hO.grow (Grows.new (l:=[.string (strOf x)]))
 have hs1:=(Var.new_self (h:=g) (l:=[.string (strOf x)])).src (n:=1) (esz:=1) (bytes:=16) (s:=v) (sp:=none) (c:=1) rfl (by decide)
 obtain⟨v',g2,e2,hO2,k2⟩:=hO1.append (bytes:=16) (m:=1) (new:=[.string (strOf x)]) rfl rfl (by decide) (by decide) hroom
 have hk:Keeps S g g2:=(Keeps.new (W:=S)).trans k2 (fun _ _ e=>e)
 refine ⟨v',g2,by rw [hs1,e2],?_,hk⟩
 have e:zAj q ++ [.string (strOf x)] = zAj (q ++ [x]):=by simp [zAj]
 rw [e] at hO2
 exact hO2.mono fun A hA=>hA.imp id fun q=>by
  have:(g.new [.string (strOf x)]).next = g.next + 1:=rfl
  omega
def zAW:Nat→RS→List (List UInt8)→RS×List (List UInt8)
 | 0,r,acc=>(r,acc)
 | n + 1,r,acc=>if r.err = 0 then zAW n (zX r 32).1 (acc ++ [(zX r 32).2]) else (r,acc)
structure PfV where
 beside:List (List UInt8)
 has:Bool
 path:List UInt8
 value:List UInt8
def zEj:PfV:=⟨[],false,[],[]⟩
def pfY (p:RS×List (List UInt8)):RS×PfV:=
 if (zAe p.1).2 = true then ((zX (zX (zAe p.1).1 32).1 32).1,⟨p.2,true,(zX (zAe p.1).1 32).2,(zX (zX (zAe p.1).1 32).1 32).2⟩) else ((zAe p.1).1,⟨p.2,false,[],[]⟩)
def pfQ (p:RS×PfV):RS×PfV:=if p.1.err = 0 then p else (p.1,zEj)
def pfR (r:RS):RS×PfV:=pfQ (pfY (zAW (zc r 256).2 (zc r 256).1 []))
def zDD (x:PfV) (v:Value):List Value:=[v,.bool x.has,.string (strOf x.path),.string (strOf x.value)]
structure PFTab (pr:Prog):Prop where
 wire:zAL pr
 bool:zDN pr
 tk:pr.prim 106 = none
 tkC:pr.code 106 = some xq106
theorem TP_run {pr:Prog} (T:PFTab pr) {h:Heap} {R:Nat} {r:RS} (hr:Rd h R r) :
  ∃ w h',cfi pr 106 [.pointer (some ⟨R,0,none⟩)] h = some (w,h')∧∃ v,w = .agg (zDD (pfR r).2 v).toArray∧Rd h' R (pfR r).1∧Own h' (fun A=>h.next≤A) 1 v (pfR r).2.beside.length (zAj (pfR r).2.beside)∧(pfR r).2.beside.length≤256∧Keeps (fun A=>A = R) h h':=by
 have hr64:zU = 140737488355328:=rfl
 refine zAA T.tk T.tkC rfl ?_
 unfold xq106
 dsimp only [zh]
 refine wpk.out (k:=[]) ?_
 have hR:R < h.next:=hr.2.1
 obtain⟨ga,hga,va,gga,gna⟩:=box5 (h:=h) [.slice none 0 0,.bool false,.string (strOf []),.string (strOf [])]
 obtain⟨gb,hgb,vb,ggb,gnb⟩:=box5 (h:=ga) [.slice none 0 0,.bool false,.string (strOf []),.string (strOf [])]
 obtain⟨gf,ef,rf,kf⟩:=zD3 T.wire (hr.grow (gga.trans ggb)) 256 (by decide)
 have ef:cfi pr 108 [.pointer (some ⟨R,0,none⟩),.int .i64 256] gb = some (.int .i64 ((zc r 256).2:Int),gf):=ef
 have nf:=kf.next
 have hcm:=zEB r 256
 have kkf:Keeps (fun A=>A = R) h gf:=(gga.trans ggb).keeps.trans kf (fun _ _ q=>q)
 obtain⟨B,hB⟩:∃ B,ga.next = B:=⟨_,rfl⟩
 rw [hB] at vb gnb gna
 obtain⟨Z,hZ⟩:∃ Z,zAW (zc r 256).2 (zc r 256).1 [] = Z:=⟨_,rfl⟩
 have eZ:pfR r = pfQ (pfY Z):=by rw [pfR,hZ]
 (repeat (first|refine zS ?_|refine zK ?_|refine zR ?_|refine zD ?_|refine zB ?_|refine zI ?_|refine zJ ?_|refine zP ?_|refine zE ?_|refine zG ?_|refine zF ?_|refine zH (by decide) ?_|refine zQ ?_|((first|refine zC ?_|refine zM ?_|refine zO rfl rfl ?_|refine zN rfl ?_|refine zL ?_);simp only [yq106.down,zA,lemS.down,lemC.down,zex,zew,zeu,reduceIte,zev,zey,zez,ze0,ze1,ze2,ze3,ze4,ze5,reduceCtorEq,lemH.down,hga,hgb,hB,ef])))
 refine zAG (fun m t g=>∃ r2 acc v,m + acc.length≤256∧zAW m r2 acc = Z∧Rd g R r2∧Own g (fun A=>B < A) 1 v acc.length (zAj acc)∧Var g h.next [.slice none 0 0,.bool false,.string (strOf []),.string (strOf [])]∧Var g B [v,.bool false,.string (strOf []),.string (strOf [])]∧Keeps (fun A=>A = R) h g∧B < g.next∧t.get 0 = .pointer (some ⟨R,0,none⟩)∧t.get 2 = .pointer (some ⟨h.next,0,none⟩)∧t.get 3 = .pointer (some ⟨B,0,none⟩)∧t.get 4 = .int .i64 (m:Int)) ?_ (zc r 256).2 _ _
   ⟨_,[],_,by simp;omega,hZ,rf,Own.nil,(va.grow ggb).keep kf (fun q=>by omega),vb.keep kf (fun q=>by omega),kkf,by omega,by simp only [yq106.down,zA,lemS.down,lemC.down,zex,zew,zeu,reduceIte,zev,zey,zez,ze0,ze1,ze2,ze3,ze4,ze5,reduceCtorEq],by simp only [yq106.down,zA,lemS.down,lemC.down,zex,zew,zeu,reduceIte,zev,zey,zez,ze0,ze1,ze2,ze3,ze4,ze5,reduceCtorEq],by simp only [yq106.down,zA,lemS.down,lemC.down,zex,zew,zeu,reduceIte,zev,zey,zez,ze0,ze1,ze2,ze3,ze4,ze5,reduceCtorEq],by simp only [yq106.down,zA,lemS.down,lemC.down,zex,zew,zeu,reduceIte,zev,zey,zez,ze0,ze1,ze2,ze3,ze4,ze5,reduceCtorEq]⟩
 have hBh:h.next < B:=by omega
 clear hga va gga hgb vb ggb gnb ef rf kf nf hcm kkf hB hZ hr
 rintro m t g ⟨r2,acc,v,hm,hL,rd,oc,vz,vb,kk,gn,t0,t2,t3,t4⟩ hnext
 refine xq106_6k ?_
 dsimp only [zJB]
 have er:=zAb T.wire rd
 obtain⟨av,cv,rfl,_⟩:=oc.shape
 have eM:zAW m r2 acc = (r2,acc)→pfR r = pfQ (pfY (r2,acc)):=fun e=>by rw [eZ,← hL,e]
 have stz:∀ g,Var g h.next [.slice none 0 0,.bool false,.string (strOf []),.string (strOf [])]→zn g 4 (.pointer (some ⟨h.next,0,none⟩)) (.agg [.slice none 0 0,.bool false,.string (strOf []),.string (strOf [])].toArray) = some (.tuple #[],g.wr h.next [.slice none 0 0,.bool false,.string (strOf []),.string (strOf [])]):=fun g v=>v.storeAll rfl rfl (by decide) rfl
 cases m with
 | zero=>
  have eQ:=eM rfl
  obtain⟨ga,ea,ra,ka⟩:=zGy T.bool rd
  obtain⟨bq,hbq⟩:∃ bq,zAe r2 = bq:=⟨_,rfl⟩
  rw [hbq] at ea ra
  obtain⟨r3,bb⟩:=bq
  have ra:Rd ga R r3:=ra
  have ea:cfi pr 105 [.pointer (some ⟨R,0,none⟩)] g = some (.bool bb,ga):=ea
  have va:=vb.keep ka (fun q=>by omega)
  have za:=vz.keep ka (fun q=>by omega)
  have oa:=oc.keep ka (fun A hA q=>by omega)
  have na:=ka.next
  have s1:zn ga 1 (.pointer (some ⟨B,1,none⟩)) (.bool bb) = some (.tuple #[],ga.wr B [.slice av acc.length cv,.bool bb,.string (strOf []),.string (strOf [])]):=by rw [zY rfl,va.store (by show 1 + 1≤4;decide) rfl];rfl
  obtain⟨gb,hgb⟩:∃ gb,ga.wr B [.slice av acc.length cv,.bool bb,.string (strOf []),.string (strOf [])] = gb:=⟨_,rfl⟩
  have vb2:Var gb B [.slice av acc.length cv,.bool bb,.string (strOf []),.string (strOf [])]:=by rw [← hgb];exact va.wr
  have kb:Keeps (fun A=>A = B) ga gb:=by rw [← hgb];exact Keeps.wr
  rw [hgb] at s1
  have nb:=kb.next
  have rb:=ra.keep kb (fun q=>by omega)
  have zb:=za.keep kb (fun q=>by omega)
  have ob:=oa.keep kb (fun A hA q=>by omega)
  have kkb:Keeps (fun A=>A = R) h gb:=(kk.trans ka (fun _ _ q=>q)).trans kb (fun A hA q=>by omega)
  have lb:∀ sp,gb.load ⟨B,1,sp⟩ = some (.bool bb):=fun sp=>vb2.load
  cases bb with
  | false=>
   have er3:=zAb T.wire rb
   by_cases c3:r3.err = 0
   ·have b3:((r3.err:Int) == 0) = true:=by rw [c3];rfl
    have ld:∀ sp,gb.loadN ⟨B,0,sp⟩ 4 = some [.slice av acc.length cv,.bool false,.string (strOf []),.string (strOf [])]:=fun sp=>vb2.loadAll rfl
    have sv:zn gb 4 (.pointer (some ⟨h.next,0,none⟩)) (.agg [.slice av acc.length cv,.bool false,.string (strOf []),.string (strOf [])].toArray) = some (.tuple #[],gb.wr h.next [.slice av acc.length cv,.bool false,.string (strOf []),.string (strOf [])]):=zb.storeAll rfl rfl (by decide) rfl
    (repeat (first|refine zS ?_|refine zK ?_|refine zR ?_|refine zD ?_|refine zB ?_|refine zI ?_|refine zJ ?_|refine zP ?_|refine zE ?_|refine zG ?_|refine zF ?_|refine zH (by decide) ?_|refine zQ ?_|((first|refine zC ?_|refine zM ?_|refine zO rfl rfl ?_|refine zN rfl ?_|refine zL ?_);simp only [yq106.down,zA,lemS.down,lemC.down,zex,zew,zeu,reduceIte,zev,zey,zez,ze0,ze1,ze2,ze3,ze4,ze5,reduceCtorEq,lemH.down,t0,t2,t3,t4,Nat.add_zero,zi,er,ea,s1,lb,er3,b3,ld,sv,Bool.not_true,Bool.not_false])))
    have eR:pfR r = (r3,⟨acc,false,[],[]⟩):=by rw [eQ];simp [pfQ,pfY,hbq,c3]
    rw [eR]
    exact⟨.inr rfl,_,zA1 (a:=⟨h.next,0,none⟩) (by simp only [yq106.down,zA,lemS.down,lemC.down,zex,zew,zeu,reduceIte,zev,zey,zez,ze0,ze1,ze2,ze3,ze4,ze5,reduceCtorEq,t2]) (zb.wr.loadAll rfl),_,rfl,rb.keep Keeps.wr (by omega),(ob.keep Keeps.wr (fun A hA q=>by omega)).mono (fun A hA=>by omega),by show acc.length≤256;omega,kkb.trans Keeps.wr (fun A hA q=>by omega)⟩
   ·have b3:((r3.err:Int) == 0) = false:=by rw [beq_eq_false_iff_ne];omega
    have sv:=stz gb zb
    (repeat (first|refine zS ?_|refine zK ?_|refine zR ?_|refine zD ?_|refine zB ?_|refine zI ?_|refine zJ ?_|refine zP ?_|refine zE ?_|refine zG ?_|refine zF ?_|refine zH (by decide) ?_|refine zQ ?_|((first|refine zC ?_|refine zM ?_|refine zO rfl rfl ?_|refine zN rfl ?_|refine zL ?_);simp only [yq106.down,zA,lemS.down,lemC.down,zex,zew,zeu,reduceIte,zev,zey,zez,ze0,ze1,ze2,ze3,ze4,ze5,reduceCtorEq,lemH.down,t0,t2,t3,t4,Nat.add_zero,zi,er,ea,s1,lb,er3,b3,zBO,sv,Bool.not_true,Bool.not_false])))
    have eR:pfR r = (r3,zEj):=by rw [eQ];simp [pfQ,pfY,hbq,c3]
    rw [eR]
    exact⟨.inr rfl,_,zA1 (a:=⟨h.next,0,none⟩) (by simp only [yq106.down,zA,lemS.down,lemC.down,zex,zew,zeu,reduceIte,zev,zey,zez,ze0,ze1,ze2,ze3,ze4,ze5,reduceCtorEq,t2]) (zb.wr.loadAll rfl),.slice none 0 0,rfl,rb.keep Keeps.wr (by omega),Own.nil,by show (0:Nat)≤256;omega,kkb.trans Keeps.wr (fun A hA q=>by omega)⟩
  | true=>
   obtain⟨gc,ec,rc,kc⟩:=zB9 T.wire rb
   obtain⟨p1,h1⟩:∃ p1,zX r3 32 = p1:=⟨_,rfl⟩
   rw [h1] at ec rc
   obtain⟨gd,ed,rd2,kd⟩:=zB9 T.wire rc
   obtain⟨p2,h2⟩:∃ p2,zX p1.1 32 = p2:=⟨_,rfl⟩
   rw [h2] at ed rd2
   have kcd:Keeps (fun A=>A = R) gb gd:=kc.trans kd (fun _ _ q=>q)
   have ncd:=kcd.next
   have vd:=vb2.keep kcd (fun q=>by omega)
   have zd:=zb.keep kcd (fun q=>by omega)
   have od:=ob.keep kcd (fun A hA q=>by omega)
   have s2:zn gd 2 (.pointer (some ⟨B,2,none⟩)) (.agg [.string (strOf p1.2),.string (strOf p2.2)].toArray) = some (.tuple #[],gd.wr B [.slice av acc.length cv,.bool true,.string (strOf p1.2),.string (strOf p2.2)]):=(zIl (h:=gd) (n:=2) (cs:=[.string (strOf p1.2),.string (strOf p2.2)]) rfl (by decide)).trans (by rw [vd.store (by show 2 + 2≤4;decide) rfl];rfl)
   obtain⟨ge,hge⟩:∃ ge,gd.wr B [.slice av acc.length cv,.bool true,.string (strOf p1.2),.string (strOf p2.2)] = ge:=⟨_,rfl⟩
   have ve:Var ge B [.slice av acc.length cv,.bool true,.string (strOf p1.2),.string (strOf p2.2)]:=by rw [← hge];exact vd.wr
   have ke:Keeps (fun A=>A = B) gd ge:=by rw [← hge];exact Keeps.wr
   rw [hge] at s2
   have ne:=ke.next
   have re:=rd2.keep ke (fun q=>by omega)
   have ze:=zd.keep ke (fun q=>by omega)
   have oe:=od.keep ke (fun A hA q=>by omega)
   have kke:Keeps (fun A=>A = R) h ge:=(kkb.trans kcd (fun _ _ q=>q)).trans ke (fun A hA q=>by omega)
   have fl:zAB [.string (strOf []),.string (strOf [])] [(0,1,.string (strOf p1.2)),(1,1,.string (strOf p2.2))] = some [.string (strOf p1.2),.string (strOf p2.2)]:=rfl
   have er3:=zAb T.wire re
   by_cases c3:p2.1.err = 0
   ·have b3:((p2.1.err:Int) == 0) = true:=by rw [c3];rfl
    have ld:∀ sp,ge.loadN ⟨B,0,sp⟩ 4 = some [.slice av acc.length cv,.bool true,.string (strOf p1.2),.string (strOf p2.2)]:=fun sp=>ve.loadAll rfl
    have sv:zn ge 4 (.pointer (some ⟨h.next,0,none⟩)) (.agg [.slice av acc.length cv,.bool true,.string (strOf p1.2),.string (strOf p2.2)].toArray) = some (.tuple #[],ge.wr h.next [.slice av acc.length cv,.bool true,.string (strOf p1.2),.string (strOf p2.2)]):=ze.storeAll rfl rfl (by decide) rfl
    (repeat (first|refine zS ?_|refine zK ?_|refine zR ?_|refine zD ?_|refine zB ?_|refine zI ?_|refine zJ ?_|refine zP ?_|refine zE ?_|refine zG ?_|refine zF ?_|refine zH (by decide) ?_|refine zQ ?_|((first|refine zC ?_|refine zM ?_|refine zO rfl rfl ?_|refine zN rfl ?_|refine zL ?_);simp only [yq106.down,zA,lemS.down,lemC.down,zex,zew,zeu,reduceIte,zev,zey,zez,ze0,ze1,ze2,ze3,ze4,ze5,reduceCtorEq,lemH.down,t0,t2,t3,t4,Nat.add_zero,zi,er,ea,s1,lb,ec,ed,fl,s2,er3,b3,ld,sv,Bool.not_true,Bool.not_false])))
    have eR:pfR r = (p2.1,⟨acc,true,p1.2,p2.2⟩):=by rw [eQ];simp [pfQ,pfY,hbq,h1,h2,c3]
    rw [eR]
    exact⟨.inr rfl,_,zA1 (a:=⟨h.next,0,none⟩) (by simp only [yq106.down,zA,lemS.down,lemC.down,zex,zew,zeu,reduceIte,zev,zey,zez,ze0,ze1,ze2,ze3,ze4,ze5,reduceCtorEq,t2]) (ze.wr.loadAll rfl),_,rfl,re.keep Keeps.wr (by omega),(oe.keep Keeps.wr (fun A hA q=>by omega)).mono (fun A hA=>by omega),by show acc.length≤256;omega,kke.trans Keeps.wr (fun A hA q=>by omega)⟩
   ·have b3:((p2.1.err:Int) == 0) = false:=by rw [beq_eq_false_iff_ne];omega
    have sv:=stz ge ze
    (repeat (first|refine zS ?_|refine zK ?_|refine zR ?_|refine zD ?_|refine zB ?_|refine zI ?_|refine zJ ?_|refine zP ?_|refine zE ?_|refine zG ?_|refine zF ?_|refine zH (by decide) ?_|refine zQ ?_|((first|refine zC ?_|refine zM ?_|refine zO rfl rfl ?_|refine zN rfl ?_|refine zL ?_);simp only [yq106.down,zA,lemS.down,lemC.down,zex,zew,zeu,reduceIte,zev,zey,zez,ze0,ze1,ze2,ze3,ze4,ze5,reduceCtorEq,lemH.down,t0,t2,t3,t4,Nat.add_zero,zi,er,ea,s1,lb,ec,ed,fl,s2,er3,b3,zBO,sv,Bool.not_true,Bool.not_false])))
    have eR:pfR r = (p2.1,zEj):=by rw [eQ];simp [pfQ,pfY,hbq,h1,h2,c3]
    rw [eR]
    exact⟨.inr rfl,_,zA1 (a:=⟨h.next,0,none⟩) (by simp only [yq106.down,zA,lemS.down,lemC.down,zex,zew,zeu,reduceIte,zev,zey,zez,ze0,ze1,ze2,ze3,ze4,ze5,reduceCtorEq,t2]) (ze.wr.loadAll rfl),.slice none 0 0,rfl,re.keep Keeps.wr (by omega),Own.nil,by show (0:Nat)≤256;omega,kke.trans Keeps.wr (fun A hA q=>by omega)⟩
 | succ m=>
  have d0:decide (((m + 1:Nat):Int) > 0) = true:=decide_eq_true (by omega)
  by_cases c0:r2.err = 0
  ·have b0:((r2.err:Int) == 0) = true:=by rw [c0];rfl
   obtain⟨g1,e1,rd1,k1⟩:=zB9 T.wire rd
   obtain⟨a,ha⟩:∃ a,zX r2 32 = a:=⟨_,rfl⟩
   rw [ha] at e1 rd1
   have hL2:zAW m a.1 (acc ++ [a.2]) = Z:=by
    rw [← hL]
    conv=>rhs;unfold zAW
    rw [if_pos c0,ha]
   have oc1:=oc.keep k1 (fun A hA q=>by omega)
   obtain⟨v2,g2,e2,oc2,k2⟩:=oc1.pushS a.2 (by omega)
   have n1:=k1.next
   have n2:=k2.next
   have l0:∀ sp,g.load ⟨B,0,sp⟩ = some (.slice av acc.length cv):=fun sp=>vb.load
   have vb1:=vb.keep k1 (fun q=>by omega)
   have l1:∀ sp,(g1.new [.string (strOf a.2)]).load ⟨B,0,sp⟩ = some (.slice av acc.length cv):=fun sp=>(vb1.grow Grows.new).load
   have vb2:=vb1.keep k2 (fun q=>by omega)
   have vz2:=(vz.keep k1 (fun q=>by omega)).keep k2 (fun q=>by omega)
   have st2:zn g2 1 (.pointer (some ⟨B,0,none⟩)) v2 = some (.tuple #[],g2.wr B [v2,.bool false,.string (strOf []),.string (strOf [])]):=oc2.store vb2 (by show 0 < 4;decide)
   have fl:zAB [.string (strOf [])] [(0,1,.string (strOf a.2))] = some [.string (strOf a.2)]:=rfl
   have wn:IntKind.i64.wrap (((m + 1:Nat):Int) - 1) = (m:Int):=by rw [wrap_i64 (by omega) (by omega)];omega
   (repeat (first|refine zS ?_|refine zK ?_|refine zR ?_|refine zD ?_|refine zB ?_|refine zI ?_|refine zJ ?_|refine zP ?_|refine zE ?_|refine zG ?_|refine zF ?_|refine zH (by decide) ?_|refine zQ ?_|((first|refine zC ?_|refine zM ?_|refine zO rfl rfl ?_|refine zN rfl ?_|refine zL ?_);simp only [yq106.down,zA,lemS.down,lemC.down,zex,zew,zeu,reduceIte,zev,zey,zez,ze0,ze1,ze2,ze3,ze4,ze5,reduceCtorEq,lemH.down,t0,t2,t3,t4,d0,zi,er,b0,l0,e1,fl,e2,st2,wn])))
   refine ⟨?_,?_⟩
   ·(refine zBb rfl rfl rfl ?_ ?_<;>simp only [yq106.down,zA,lemS.down,lemC.down,zex,zew,zeu,reduceIte,zev,zey,zez,ze0,ze1,ze2,ze3,ze4,ze5,reduceCtorEq,l1,l0,zBV,zBQ,zBW,zBR,zBH,Option.isSome_some])
   (repeat (first|refine zS ?_|refine zK ?_|refine zR ?_|refine zD ?_|refine zB ?_|refine zI ?_|refine zJ ?_|refine zP ?_|refine zE ?_|refine zG ?_|refine zF ?_|refine zH (by decide) ?_|refine zQ ?_|((first|refine zC ?_|refine zM ?_|refine zO rfl rfl ?_|refine zN rfl ?_|refine zL ?_);simp only [yq106.down,zA,lemS.down,lemC.down,zex,zew,zeu,reduceIte,zev,zey,zez,ze0,ze1,ze2,ze3,ze4,ze5,reduceCtorEq,lemH.down,t0,t2,t3,t4,wn,st2])))
   refine hnext m _ _ (Nat.lt_succ_self m) ⟨a.1,acc ++ [a.2],v2,by simp;omega,hL2,(rd1.keep k2 (fun q=>by omega)).keep Keeps.wr (by omega),?_,vz2.wr_ne (by omega),vb2.wr,((kk.trans k1 (fun _ _ q=>q)).trans k2 (fun A hA q=>by omega)).trans Keeps.wr (fun A hA q=>by omega),by show B < g2.next;omega,by simp only [yq106.down,zA,lemS.down,lemC.down,zex,zew,zeu,reduceIte,zev,zey,zez,ze0,ze1,ze2,ze3,ze4,ze5,reduceCtorEq,t0],by simp only [yq106.down,zA,lemS.down,lemC.down,zex,zew,zeu,reduceIte,zev,zey,zez,ze0,ze1,ze2,ze3,ze4,ze5,reduceCtorEq,t2],by simp only [yq106.down,zA,lemS.down,lemC.down,zex,zew,zeu,reduceIte,zev,zey,zez,ze0,ze1,ze2,ze3,ze4,ze5,reduceCtorEq,t3],by (simp only [yq106.down,zA,lemS.down,lemC.down,zex,zew,zeu,reduceIte,zev,zey,zez,ze0,ze1,ze2,ze3,ze4,ze5,reduceCtorEq])<;>rfl⟩
   rw [List.length_append]
   exact (oc2.bound.keep (Keeps.wr (A:=B)) (fun A hA q=>by have:=hA.1;omega)).mono fun A hA=>by have:=hA.1;omega
  ·have b0:((r2.err:Int) == 0) = false:=by rw [beq_eq_false_iff_ne];omega
   have eQ:=eM (by unfold zAW;rw [if_neg c0])
   obtain⟨ga,ea,ra,ka⟩:=zGy T.bool rd
   obtain⟨bq,hbq⟩:∃ bq,zAe r2 = bq:=⟨_,rfl⟩
   rw [hbq] at ea ra
   obtain⟨r3,bb⟩:=bq
   have ra:Rd ga R r3:=ra
   have ea:cfi pr 105 [.pointer (some ⟨R,0,none⟩)] g = some (.bool bb,ga):=ea
   have va:=vb.keep ka (fun q=>by omega)
   have za:=vz.keep ka (fun q=>by omega)
   have oa:=oc.keep ka (fun A hA q=>by omega)
   have na:=ka.next
   have s1:zn ga 1 (.pointer (some ⟨B,1,none⟩)) (.bool bb) = some (.tuple #[],ga.wr B [.slice av acc.length cv,.bool bb,.string (strOf []),.string (strOf [])]):=by rw [zY rfl,va.store (by show 1 + 1≤4;decide) rfl];rfl
   obtain⟨gb,hgb⟩:∃ gb,ga.wr B [.slice av acc.length cv,.bool bb,.string (strOf []),.string (strOf [])] = gb:=⟨_,rfl⟩
   have vb2:Var gb B [.slice av acc.length cv,.bool bb,.string (strOf []),.string (strOf [])]:=by rw [← hgb];exact va.wr
   have kb:Keeps (fun A=>A = B) ga gb:=by rw [← hgb];exact Keeps.wr
   rw [hgb] at s1
   have nb:=kb.next
   have rb:=ra.keep kb (fun q=>by omega)
   have zb:=za.keep kb (fun q=>by omega)
   have ob:=oa.keep kb (fun A hA q=>by omega)
   have kkb:Keeps (fun A=>A = R) h gb:=(kk.trans ka (fun _ _ q=>q)).trans kb (fun A hA q=>by omega)
   have lb:∀ sp,gb.load ⟨B,1,sp⟩ = some (.bool bb):=fun sp=>vb2.load
   cases bb with
   | false=>
    have er3:=zAb T.wire rb
    by_cases c3:r3.err = 0
    ·have b3:((r3.err:Int) == 0) = true:=by rw [c3];rfl
     have ld:∀ sp,gb.loadN ⟨B,0,sp⟩ 4 = some [.slice av acc.length cv,.bool false,.string (strOf []),.string (strOf [])]:=fun sp=>vb2.loadAll rfl
     have sv:zn gb 4 (.pointer (some ⟨h.next,0,none⟩)) (.agg [.slice av acc.length cv,.bool false,.string (strOf []),.string (strOf [])].toArray) = some (.tuple #[],gb.wr h.next [.slice av acc.length cv,.bool false,.string (strOf []),.string (strOf [])]):=zb.storeAll rfl rfl (by decide) rfl
     (repeat (first|refine zS ?_|refine zK ?_|refine zR ?_|refine zD ?_|refine zB ?_|refine zI ?_|refine zJ ?_|refine zP ?_|refine zE ?_|refine zG ?_|refine zF ?_|refine zH (by decide) ?_|refine zQ ?_|((first|refine zC ?_|refine zM ?_|refine zO rfl rfl ?_|refine zN rfl ?_|refine zL ?_);simp only [yq106.down,zA,lemS.down,lemC.down,zex,zew,zeu,reduceIte,zev,zey,zez,ze0,ze1,ze2,ze3,ze4,ze5,reduceCtorEq,lemH.down,t0,t2,t3,t4,d0,b0,zi,er,ea,s1,lb,er3,b3,ld,sv,Bool.not_true,Bool.not_false])))
     have eR:pfR r = (r3,⟨acc,false,[],[]⟩):=by rw [eQ];simp [pfQ,pfY,hbq,c3]
     rw [eR]
     exact⟨.inr rfl,_,zA1 (a:=⟨h.next,0,none⟩) (by simp only [yq106.down,zA,lemS.down,lemC.down,zex,zew,zeu,reduceIte,zev,zey,zez,ze0,ze1,ze2,ze3,ze4,ze5,reduceCtorEq,t2]) (zb.wr.loadAll rfl),_,rfl,rb.keep Keeps.wr (by omega),(ob.keep Keeps.wr (fun A hA q=>by omega)).mono (fun A hA=>by omega),by show acc.length≤256;omega,kkb.trans Keeps.wr (fun A hA q=>by omega)⟩
    ·have b3:((r3.err:Int) == 0) = false:=by rw [beq_eq_false_iff_ne];omega
     have sv:=stz gb zb
     (repeat (first|refine zS ?_|refine zK ?_|refine zR ?_|refine zD ?_|refine zB ?_|refine zI ?_|refine zJ ?_|refine zP ?_|refine zE ?_|refine zG ?_|refine zF ?_|refine zH (by decide) ?_|refine zQ ?_|((first|refine zC ?_|refine zM ?_|refine zO rfl rfl ?_|refine zN rfl ?_|refine zL ?_);simp only [yq106.down,zA,lemS.down,lemC.down,zex,zew,zeu,reduceIte,zev,zey,zez,ze0,ze1,ze2,ze3,ze4,ze5,reduceCtorEq,lemH.down,t0,t2,t3,t4,d0,b0,zi,er,ea,s1,lb,er3,b3,zBO,sv,Bool.not_true,Bool.not_false])))
     have eR:pfR r = (r3,zEj):=by rw [eQ];simp [pfQ,pfY,hbq,c3]
     rw [eR]
     exact⟨.inr rfl,_,zA1 (a:=⟨h.next,0,none⟩) (by simp only [yq106.down,zA,lemS.down,lemC.down,zex,zew,zeu,reduceIte,zev,zey,zez,ze0,ze1,ze2,ze3,ze4,ze5,reduceCtorEq,t2]) (zb.wr.loadAll rfl),.slice none 0 0,rfl,rb.keep Keeps.wr (by omega),Own.nil,by show (0:Nat)≤256;omega,kkb.trans Keeps.wr (fun A hA q=>by omega)⟩
   | true=>
    obtain⟨gc,ec,rc,kc⟩:=zB9 T.wire rb
    obtain⟨p1,h1⟩:∃ p1,zX r3 32 = p1:=⟨_,rfl⟩
    rw [h1] at ec rc
    obtain⟨gd,ed,rd2,kd⟩:=zB9 T.wire rc
    obtain⟨p2,h2⟩:∃ p2,zX p1.1 32 = p2:=⟨_,rfl⟩
    rw [h2] at ed rd2
    have kcd:Keeps (fun A=>A = R) gb gd:=kc.trans kd (fun _ _ q=>q)
    have ncd:=kcd.next
    have vd:=vb2.keep kcd (fun q=>by omega)
    have zd:=zb.keep kcd (fun q=>by omega)
    have od:=ob.keep kcd (fun A hA q=>by omega)
    have s2:zn gd 2 (.pointer (some ⟨B,2,none⟩)) (.agg [.string (strOf p1.2),.string (strOf p2.2)].toArray) = some (.tuple #[],gd.wr B [.slice av acc.length cv,.bool true,.string (strOf p1.2),.string (strOf p2.2)]):=(zIl (h:=gd) (n:=2) (cs:=[.string (strOf p1.2),.string (strOf p2.2)]) rfl (by decide)).trans (by rw [vd.store (by show 2 + 2≤4;decide) rfl];rfl)
    obtain⟨ge,hge⟩:∃ ge,gd.wr B [.slice av acc.length cv,.bool true,.string (strOf p1.2),.string (strOf p2.2)] = ge:=⟨_,rfl⟩
    have ve:Var ge B [.slice av acc.length cv,.bool true,.string (strOf p1.2),.string (strOf p2.2)]:=by rw [← hge];exact vd.wr
    have ke:Keeps (fun A=>A = B) gd ge:=by rw [← hge];exact Keeps.wr
    rw [hge] at s2
    have ne:=ke.next
    have re:=rd2.keep ke (fun q=>by omega)
    have ze:=zd.keep ke (fun q=>by omega)
    have oe:=od.keep ke (fun A hA q=>by omega)
    have kke:Keeps (fun A=>A = R) h ge:=(kkb.trans kcd (fun _ _ q=>q)).trans ke (fun A hA q=>by omega)
    have fl:zAB [.string (strOf []),.string (strOf [])] [(0,1,.string (strOf p1.2)),(1,1,.string (strOf p2.2))] = some [.string (strOf p1.2),.string (strOf p2.2)]:=rfl
    have er3:=zAb T.wire re
    by_cases c3:p2.1.err = 0
    ·have b3:((p2.1.err:Int) == 0) = true:=by rw [c3];rfl
     have ld:∀ sp,ge.loadN ⟨B,0,sp⟩ 4 = some [.slice av acc.length cv,.bool true,.string (strOf p1.2),.string (strOf p2.2)]:=fun sp=>ve.loadAll rfl
     have sv:zn ge 4 (.pointer (some ⟨h.next,0,none⟩)) (.agg [.slice av acc.length cv,.bool true,.string (strOf p1.2),.string (strOf p2.2)].toArray) = some (.tuple #[],ge.wr h.next [.slice av acc.length cv,.bool true,.string (strOf p1.2),.string (strOf p2.2)]):=ze.storeAll rfl rfl (by decide) rfl
     (repeat (first|refine zS ?_|refine zK ?_|refine zR ?_|refine zD ?_|refine zB ?_|refine zI ?_|refine zJ ?_|refine zP ?_|refine zE ?_|refine zG ?_|refine zF ?_|refine zH (by decide) ?_|refine zQ ?_|((first|refine zC ?_|refine zM ?_|refine zO rfl rfl ?_|refine zN rfl ?_|refine zL ?_);simp only [yq106.down,zA,lemS.down,lemC.down,zex,zew,zeu,reduceIte,zev,zey,zez,ze0,ze1,ze2,ze3,ze4,ze5,reduceCtorEq,lemH.down,t0,t2,t3,t4,d0,b0,zi,er,ea,s1,lb,ec,ed,fl,s2,er3,b3,ld,sv,Bool.not_true,Bool.not_false])))
     have eR:pfR r = (p2.1,⟨acc,true,p1.2,p2.2⟩):=by rw [eQ];simp [pfQ,pfY,hbq,h1,h2,c3]
     rw [eR]
     exact⟨.inr rfl,_,zA1 (a:=⟨h.next,0,none⟩) (by simp only [yq106.down,zA,lemS.down,lemC.down,zex,zew,zeu,reduceIte,zev,zey,zez,ze0,ze1,ze2,ze3,ze4,ze5,reduceCtorEq,t2]) (ze.wr.loadAll rfl),_,rfl,re.keep Keeps.wr (by omega),(oe.keep Keeps.wr (fun A hA q=>by omega)).mono (fun A hA=>by omega),by show acc.length≤256;omega,kke.trans Keeps.wr (fun A hA q=>by omega)⟩
    ·have b3:((p2.1.err:Int) == 0) = false:=by rw [beq_eq_false_iff_ne];omega
     have sv:=stz ge ze
     (repeat (first|refine zS ?_|refine zK ?_|refine zR ?_|refine zD ?_|refine zB ?_|refine zI ?_|refine zJ ?_|refine zP ?_|refine zE ?_|refine zG ?_|refine zF ?_|refine zH (by decide) ?_|refine zQ ?_|((first|refine zC ?_|refine zM ?_|refine zO rfl rfl ?_|refine zN rfl ?_|refine zL ?_);simp only [yq106.down,zA,lemS.down,lemC.down,zex,zew,zeu,reduceIte,zev,zey,zez,ze0,ze1,ze2,ze3,ze4,ze5,reduceCtorEq,lemH.down,t0,t2,t3,t4,d0,b0,zi,er,ea,s1,lb,ec,ed,fl,s2,er3,b3,zBO,sv,Bool.not_true,Bool.not_false])))
     have eR:pfR r = (p2.1,zEj):=by rw [eQ];simp [pfQ,pfY,hbq,h1,h2,c3]
     rw [eR]
     exact⟨.inr rfl,_,zA1 (a:=⟨h.next,0,none⟩) (by simp only [yq106.down,zA,lemS.down,lemC.down,zex,zew,zeu,reduceIte,zev,zey,zez,ze0,ze1,ze2,ze3,ze4,ze5,reduceCtorEq,t2]) (ze.wr.loadAll rfl),.slice none 0 0,rfl,re.keep Keeps.wr (by omega),Own.nil,by show (0:Nat)≤256;omega,kke.trans Keeps.wr (fun A hA q=>by omega)⟩
end Go.X
end
section
open Go Go.X
namespace Go.X
set_option linter.unusedVariables false
def zAZ (l:List (List UInt8)):List UInt8:=l.flatMap zAY
theorem zHj:∀ l:List (List UInt8),(zAZ l).length = l.length * 32
 | []=>rfl
 | x :: l=>by
  have:=zHj l
  have e:zAZ (x :: l) = zAY x ++ zAZ l:=by simp [zAZ]
  rw [e,List.length_append,zCb,this,List.length_cons];omega
theorem zLT {l:List (List UInt8)} {i:Nat} (hi:i < l.length):zAZ (l.take (i + 1)) = zAZ (l.take i) ++ zAY (l.getD i []):=by
 rw [List.take_succ_eq_append_getElem hi,List.getD_eq_getElem?_getD,List.getElem?_eq_getElem hi]
 simp only [zAZ,List.flatMap_append,List.flatMap_cons,List.flatMap_nil,List.append_nil,Option.getD_some]
def zFB (x:PfV):List UInt8:=if x.has = true then zAY x.path ++ zAY x.value else []
def pfB (x:PfV):List UInt8:=numB x.beside.length 4 ++ zAZ x.beside ++ numB (bitN x.has) 1 ++ zFB x
theorem zKq (l:List (List UInt8)) (i:Nat) (hi:i < l.length):((zAj l).drop (i * 1)).take 1 = [.string (strOf (l.getD i []))]:=by
 have h1:i < (zAj l).length:=by rw [zKs];exact hi
 rw [Nat.mul_one,List.drop_eq_getElem_cons h1]
 have:=zKr hi
 rw [List.getElem?_eq_getElem h1] at this
 rw [Option.some.inj this]
 rfl
theorem zLl {h:Heap} {B o:Nat} {x:Value} (hl:∀ sp,h.loadN ⟨B,o,sp⟩ 1 = some [x]):∀ sp,h.load ⟨B,o,sp⟩ = some x:=fun sp=>by
 have:=hl sp
 unfold Heap.loadN at this
 unfold Heap.load
 split at this
 ·rename_i c hc
  simp only [hc]
  unfold zAm at this
  cases hb:(o + 1).ble c.cells.length with
  | false=>rw [hb] at this;cases this
  | true=>
   rw [hb] at this
   have h2:=Nat.le_of_ble_eq_true hb
   have this:some ((c.cells.drop o).take 1) = some [x]:=this
   rw [List.drop_eq_getElem_cons (by omega)] at this
   simp only [Option.some.injEq,List.take_succ_cons,List.take_zero,List.cons.injEq,and_true] at this
   rw [List.getElem?_eq_getElem (by omega),this]
 ·cases this
structure PPTab (pr:Prog):Prop where
 wire:zAL pr
 bool:zDN pr
 pp:pr.prim 118 = none
 ppC:pr.code 118 = some xq118
theorem PPutS {pr:Prog} (T:PPTab pr) {h:Heap} {W:Nat} {S So:Nat→Prop} {b:List UInt8} (hw:WrS h W S b) (hS:∀ A,h.next≤A→S A) {x:PfV} {v:Value} (ho:Own h So 1 v x.beside.length (zAj x.beside)) (hSo:∀ A,A < h.next→So A→¬ S A) (hlen:x.beside.length≤256) (hroom:b.length + 20000≤zU) :
  ∃ h',cfi pr 118 [.pointer (some ⟨W,0,none⟩),.agg (zDD x v).toArray] h = some (.tuple #[],h')∧WrS h' W S (b ++ pfB x)∧Keeps S h h':=by
 have hr64:zU = 140737488355328:=rfl
 obtain⟨l,has,path,val⟩:=x
 have hlen:l.length≤256:=hlen
 have ho:Own h So 1 v l.length (zAj l):=ho
 have:∃ w h',cfi pr 118 [.pointer (some ⟨W,0,none⟩),.agg (zDD ⟨l,has,path,val⟩ v).toArray] h = some (w,h')∧w = .tuple #[]∧WrS h' W S (b ++ pfB ⟨l,has,path,val⟩)∧Keeps S h h':=by
  refine zAA T.pp T.ppC rfl ?_
  unfold xq118
  dsimp only [zh]
  refine wpk.out (k:=[]) ?_
  obtain⟨a,cap,rfl,_⟩:=ho.shape
  obtain⟨g,hg,vg,gg,gn⟩:=box5 (h:=h) (zDD ⟨l,has,path,val⟩ (.slice a l.length cap))
  have vg:Var g h.next [.slice a l.length cap,.bool has,.string (strOf path),.string (strOf val)]:=vg
  have l0:∀ sp,g.load ⟨h.next,0,sp⟩ = some (.slice a l.length cap):=fun sp=>vg.load
  have hSg:∀ A,g.next≤A→S A∧A≠h.next:=fun A hA=>⟨hS A (by omega),by omega⟩
  obtain⟨h1,e1,w1,k1⟩:=zD4 T.wire (hw.apart gg) hSg l.length (by omega) (by omega)
  have v1:=vg.keep k1 (fun q=>q.2 rfl)
  have l1:∀ sp,h1.load ⟨h.next,0,sp⟩ = some (.slice a l.length cap):=fun sp=>v1.load
  have n1:=k1.next
  have o1:=(ho.bound.grow gg).keep k1 (fun A hA q=>hSo A hA.2 hA.1 q.1)
  (repeat (first|refine zS ?_|refine zK ?_|refine zR ?_|refine zD ?_|refine zB ?_|refine zI ?_|refine zJ ?_|refine zP ?_|refine zE ?_|refine zG ?_|refine zF ?_|refine zH (by decide) ?_|refine zQ ?_|((first|refine zC ?_|refine zM ?_|refine zO rfl rfl ?_|refine zN rfl ?_|refine zL ?_);simp only [yq118.down,zA,lemS.down,lemC.down,zex,zew,zeu,reduceIte,zev,zey,zez,ze0,ze1,ze2,ze3,ze4,ze5,reduceCtorEq,lemH.down,hg,l0,e1,l1,Nat.add_zero])))
  refine zAG (fun m t g'=>∃ i,m = l.length - i∧i≤l.length∧WrS g' W (fun A=>S A∧A≠h.next) (b ++ numB l.length 4 ++ zAZ (l.take i))∧Keeps (fun A=>S A∧A≠h.next) h1 g'∧t.get 0 = .pointer (some ⟨W,0,none⟩)∧t.get 3 = .pointer (some ⟨h.next,0,none⟩)∧t.get 12 = .slice a l.length cap∧t.get 13 = .int .i64 (l.length:Int)∧t.get 14 = .int .i64 (i:Int)) ?_ l.length _ _ ⟨0,rfl,by omega,by simpa [zAZ] using w1,Keeps.refl,by simp only [yq118.down,zA,lemS.down,lemC.down,zex,zew,zeu,reduceIte,zev,zey,zez,ze0,ze1,ze2,ze3,ze4,ze5,reduceCtorEq],by simp only [yq118.down,zA,lemS.down,lemC.down,zex,zew,zeu,reduceIte,zev,zey,zez,ze0,ze1,ze2,ze3,ze4,ze5,reduceCtorEq],by simp only [yq118.down,zA,lemS.down,lemC.down,zex,zew,zeu,reduceIte,zev,zey,zez,ze0,ze1,ze2,ze3,ze4,ze5,reduceCtorEq],by simp only [yq118.down,zA,lemS.down,lemC.down,zex,zew,zeu,reduceIte,zev,zey,zez,ze0,ze1,ze2,ze3,ze4,ze5,reduceCtorEq],by (simp only [yq118.down,zA,lemS.down,lemC.down,zex,zew,zeu,reduceIte,zev,zey,zez,ze0,ze1,ze2,ze3,ze4,ze5,reduceCtorEq])<;>rfl⟩
  rintro m t g' ⟨i,rfl,hi,gw,gk,t0,t3,t12,t13,t14⟩ hnext
  have hbl:(zAZ (l.take i)).length≤8192:=by rw [zHj,List.length_take];omega
  have kn:=gk.next
  refine xq118_7k ?_
  dsimp only [zJE]
  (repeat (first|refine zS ?_|refine zK ?_|refine zR ?_|refine zD ?_|refine zB ?_|refine zI ?_|refine zJ ?_|refine zP ?_|refine zE ?_|refine zG ?_|refine zF ?_|refine zH (by decide) ?_|refine zQ ?_|((first|refine zC ?_|refine zM ?_|refine zO rfl rfl ?_|refine zN rfl ?_|refine zL ?_);simp only [yq118.down,zA,lemS.down,lemC.down,zex,zew,zeu,reduceIte,zev,zey,zez,ze0,ze1,ze2,ze3,ze4,ze5,reduceCtorEq,lemH.down,t0,t3,t12,t13,t14])))
  refine ⟨fun hlt=>?_,fun hge=>?_⟩
  ·have hi':i < l.length:=by omega
   have og:=o1.keep gk (fun A hA q=>hSo A hA.2 hA.1 q.1)
   obtain⟨B,o,ia,ld⟩:=og.at hi'
   have ld:=ld g' og
   rw [zKq l i hi'] at ld
   have ld:=zLl ld
   have eB:=zLT hi'
   have ww:IntKind.i64.wrap ((i:Int) + 1) = ((i + 1:Nat):Int):=by rw [wrap_i64 (by omega) (by omega)];omega
   obtain⟨g4,e4,w4,k4⟩:=zCo T.wire gw (fun A hA=>hSg A (by omega)) (l.getD i []) (by simp only [List.length_append,zAH];omega)
   (repeat (first|refine zS ?_|refine zK ?_|refine zR ?_|refine zD ?_|refine zB ?_|refine zI ?_|refine zJ ?_|refine zP ?_|refine zE ?_|refine zG ?_|refine zF ?_|refine zH (by decide) ?_|refine zQ ?_|((first|refine zC ?_|refine zM ?_|refine zO rfl rfl ?_|refine zN rfl ?_|refine zL ?_);simp only [yq118.down,zA,lemS.down,lemC.down,zex,zew,zeu,reduceIte,zev,zey,zez,ze0,ze1,ze2,ze3,ze4,ze5,reduceCtorEq,lemH.down,t0,t3,t12,t13,t14,zAs,ia,ld,e4,ww])))
   refine hnext (l.length - (i + 1)) _ g4 (by omega) ⟨i + 1,rfl,by omega,?_,gk.trans k4 (fun _ _ q=>q),by simp only [yq118.down,zA,lemS.down,lemC.down,zex,zew,zeu,reduceIte,zev,zey,zez,ze0,ze1,ze2,ze3,ze4,ze5,reduceCtorEq,t0],by simp only [yq118.down,zA,lemS.down,lemC.down,zex,zew,zeu,reduceIte,zev,zey,zez,ze0,ze1,ze2,ze3,ze4,ze5,reduceCtorEq,t3],by simp only [yq118.down,zA,lemS.down,lemC.down,zex,zew,zeu,reduceIte,zev,zey,zez,ze0,ze1,ze2,ze3,ze4,ze5,reduceCtorEq,t12],by simp only [yq118.down,zA,lemS.down,lemC.down,zex,zew,zeu,reduceIte,zev,zey,zez,ze0,ze1,ze2,ze3,ze4,ze5,reduceCtorEq,t13],by simp only [yq118.down,zA,lemS.down,lemC.down,zex,zew,zeu,reduceIte,zev,zey,zez,ze0,ze1,ze2,ze3,ze4,ze5,reduceCtorEq]⟩
   rw [eB,← List.append_assoc]
   exact w4
  ·obtain rfl:i = l.length:=by omega
   rw [List.take_length] at gw hbl
   have vg':=v1.keep gk (fun q=>q.2 rfl)
   have la:∀ sp,g'.load ⟨h.next,1,sp⟩ = some (.bool has):=fun sp=>vg'.load
   obtain⟨h2,e2,w2,k2⟩:=WBoolS T.bool gw (fun A hA=>hSg A (by omega)) has (by simp only [List.length_append,zAH];omega)
   have v2:=vg'.keep k2 (fun q=>q.2 rfl)
   have n2:=k2.next
   have lb:∀ sp,h2.load ⟨h.next,1,sp⟩ = some (.bool has):=fun sp=>v2.load
   have kAll:Keeps S h h2:=((gg.keeps (W:=S)).trans (k1.mono fun A _ q=>q.1) (fun _ _ q=>q)).trans ((gk.trans k2 (fun _ _ q=>q)).mono fun A _ q=>q.1) (fun _ _ q=>q)
   cases has with
   | false=>
    (repeat (first|refine zS ?_|refine zK ?_|refine zR ?_|refine zD ?_|refine zB ?_|refine zI ?_|refine zJ ?_|refine zP ?_|refine zE ?_|refine zG ?_|refine zF ?_|refine zH (by decide) ?_|refine zQ ?_|((first|refine zC ?_|refine zM ?_|refine zO rfl rfl ?_|refine zN rfl ?_|refine zL ?_);simp only [yq118.down,zA,lemS.down,lemC.down,zex,zew,zeu,reduceIte,zev,zey,zez,ze0,ze1,ze2,ze3,ze4,ze5,reduceCtorEq,lemH.down,t0,t3,t12,t13,t14,la,e2,lb])))
    refine ⟨.inl rfl,_,rfl,rfl,?_,kAll⟩
    have e:b ++ pfB ⟨l,false,path,val⟩ = b ++ numB l.length 4 ++ zAZ l ++ numB (bitN false) 1:=by simp [pfB,zFB,List.append_assoc]
    rw [e]
    exact w2.mono fun A _ hA=>hA.1
   | true=>
    have lc:∀ sp,h2.load ⟨h.next,2,sp⟩ = some (.string (strOf path)):=fun sp=>v2.load
    obtain⟨h3,e3,w3,k3⟩:=zCo T.wire w2 (fun A hA=>hSg A (by omega)) path (by simp only [List.length_append,zAH];omega)
    have v3:=v2.keep k3 (fun q=>q.2 rfl)
    have n3:=k3.next
    have ld:∀ sp,h3.load ⟨h.next,3,sp⟩ = some (.string (strOf val)):=fun sp=>v3.load
    obtain⟨h4,e4,w4,k4⟩:=zCo T.wire w3 (fun A hA=>hSg A (by omega)) val (by simp only [List.length_append,zAH,zCb];omega)
    (repeat (first|refine zS ?_|refine zK ?_|refine zR ?_|refine zD ?_|refine zB ?_|refine zI ?_|refine zJ ?_|refine zP ?_|refine zE ?_|refine zG ?_|refine zF ?_|refine zH (by decide) ?_|refine zQ ?_|((first|refine zC ?_|refine zM ?_|refine zO rfl rfl ?_|refine zN rfl ?_|refine zL ?_);simp only [yq118.down,zA,lemS.down,lemC.down,zex,zew,zeu,reduceIte,zev,zey,zez,ze0,ze1,ze2,ze3,ze4,ze5,reduceCtorEq,lemH.down,t0,t3,t12,t13,t14,la,e2,lb,lc,e3,ld,e4,Nat.add_zero,zew])))
    refine ⟨.inl rfl,_,rfl,rfl,?_,(kAll.trans (k3.mono fun A _ q=>q.1) (fun _ _ q=>q)).trans (k4.mono fun A _ q=>q.1) (fun _ _ q=>q)⟩
    have e:b ++ pfB ⟨l,true,path,val⟩ = b ++ numB l.length 4 ++ zAZ l ++ numB (bitN true) 1 ++ zAY path ++ zAY val:=by simp [pfB,zFB,List.append_assoc]
    rw [e]
    exact w4.mono fun A _ hA=>hA.1
 obtain⟨w,h',e,rfl,r⟩:=this
 exact⟨h',e,r⟩
end Go.X
end
section
open Go Go.X
namespace Go.X
set_option linter.unusedVariables false
structure SV where
 hd:Hdr
 tags:TagL
 key:List UInt8
 has:Bool
 value:List UInt8
 pf:PfV
def zeroS:SV:=⟨zDM,[],[],false,[],zEj⟩
def zDp (x:SV) (mv tv pv:Value):List Value:=zm x.hd mv ++ [tv,.string (strOf x.key),.bool x.has,.string (strOf x.value)] ++ zDD x.pf pv
def dsX (r:RS):RS×SV:=
 ((pfR (z8 (zAe (z8 (zs (zAE r).1).1 32).1).1 64).1).1,⟨(zAE r).2,(zs (zAE r).1).2,(z8 (zs (zAE r).1).1 32).2,(zAe (z8 (zs (zAE r).1).1 32).1).2,(z8 (zAe (z8 (zs (zAE r).1).1 32).1).1 64).2,(pfR (z8 (zAe (z8 (zs (zAE r).1).1 32).1).1 64).1).2⟩)
def dsQ (p:RS×SV):Nat×SV:=if (endR p.1).err = 0 then (0,p.2) else ((endR p.1).err,zeroS)
def dsR (s:List UInt8):Nat×SV:=dsQ (dsX ⟨s,0,0⟩)
structure DTab (pr:Prog):Prop where
 wire:zAL pr
 hd:HdTab pr
 ct:zG0 pr
 bool:zDN pr
 pf:PFTab pr
 tt:TTab pr
 ds:pr.prim 42 = none
 dsC:pr.code 42 = some xq42
 dt:pr.prim 43 = none
 dtC:pr.code 43 = some xq43
structure SOk (h:Heap) (N:Nat) (x:SV) (mv tv pv:Value):Prop where
 hd:HdAt h x.hd mv
 mem:Own h (fun A=>N≤A) 1 mv x.hd.m.length (zAo x.hd.m)
 tags:Own h (fun A=>N≤A) 2 tv x.tags.length (zAM x.tags)
 fine:∀ q ∈ x.tags,inI q.1
 pf:Own h (fun A=>N≤A) 1 pv x.pf.beside.length (zAj x.pf.beside)
 few:x.pf.beside.length≤256
theorem res2 {t:Fr} {h:Heap} {i j n:Nat} {a:Addr} {vs:List Value} {w:Value} (ht:t.get i = .pointer (some a)) (hl:h.loadN a n = some vs) (hj:t.get j = w):zw t h [.cellN i n,.tmp j] = some (.tuple #[.agg vs.toArray,w]):=by
 simp [zw,zAO,resX,ht,hl,hj,zAX]
theorem zGt {h:Heap}:HdAt h zDM (.slice none 0 0):=⟨by decide,rfl,by decide,by decide,by decide,by decide⟩
theorem DS_run {pr:Prog} (T:DTab pr) {h:Heap} {s:List UInt8} (hs:s.length≤9223372036854775807) :
  ∃ w h',cfi pr 42 [.string (strOf s)] h = some (w,h')∧∃ mv tv pv,w = .tuple #[.agg (zDp (dsR s).2 mv tv pv).toArray,.int .i64 ((dsR s).1:Int)]∧SOk h' h.next (dsR s).2 mv tv pv∧Grows h h':=by
 have hr64:zU = 140737488355328:=rfl
 refine zAA T.ds T.dsC rfl ?_
 unfold xq42
 dsimp only [zh]
 refine wpk.out (k:=[]) ?_
 obtain⟨Z,hZ⟩:∃ Z:List Value,Z = [.int .u64 0,.string (strOf []),.string (strOf []),.string (strOf []),.slice none 0 0,.slice none 0 0,.string (strOf []),.bool false,.string (strOf []),.slice none 0 0,.bool false,.string (strOf []),.string (strOf [])]:=⟨_,rfl⟩
 have hZl:Z.length = 13:=by rw [hZ];rfl
 have hZo:Z.all oneC = true:=by rw [hZ];rfl
 obtain⟨ga,hga,va,gga,gna⟩:=box5 (h:=h) Z
 obtain⟨gb,eb,rb,ggb⟩:=zJ7 T.wire ga s hs
 have nb:=ggb.next
 obtain⟨R,hR⟩:∃ R,ga.next = R:=⟨_,rfl⟩
 rw [hR] at eb rb nb
 have hRb:R < gb.next:=rb.2.1
 obtain⟨w1,g1,e1,mv,rfl,r1,o1,h1,k1⟩:=HT_run T.hd rb
 obtain⟨a,ha⟩:∃ a,zAE ⟨s,0,0⟩ = a:=⟨_,rfl⟩
 rw [ha] at e1 r1 o1 h1
 obtain⟨tv,g2,e2,r2,o2,f2,k2⟩:=zKD T.ct r1
 obtain⟨b,hb⟩:∃ b,zs a.1 = b:=⟨_,rfl⟩
 rw [hb] at r2 o2 f2
 obtain⟨g3,e3,r3,k3⟩:=zFc T.wire r2 32 (by omega)
 obtain⟨c,hc⟩:∃ c,z8 b.1 32 = c:=⟨_,rfl⟩
 rw [hc] at e3 r3
 have e3:cfi pr 87 [.pointer (some ⟨R,0,none⟩),.int .i64 32] g2 = some (.string (strOf c.2),g3):=e3
 obtain⟨g4,e4,r4,k4⟩:=zGy T.bool r3
 obtain⟨d,hd⟩:∃ d,zAe c.1 = d:=⟨_,rfl⟩
 rw [hd] at e4 r4
 obtain⟨g5,e5,r5,k5⟩:=zFc T.wire r4 64 (by omega)
 obtain⟨e,he⟩:∃ e,z8 d.1 64 = e:=⟨_,rfl⟩
 rw [he] at e5 r5
 have e5:cfi pr 87 [.pointer (some ⟨R,0,none⟩),.int .i64 64] g4 = some (.string (strOf e.2),g5):=e5
 obtain⟨w6,g6,e6,pv,rfl,r6,o6,f6,k6⟩:=TP_run T.pf r5
 obtain⟨f,hf⟩:∃ f,pfR e.1 = f:=⟨_,rfl⟩
 rw [hf] at e6 r6 o6 f6
 have eX:dsR s = dsQ (f.1,⟨a.2,b.2,c.2,d.2,e.2,f.2⟩):=by unfold dsR dsX;rw [ha,hb,hc,hd,he,hf]
 clear ha hb hc hd he hf
 have n1:=k1.next
 have n2:=k2.next
 have k25:Keeps (fun A=>A = R) g2 g5:=(k3.trans k4 (fun _ _ q=>q)).trans k5 (fun _ _ q=>q)
 have n25:=k25.next
 have n6:=k6.next
 have k16:Keeps (fun A=>A = R) g1 g6:=(k2.trans k25 (fun _ _ q=>q)).trans k6 (fun _ _ q=>q)
 have k26:Keeps (fun A=>A = R) g2 g6:=k25.trans k6 (fun _ _ q=>q)
 have kb6:Keeps (fun A=>A = R) gb g6:=k1.trans k16 (fun _ _ q=>q)
 obtain⟨av,cv,rfl,_⟩:=o1.shape
 obtain⟨at_,ct,rfl,_⟩:=o2.shape
 obtain⟨ap,cp,rfl,_⟩:=o6.shape
 obtain⟨g7,hg7,v7,gg7,gn7⟩:=box5 (h:=g6) Z
 obtain⟨C,hC⟩:∃ C:List Value,C = zDp ⟨a.2,b.2,c.2,d.2,e.2,f.2⟩ (.slice av a.2.m.length cv) (.slice at_ b.2.length ct) (.slice ap f.2.beside.length cp):=⟨_,rfl⟩
 have hCl:C.length = 13:=by rw [hC];rfl
 have hCo:C.all oneC = true:=by rw [hC];rfl
 have fl:zAB Z [(0,5,.agg (zm a.2 (.slice av a.2.m.length cv)).toArray),(5,1,.agg [.slice at_ b.2.length ct].toArray),(6,1,.string (strOf c.2)),(7,1,.bool d.2),(8,1,.string (strOf e.2)),(9,4,.agg (zDD f.2 (.slice ap f.2.beside.length cp)).toArray)] = some C:=by rw [hZ,hC];rfl
 have s7:zn g7 13 (.pointer (some ⟨g6.next,0,none⟩)) (.agg C.toArray) = some (.tuple #[],g7.wr g6.next C):=v7.storeAll hCl hZl (by decide) hCo
 obtain⟨g8,hg8⟩:∃ g8,g7.wr g6.next C = g8:=⟨_,rfl⟩
 have v8:Var g8 g6.next C:=by rw [← hg8];exact v7.wr
 have k8:Keeps (fun A=>A = g6.next) g7 g8:=by rw [← hg8];exact Keeps.wr
 rw [hg8] at s7
 have n8:=k8.next
 have r8:=(r6.grow gg7).keep k8 (fun q=>by omega)
 obtain⟨g9,e9,r9,k9⟩:=zKB T.wire r8
 have n9:=k9.next
 obtain⟨E,hE⟩:∃ E,(endR f.1).err = E:=⟨_,rfl⟩
 rw [hE] at e9
 have va2:=(((va.grow ggb).keep kb6 (fun q=>by omega)).grow gg7).keep k8 (fun q=>by omega)
 have va9:=va2.keep k9 (fun q=>by omega)
 have v9:=v8.keep k9 (fun q=>by omega)
 have o1':=((((o1.keep k16 (fun A hA q=>by omega)).bound.grow gg7).keep k8 (fun A hA q=>by have:=hA.2;omega)).keep k9 (fun A hA q=>by have:=hA.1;omega))
 have o2':=((((o2.keep k26 (fun A hA q=>by omega)).bound.grow gg7).keep k8 (fun A hA q=>by have:=hA.2;omega)).keep k9 (fun A hA q=>by have:=hA.1;omega))
 have o6':=(((o6.bound.grow gg7).keep k8 (fun A hA q=>by have:=hA.2;omega)).keep k9 (fun A hA q=>by have:=hA.1;omega))
 have gAll:Grows h g9:=((((gga.trans ggb).then kb6 (fun A hA q=>by omega)).trans gg7).then k8 (fun A hA q=>by omega)).then k9 (fun A hA q=>by omega)
 have ld:∀ sp,g9.loadN ⟨g6.next,0,sp⟩ 13 = some C:=fun sp=>v9.loadAll hCl
 have sv:zn g9 13 (.pointer (some ⟨h.next,0,none⟩)) (.agg C.toArray) = some (.tuple #[],g9.wr h.next C):=va9.storeAll hCl hZl (by decide) hCo
 have sz:zn g9 13 (.pointer (some ⟨h.next,0,none⟩)) (.agg Z.toArray) = some (.tuple #[],g9.wr h.next Z):=va9.storeAll hZl hZl (by decide) hZo
 have gW:∀ l,Grows h (g9.wr h.next l):=fun l=>gAll.wr (by omega)
 rw [eX]
 subst hZ
 by_cases c0:E = 0
 ·have b0:((E:Int) == 0) = true:=by rw [c0];rfl
  (repeat (first|refine zS ?_|refine zK ?_|refine zR ?_|refine zD ?_|refine zB ?_|refine zI ?_|refine zJ ?_|refine zP ?_|refine zE ?_|refine zG ?_|refine zF ?_|refine zH (by decide) ?_|refine zQ ?_|((first|refine zC ?_|refine zM ?_|refine zO rfl rfl ?_|refine zN rfl ?_|refine zL ?_);simp only [yq42.down,zA,lemS.down,lemC.down,zex,zew,zeu,reduceIte,zev,zey,zez,ze0,ze1,ze2,ze3,ze4,ze5,reduceCtorEq,lemH.down,hga,hR,eb,e1,e2,e3,e4,e5,e6,fl,hg7,s7,e9,b0,ld,sv,Bool.not_true,Bool.not_false])))
  have eQ:dsQ (f.1,⟨a.2,b.2,c.2,d.2,e.2,f.2⟩) = (0,⟨a.2,b.2,c.2,d.2,e.2,f.2⟩):=by simp only [dsQ,hE,if_pos c0]
  rw [eQ]
  refine ⟨.inr rfl,_,res2 (a:=⟨h.next,0,none⟩) (by simp only [yq42.down,zA,lemS.down,lemC.down,zex,zew,zeu,reduceIte,zev,zey,zez,ze0,ze1,ze2,ze3,ze4,ze5,reduceCtorEq]) (va9.wr.loadAll hCl) (by (simp only [yq42.down,zA,lemS.down,lemC.down,zex,zew,zeu,reduceIte,zev,zey,zez,ze0,ze1,ze2,ze3,ze4,ze5,reduceCtorEq])<;>rfl),_,_,_,by rw [hC];rfl,?_,gW C⟩
  have om:=(o1'.keep (Keeps.wr (A:=h.next) (l:=C)) (fun A hA q=>by have:=hA.1;omega)).mono (T:=fun A=>h.next≤A) (fun A hA=>by have:=hA.1;omega)
  refine ⟨⟨h1.1,om.ints (zCc h1.2.1).1,h1.2.2⟩,om,(o2'.keep Keeps.wr (fun A hA q=>by have:=hA.1;omega)).mono (fun A hA=>by have:=hA.1;omega),f2,(o6'.keep Keeps.wr (fun A hA q=>by have:=hA.1;omega)).mono (fun A hA=>by have:=hA.1;omega),f6⟩
 ·have b0:((E:Int) == 0) = false:=by rw [beq_eq_false_iff_ne];omega
  (repeat (first|refine zS ?_|refine zK ?_|refine zR ?_|refine zD ?_|refine zB ?_|refine zI ?_|refine zJ ?_|refine zP ?_|refine zE ?_|refine zG ?_|refine zF ?_|refine zH (by decide) ?_|refine zQ ?_|((first|refine zC ?_|refine zM ?_|refine zO rfl rfl ?_|refine zN rfl ?_|refine zL ?_);simp only [yq42.down,zA,lemS.down,lemC.down,zex,zew,zeu,reduceIte,zev,zey,zez,ze0,ze1,ze2,ze3,ze4,ze5,reduceCtorEq,lemH.down,hga,hR,eb,e1,e2,e3,e4,e5,e6,fl,hg7,s7,e9,b0,zBO,sz,Bool.not_true,Bool.not_false])))
  have eQ:dsQ (f.1,⟨a.2,b.2,c.2,d.2,e.2,f.2⟩) = (E,zeroS):=by simp only [dsQ,hE,if_neg c0]
  rw [eQ]
  refine ⟨.inr rfl,_,res2 (a:=⟨h.next,0,none⟩) (by simp only [yq42.down,zA,lemS.down,lemC.down,zex,zew,zeu,reduceIte,zev,zey,zez,ze0,ze1,ze2,ze3,ze4,ze5,reduceCtorEq]) (va9.wr.loadAll rfl) (by (simp only [yq42.down,zA,lemS.down,lemC.down,zex,zew,zeu,reduceIte,zev,zey,zez,ze0,ze1,ze2,ze3,ze4,ze5,reduceCtorEq])<;>rfl),.slice none 0 0,.slice none 0 0,.slice none 0 0,rfl,?_,gW _⟩
  exact⟨zGt,Own.nil,Own.nil,by simp [zeroS],Own.nil,by show 0≤256;omega⟩
end Go.X
end
section
open Go Go.X
namespace Go.X
set_option linter.unusedVariables false
def esB (x:SV):List UInt8:=zA6 x.hd ++ zBN x.tags ++ zCQ x.key ++ numB (bitN x.has) 1 ++ zCQ x.value ++ pfB x.pf
structure ETab (pr:Prog):Prop where
 wire:zAL pr
 bool:zDN pr
 head:zGu pr
 cert:zGw pr
 pp:PPTab pr
 tp:TPTab pr
 tx:zDS pr
 es:pr.prim 45 = none
 esC:pr.code 45 = some xq45
 et:pr.prim 46 = none
 etC:pr.code 46 = some xq46
theorem Var.part {h:Heap} {A:Nat} {l:List Value} (hv:Var h A l) {i k:Nat} (hik:i + k≤l.length):∀ sp,h.loadN ⟨A,i,sp⟩ k = some ((l.drop i).take k):=fun sp=>by
 have:=zH0 (a:=⟨A,0,none⟩) (hv.loadAll (n:=l.length) rfl (sp:=none)) hik (sp:=sp)
 simp only [Nat.zero_add] at this
 exact this
theorem ES_run {pr:Prog} (T:ETab pr) {h:Heap} {N:Nat} {x:SV} {mv tv pv:Value} (ok:SOk h N x mv tv pv) (hE:zAy x.hd = 0) (hk:x.key.length≤32) (hv:x.value.length≤64) (ht:x.tags.length≤256) (hm:x.hd.m.length≤256) :
  ∃ w h',cfi pr 45 [.agg (zDp x mv tv pv).toArray] h = some (w,h')∧w = .tuple #[.string (strOf (esB x)),.int .i64 0]∧Grows h h':=by
 have hr64:zU = 140737488355328:=rfl
 refine zAA T.es T.esC rfl ?_
 unfold xq45
 dsimp only [zh]
 refine wpk.out (k:=[]) ?_
 obtain⟨hx,om,ot,ft,op,fp⟩:=ok
 obtain⟨x,tags,key,has,value,pf⟩:=x
 obtain⟨g1,hg1,v1,gg1,gn1⟩:=box5 (h:=h) (zDp ⟨x,tags,key,has,value,pf⟩ mv tv pv)
 obtain⟨C,hC⟩:∃ C:List Value,C = zDp ⟨x,tags,key,has,value,pf⟩ mv tv pv:=⟨_,rfl⟩
 have hCl:C.length = 13:=by rw [hC];rfl
 have c0:(C.drop 0).take 5 = zm x mv:=by rw [hC];rfl
 have c5:(C.drop 5).take 1 = [tv]:=by rw [hC];rfl
 have c9:(C.drop 9).take 4 = zDD pf pv:=by rw [hC];rfl
 have c6:C[6]? = some (.string (strOf key)):=by rw [hC];rfl
 have c7:C[7]? = some (.bool has):=by rw [hC];rfl
 have c8:C[8]? = some (.string (strOf value)):=by rw [hC];rfl
 have v1:Var g1 h.next C:=by rw [hC];exact v1
 rw [← hC] at hg1
 have lH:∀ g,Var g h.next C→∀ sp,g.loadN ⟨h.next,0,sp⟩ 5 = some (zm x mv):=fun g v sp=>by rw [v.part (by omega),c0]
 have hg1':h.new (zDp ⟨x,tags,key,has,value,pf⟩ mv tv pv) = g1:=by rw [← hC];exact hg1
 have hEx:zAy x = 0:=hE
 have hx:HdAt h x mv:=hx
 have bm:=(zCc hx.2.1).1
 have sti:∀ h',Grows h h'→zAl h' mv = some x.m:=fun h' q=>(om.grow q).ints bm
 have hx1:HdAt g1 x mv:=⟨hx.1,sti g1 gg1,hx.2.2⟩
 have em:cfi pr 64 [.agg (zm x mv).toArray] g1 = some (.int .i64 0,g1):=by
  have:=zEA T.head.chk (zHk hx1)
  rw [hEx] at this
  exact this
 obtain⟨g2,e2,w2,gg2⟩:=zJ8 T.wire g1
 obtain⟨W,hW⟩:∃ W,g1.next = W:=⟨_,rfl⟩
 rw [hW] at e2 w2
 have n2:=gg2.next
 have w2:WrS g2 W (fun A=>W≤A) []:=w2
 have hS0:∀ A,A < h.next→¬ (W≤A):=fun A hA q=>by omega
 have G2:Grows h g2:=gg1.trans gg2
 have v2:=v1.grow gg2
 have hm:x.m.length≤256:=hm
 have ht:tags.length≤256:=ht
 have hk:key.length≤32:=hk
 have hv:value.length≤64:=hv
 obtain⟨g3,e3,w3,k3⟩:=PutS T.head G2 hS0 w2 (fun A hA=>by show W≤A;omega) hx sti (by simp;omega)
 have G3:Grows h g3:=G2.then k3 hS0
 have n3:=k3.next
 have v3:=v2.keep k3 (fun q=>by omega)
 have lC:∀ sp,g3.loadN ⟨h.next,5,sp⟩ 1 = some [tv]:=fun sp=>by rw [v3.part (by omega),c5]
 have lb:([] ++ zA6 x).length≤361:=by simp only [List.nil_append,zLU];omega
 obtain⟨g4,e4,w4,k4⟩:=zKA T.cert G3 hS0 w3 (fun A hA=>by show W≤A;omega) (ot.rdTags ft) (by show tags.length≤1000000;omega) (by omega)
 have G4:Grows h g4:=G3.then k4 hS0
 have n4:=k4.next
 have v4:=v3.keep k4 (fun q=>by omega)
 have l6:∀ sp,g4.load ⟨h.next,6,sp⟩ = some (.string (strOf key)):=fun sp=>by rw [v4.load];exact c6
 have lb4:([] ++ zA6 x ++ zBN tags).length≤9000:=by rw [List.length_append,zKw];omega
 obtain⟨g5,e5,w5,k5⟩:=zFd T.wire w4 (fun A hA=>by show W≤A;omega) key (by rw [hr64];simp only [List.length_append] at lb4 ⊢;omega)
 have G5:Grows h g5:=G4.then k5 hS0
 have n5:=k5.next
 have v5:=v4.keep k5 (fun q=>by omega)
 have l7:∀ sp,g5.load ⟨h.next,7,sp⟩ = some (.bool has):=fun sp=>by rw [v5.load];exact c7
 obtain⟨g6,e6,w6,k6⟩:=WBoolS T.bool w5 (fun A hA=>by show W≤A;omega) has (by simp only [List.length_append,zAH] at lb4 ⊢;omega)
 have G6:Grows h g6:=G5.then k6 hS0
 have n6:=k6.next
 have v6:=v5.keep k6 (fun q=>by omega)
 have l8:∀ sp,g6.load ⟨h.next,8,sp⟩ = some (.string (strOf value)):=fun sp=>by rw [v6.load];exact c8
 obtain⟨g7,e7,w7,k7⟩:=zFd T.wire w6 (fun A hA=>by show W≤A;omega) value (by simp only [List.length_append,zAH] at lb4 ⊢;omega)
 have G7:Grows h g7:=G6.then k7 hS0
 have n7:=k7.next
 have v7:=v6.keep k7 (fun q=>by omega)
 have l9:∀ sp,g7.loadN ⟨h.next,9,sp⟩ 4 = some (zDD pf pv):=fun sp=>by rw [v7.part (by omega),c9]
 have op7:=op.bound.grow G7
 obtain⟨g8,e8,w8,k8⟩:=PPutS T.pp w7 (fun A hA=>by show W≤A;omega) op7 (fun A _ q=>by have:=q.2;show ¬ (W≤A);omega) fp (by simp only [List.length_append,zAH] at lb4 ⊢;omega)
 have G8:Grows h g8:=G7.then k8 hS0
 have w8':Wr g8 W W _:=w8
 have e9:=zKF T.wire w8'
 (repeat (first|refine zS ?_|refine zK ?_|refine zR ?_|refine zD ?_|refine zB ?_|refine zI ?_|refine zJ ?_|refine zP ?_|refine zE ?_|refine zG ?_|refine zF ?_|refine zH (by decide) ?_|refine zQ ?_|((first|refine zC ?_|refine zM ?_|refine zO rfl rfl ?_|refine zN rfl ?_|refine zL ?_);simp only [yq45.down,zA,lemS.down,lemC.down,zex,zew,zeu,reduceIte,zev,zey,zez,ze0,ze1,ze2,ze3,ze4,ze5,reduceCtorEq,lemH.down,hg1',lH g1 v1,em,e2,lH g2 v2,e3,lC,e4,l6,e5,l7,e6,l8,e7,l9,e8,e9,Nat.zero_add,Nat.add_zero])))
 refine ⟨.inr rfl,_,by (simp only [yq45.down,zA,lemS.down,lemC.down,zex,zew,zeu,reduceIte,zev,zey,zez,ze0,ze1,ze2,ze3,ze4,ze5,reduceCtorEq,zw,zAO,resX,zAX])<;>rfl,?_,G8⟩
 have e:esB ⟨x,tags,key,has,value,pf⟩ = [] ++ zA6 x ++ zBN tags ++ numB key.length 4 ++ key ++ numB (bitN has) 1 ++ numB value.length 4 ++ value ++ pfB pf:=by simp only [esB,zCQ,List.nil_append,List.append_assoc]
 rw [e]
end Go.X
end
section
open Go Go.X
namespace Go.X
set_option linter.unusedVariables false
structure XV where
 hd:Hdr
 tags:TagL
 tx:TxV
 at_:Nat
 many:Nat
 path:List (List UInt8)
def zBs:XV:=⟨zDM,[],zBG,0,0,[]⟩
def zNR (x:XV) (mv tv ov:Value):List Value:=zm x.hd mv ++ [tv] ++ zCk x.tx ov ++ [.int .i64 (x.at_:Int),.int .i64 (x.many:Int)]
def zEh (x:XV) (mv tv ov pv:Value):List Value:=zNR x mv tv ov ++ [pv]
def dtX (r:RS):RS×XV:=
 ((zAW (zc (zc (zc (txR (zs (zAE r).1).1).1 16).1 16).1 8).2 (zc (zc (zc (txR (zs (zAE r).1).1).1 16).1 16).1 8).1 []).1,⟨(zAE r).2,(zs (zAE r).1).2,(txR (zs (zAE r).1).1).2,(zc (txR (zs (zAE r).1).1).1 16).2,(zc (zc (txR (zs (zAE r).1).1).1 16).1 16).2,(zAW (zc (zc (zc (txR (zs (zAE r).1).1).1 16).1 16).1 8).2 (zc (zc (zc (txR (zs (zAE r).1).1).1 16).1 16).1 8).1 []).2⟩)
def dtQ (p:RS×XV):Nat×XV:=if (endR p.1).err = 0 then (0,p.2) else ((endR p.1).err,zBs)
def dtR (s:List UInt8):Nat×XV:=dtQ (dtX ⟨s,0,0⟩)
structure XOk (h:Heap) (N:Nat) (x:XV) (mv tv ov pv:Value):Prop where
 hd:HdAt h x.hd mv
 mem:Own h (fun A=>N≤A) 1 mv x.hd.m.length (zAo x.hd.m)
 tags:Own h (fun A=>N≤A) 2 tv x.tags.length (zAM x.tags)
 fine:∀ q ∈ x.tags,inI q.1
 ops:Own h (fun A=>N≤A) 3 ov x.tx.ops.length (zAh x.tx.ops)
 okO:∀ o ∈ x.tx.ops,okO o
 few:x.tx.ops.length≤8
 path:Own h (fun A=>N≤A) 1 pv x.path.length (zAj x.path)
 short:x.path.length≤8
theorem set_last {C:List Value} {n:Nat} (hC:C.length = n) (v w:Value):(C ++ [v]).set n w = C ++ [w]:=by
 subst hC
 rw [List.set_append_right _ _ (Nat.le_refl _)]
 simp
theorem DT_run {pr:Prog} (T:DTab pr) {h:Heap} {s:List UInt8} (hs:s.length≤9223372036854775807) :
  ∃ w h',cfi pr 43 [.string (strOf s)] h = some (w,h')∧∃ mv tv ov pv,w = .tuple #[.agg (zEh (dtR s).2 mv tv ov pv).toArray,.int .i64 ((dtR s).1:Int)]∧XOk h' h.next (dtR s).2 mv tv ov pv∧Grows h h':=by
 have hr64:zU = 140737488355328:=rfl
 refine zAA T.dt T.dtC rfl ?_
 unfold xq43
 dsimp only [zh]
 refine wpk.out (k:=[]) ?_
 obtain⟨Z,hZ⟩:∃ Z:List Value,Z = [.int .u64 0,.string (strOf []),.string (strOf []),.string (strOf []),.slice none 0 0,.slice none 0 0,.int .u64 0,.int .u64 0,.slice none 0 0,.int .i64 0,.int .i64 0,.slice none 0 0]:=⟨_,rfl⟩
 have hZl:Z.length = 12:=by rw [hZ];rfl
 have hZo:Z.all oneC = true:=by rw [hZ];rfl
 obtain⟨ga,hga,va,gga,gna⟩:=box5 (h:=h) Z
 obtain⟨gb,eb,rb,ggb⟩:=zJ7 T.wire ga s hs
 have nb:=ggb.next
 obtain⟨R,hR⟩:∃ R,ga.next = R:=⟨_,rfl⟩
 rw [hR] at eb rb nb
 have hRb:R < gb.next:=rb.2.1
 obtain⟨w1,g1,e1,mv,rfl,r1,o1,h1,k1⟩:=HT_run T.hd rb
 obtain⟨a,ha⟩:∃ a,zAE ⟨s,0,0⟩ = a:=⟨_,rfl⟩
 rw [ha] at e1 r1 o1 h1
 obtain⟨tv,g2,e2,r2,o2,f2,k2⟩:=zKD T.ct r1
 obtain⟨b,hb⟩:∃ b,zs a.1 = b:=⟨_,rfl⟩
 rw [hb] at r2 o2 f2
 obtain⟨w3,g3,e3,ov,rfl,r3,o3,f3,l3,k3⟩:=TT_run T.tt r2
 obtain⟨c,hc⟩:∃ c,txR b.1 = c:=⟨_,rfl⟩
 rw [hc] at e3 r3 o3 f3 l3
 obtain⟨g4,e4,r4,k4⟩:=zD3 T.wire r3 16 (by omega)
 obtain⟨d,hd⟩:∃ d,zc c.1 16 = d:=⟨_,rfl⟩
 rw [hd] at e4 r4
 have e4:cfi pr 108 [.pointer (some ⟨R,0,none⟩),.int .i64 16] g3 = some (.int .i64 (d.2:Int),g4):=e4
 obtain⟨g5,e5,r5,k5⟩:=zD3 T.wire r4 16 (by omega)
 obtain⟨e,he⟩:∃ e,zc d.1 16 = e:=⟨_,rfl⟩
 rw [he] at e5 r5
 have e5:cfi pr 108 [.pointer (some ⟨R,0,none⟩),.int .i64 16] g4 = some (.int .i64 (e.2:Int),g5):=e5
 have n1:=k1.next
 have n2:=k2.next
 have n3:=k3.next
 have k35:Keeps (fun A=>A = R) g3 g5:=k4.trans k5 (fun _ _ q=>q)
 have n35:=k35.next
 have k25:Keeps (fun A=>A = R) g2 g5:=k3.trans k35 (fun _ _ q=>q)
 have k15:Keeps (fun A=>A = R) g1 g5:=k2.trans k25 (fun _ _ q=>q)
 have kb5:Keeps (fun A=>A = R) gb g5:=k1.trans k15 (fun _ _ q=>q)
 obtain⟨av,cv,rfl,_⟩:=o1.shape
 obtain⟨at_,ct,rfl,_⟩:=o2.shape
 obtain⟨ao,co,rfl,_⟩:=o3.shape
 obtain⟨g7,hg7,v7,gg7,gn7⟩:=box5 (h:=g5) Z
 obtain⟨C,hC⟩:∃ C:List Value,C = zNR ⟨a.2,b.2,c.2,d.2,e.2,[]⟩ (.slice av a.2.m.length cv) (.slice at_ b.2.length ct) (.slice ao c.2.ops.length co):=⟨_,rfl⟩
 have hCl:C.length = 11:=by rw [hC];rfl
 have hCo:C.all oneC = true:=by rw [hC];rfl
 have fl:zAB Z [(0,5,.agg (zm a.2 (.slice av a.2.m.length cv)).toArray),(5,1,.agg [.slice at_ b.2.length ct].toArray),(6,3,.agg (zCk c.2 (.slice ao c.2.ops.length co)).toArray),(9,1,.int .i64 (d.2:Int)),(10,1,.int .i64 (e.2:Int))] = some (C ++ [Value.slice none 0 0]):=by rw [hZ,hC];rfl
 obtain⟨B,hB⟩:∃ B,g5.next = B:=⟨_,rfl⟩
 have s7:zn g7 12 (.pointer (some ⟨B,0,none⟩)) (.agg (C ++ [Value.slice none 0 0]).toArray) = some (.tuple #[],g7.wr B (C ++ [Value.slice none 0 0])):=by rw [← hB];exact v7.storeAll (vs:=C ++ [Value.slice none 0 0]) (by rw [List.length_append,hCl];rfl) hZl (by decide) (by rw [List.all_append,hCo];rfl)
 obtain⟨g8,hg8⟩:∃ g8,g7.wr B (C ++ [Value.slice none 0 0]) = g8:=⟨_,rfl⟩
 have v8:Var g8 B (C ++ [Value.slice none 0 0]):=by rw [← hg8,← hB];exact v7.wr
 have k8:Keeps (fun A=>A = B) g7 g8:=by rw [← hg8];exact Keeps.wr
 have n8e:g8.next = B + 1:=by rw [← hg8,← hB];exact gn7
 rw [hg8] at s7
 have n8:=k8.next
 have r8:=(r5.grow gg7).keep k8 (fun q=>by omega)
 have va8:=(((va.grow ggb).keep kb5 (fun q=>by omega)).grow gg7).keep k8 (fun q=>by omega)
 have o1':=(((o1.keep k15 (fun A hA q=>by omega)).bound.grow gg7).keep k8 (fun A hA q=>by have:=hA.2;omega)).mono (T:=fun A=>h.next≤A∧A < B∧A≠R∧A≠h.next) (fun A hA=>by have:=hA.1;have:=hA.2;omega)
 have o2':=(((o2.keep k25 (fun A hA q=>by omega)).bound.grow gg7).keep k8 (fun A hA q=>by have:=hA.2;omega)).mono (T:=fun A=>h.next≤A∧A < B∧A≠R∧A≠h.next) (fun A hA=>by have:=hA.1;have:=hA.2;omega)
 have o3':=(((o3.keep k35 (fun A hA q=>by omega)).bound.grow gg7).keep k8 (fun A hA q=>by have:=hA.2;omega)).mono (T:=fun A=>h.next≤A∧A < B∧A≠R∧A≠h.next) (fun A hA=>by have:=hA.1;have:=hA.2;omega)
 have G8:Grows h g8:=(((gga.trans ggb).then kb5 (fun A hA q=>by omega)).trans gg7).then k8 (fun A hA q=>by omega)
 obtain⟨g9,e9,r9,k9⟩:=zD3 T.wire r8 8 (by omega)
 have n9:=k9.next
 have hcm:=zEB e.1 8
 obtain⟨f,hf⟩:∃ f,zc e.1 8 = f:=⟨_,rfl⟩
 rw [hf] at e9 r9 hcm
 have e9:cfi pr 108 [.pointer (some ⟨R,0,none⟩),.int .i64 8] g8 = some (.int .i64 (f.2:Int),g9):=e9
 obtain⟨Q,hQ⟩:∃ Q,zAW f.2 f.1 [] = Q:=⟨_,rfl⟩
 have eX:dtR s = dtQ (Q.1,⟨a.2,b.2,c.2,d.2,e.2,Q.2⟩):=by unfold dtR dtX;rw [ha,hb,hc,hd,he,hf,hQ]
 have hBh:h.next < B:=by omega
 have hRB:R < B:=by omega
 have hRh:h.next < R:=by omega
 subst hZ
 (repeat (first|refine zS ?_|refine zK ?_|refine zR ?_|refine zD ?_|refine zB ?_|refine zI ?_|refine zJ ?_|refine zP ?_|refine zE ?_|refine zG ?_|refine zF ?_|refine zH (by decide) ?_|refine zQ ?_|((first|refine zC ?_|refine zM ?_|refine zO rfl rfl ?_|refine zN rfl ?_|refine zL ?_);simp only [yq43.down,zA,lemS.down,lemC.down,zex,zew,zeu,reduceIte,zev,zey,zez,ze0,ze1,ze2,ze3,ze4,ze5,reduceCtorEq,lemH.down,hga,hR,eb,e1,e2,e3,e4,e5,fl,hg7,hB,s7,e9])))
 refine zAG (fun m t g=>∃ r2 acc v,m + acc.length≤8∧zAW m r2 acc = Q∧Rd g R r2∧Own g (fun A=>B < A) 1 v acc.length (zAj acc)∧Var g B (C ++ [v])∧Keeps (fun A=>A = R∨A = B) g8 g∧B < g.next∧t.get 2 = .pointer (some ⟨h.next,0,none⟩)∧t.get 4 = .pointer (some ⟨R,0,none⟩)∧t.get 5 = .pointer (some ⟨B,0,none⟩)∧t.get 6 = .int .i64 (m:Int)) ?_ f.2 _ _
   ⟨_,[],_,by simp;omega,hQ,r9,Own.nil,v8.keep k9 (fun q=>by omega),k9.mono fun A _ q=>.inl q,by omega,by simp only [yq43.down,zA,lemS.down,lemC.down,zex,zew,zeu,reduceIte,zev,zey,zez,ze0,ze1,ze2,ze3,ze4,ze5,reduceCtorEq],by simp only [yq43.down,zA,lemS.down,lemC.down,zex,zew,zeu,reduceIte,zev,zey,zez,ze0,ze1,ze2,ze3,ze4,ze5,reduceCtorEq],by simp only [yq43.down,zA,lemS.down,lemC.down,zex,zew,zeu,reduceIte,zev,zey,zez,ze0,ze1,ze2,ze3,ze4,ze5,reduceCtorEq],by simp only [yq43.down,zA,lemS.down,lemC.down,zex,zew,zeu,reduceIte,zev,zey,zez,ze0,ze1,ze2,ze3,ze4,ze5,reduceCtorEq]⟩
 have zz:=@zGt
 rintro m t g ⟨r2,acc,v,hm,hL,rd,oc,vb,kk,gn,t2,t4,t5,t6⟩ hnext
 refine xq43_7k ?_
 dsimp only [zJz]
 have er:=zAb T.wire rd
 have kkn:=kk.next
 have vz:=va8.keep kk (fun q=>by omega)
 obtain⟨ap,cp,rfl,_⟩:=oc.shape
 have q1:=o1'.keep kk (fun A hA q=>by omega)
 have q2:=o2'.keep kk (fun A hA q=>by omega)
 have q3:=o3'.keep kk (fun A hA q=>by omega)
 have Gg:Grows h g:=G8.then kk (fun A hA q=>by omega)
 have fin:zAW m r2 acc = (r2,acc)→dtR s = dtQ (r2,⟨a.2,b.2,c.2,d.2,e.2,acc⟩):=fun e=>by rw [eX,← hL,e]
 obtain⟨gE,eE,rE,kE⟩:=zKB T.wire rd
 obtain⟨E,hE⟩:∃ E,(endR r2).err = E:=⟨_,rfl⟩
 rw [hE] at eE
 have vbE:=vb.keep kE (fun q=>by omega)
 have vzE:=vz.keep kE (fun q=>by omega)
 have hl12:(C ++ [Value.slice ap acc.length cp]).length = 12:=by rw [List.length_append,hCl];rfl
 have ho12:(C ++ [Value.slice ap acc.length cp]).all oneC = true:=by rw [List.all_append,hCo];rfl
 have ld:∀ sp,gE.loadN ⟨B,0,sp⟩ 12 = some (C ++ [Value.slice ap acc.length cp]):=fun sp=>vbE.loadAll hl12
 have sv:zn gE 12 (.pointer (some ⟨h.next,0,none⟩)) (.agg (C ++ [Value.slice ap acc.length cp]).toArray) = some (.tuple #[],gE.wr h.next (C ++ [Value.slice ap acc.length cp])):=vzE.storeAll hl12 rfl (by decide) ho12
 have sz:zn gE 12 (.pointer (some ⟨h.next,0,none⟩)) (.agg [.int .u64 0,.string (strOf []),.string (strOf []),.string (strOf []),.slice none 0 0,.slice none 0 0,.int .u64 0,.int .u64 0,.slice none 0 0,.int .i64 0,.int .i64 0,.slice none 0 0].toArray) = some (.tuple #[],gE.wr h.next [.int .u64 0,.string (strOf []),.string (strOf []),.string (strOf []),.slice none 0 0,.slice none 0 0,.int .u64 0,.int .u64 0,.slice none 0 0,.int .i64 0,.int .i64 0,.slice none 0 0]):=vzE.storeAll rfl rfl (by decide) rfl
 have gW:∀ l,Grows h (gE.wr h.next l):=fun l=>(Gg.then kE (fun A hA q=>by omega)).wr (by omega)
 have okF:XOk (gE.wr h.next (C ++ [Value.slice ap acc.length cp])) h.next ⟨a.2,b.2,c.2,d.2,e.2,acc⟩ (.slice av a.2.m.length cv) (.slice at_ b.2.length ct) (.slice ao c.2.ops.length co) (.slice ap acc.length cp):=by
  have om:=((q1.keep kE (fun A hA q=>by omega)).keep (Keeps.wr (A:=h.next) (l:=C ++ [Value.slice ap acc.length cp])) (fun A hA q=>by omega)).mono (T:=fun A=>h.next≤A) (fun A hA=>by omega)
  exact⟨⟨h1.1,om.ints (zCc h1.2.1).1,h1.2.2⟩,om,((q2.keep kE (fun A hA q=>by omega)).keep Keeps.wr (fun A hA q=>by omega)).mono (fun A hA=>by omega),f2,((q3.keep kE (fun A hA q=>by omega)).keep Keeps.wr (fun A hA q=>by omega)).mono (fun A hA=>by omega),f3,l3,((oc.keep kE (fun A hA q=>by omega)).keep Keeps.wr (fun A hA q=>by omega)).mono (fun A hA=>by omega),by show acc.length≤8;omega⟩
 have eC:C ++ [Value.slice ap acc.length cp] = zEh ⟨a.2,b.2,c.2,d.2,e.2,acc⟩ (.slice av a.2.m.length cv) (.slice at_ b.2.length ct) (.slice ao c.2.ops.length co) (.slice ap acc.length cp):=by rw [hC];rfl
 cases m with
 | zero=>
  have eX2:=fin rfl
  rw [eX2]
  by_cases cE:E = 0
  ·have bE:((E:Int) == 0) = true:=by rw [cE];rfl
   (repeat (first|refine zS ?_|refine zK ?_|refine zR ?_|refine zD ?_|refine zB ?_|refine zI ?_|refine zJ ?_|refine zP ?_|refine zE ?_|refine zG ?_|refine zF ?_|refine zH (by decide) ?_|refine zQ ?_|((first|refine zC ?_|refine zM ?_|refine zO rfl rfl ?_|refine zN rfl ?_|refine zL ?_);simp only [yq43.down,zA,lemS.down,lemC.down,zex,zew,zeu,reduceIte,zev,zey,zez,ze0,ze1,ze2,ze3,ze4,ze5,reduceCtorEq,lemH.down,t2,t4,t5,t6,Nat.add_zero,zi,er,eE,bE,ld,sv,Bool.not_true,Bool.not_false])))
   have eQ:dtQ (r2,⟨a.2,b.2,c.2,d.2,e.2,acc⟩) = (0,⟨a.2,b.2,c.2,d.2,e.2,acc⟩):=by simp only [dtQ,hE,if_pos cE]
   rw [eQ]
   exact⟨.inr rfl,_,res2 (a:=⟨h.next,0,none⟩) (by simp only [yq43.down,zA,lemS.down,lemC.down,zex,zew,zeu,reduceIte,zev,zey,zez,ze0,ze1,ze2,ze3,ze4,ze5,reduceCtorEq,t2]) (vzE.wr.loadAll hl12) (by (simp only [yq43.down,zA,lemS.down,lemC.down,zex,zew,zeu,reduceIte,zev,zey,zez,ze0,ze1,ze2,ze3,ze4,ze5,reduceCtorEq])<;>rfl),_,_,_,_,by rw [eC];rfl,okF,gW _⟩
  ·have bE:((E:Int) == 0) = false:=by rw [beq_eq_false_iff_ne];omega
   (repeat (first|refine zS ?_|refine zK ?_|refine zR ?_|refine zD ?_|refine zB ?_|refine zI ?_|refine zJ ?_|refine zP ?_|refine zE ?_|refine zG ?_|refine zF ?_|refine zH (by decide) ?_|refine zQ ?_|((first|refine zC ?_|refine zM ?_|refine zO rfl rfl ?_|refine zN rfl ?_|refine zL ?_);simp only [yq43.down,zA,lemS.down,lemC.down,zex,zew,zeu,reduceIte,zev,zey,zez,ze0,ze1,ze2,ze3,ze4,ze5,reduceCtorEq,lemH.down,t2,t4,t5,t6,Nat.add_zero,zi,er,eE,bE,zBO,sz,Bool.not_true,Bool.not_false])))
   have eQ:dtQ (r2,⟨a.2,b.2,c.2,d.2,e.2,acc⟩) = (E,zBs):=by simp only [dtQ,hE,if_neg cE]
   rw [eQ]
   exact⟨.inr rfl,_,res2 (a:=⟨h.next,0,none⟩) (by simp only [yq43.down,zA,lemS.down,lemC.down,zex,zew,zeu,reduceIte,zev,zey,zez,ze0,ze1,ze2,ze3,ze4,ze5,reduceCtorEq,t2]) (vzE.wr.loadAll rfl) (by (simp only [yq43.down,zA,lemS.down,lemC.down,zex,zew,zeu,reduceIte,zev,zey,zez,ze0,ze1,ze2,ze3,ze4,ze5,reduceCtorEq])<;>rfl),.slice none 0 0,.slice none 0 0,.slice none 0 0,.slice none 0 0,rfl,⟨zGt,Own.nil,Own.nil,by simp [zBs],Own.nil,by simp [zBs,zBG],by simp [zBs,zBG],Own.nil,by simp [zBs]⟩,gW _⟩
 | succ m=>
  have d0:decide (((m + 1:Nat):Int) > 0) = true:=decide_eq_true (by omega)
  by_cases c0:r2.err = 0
  ·have b0:((r2.err:Int) == 0) = true:=by rw [c0];rfl
   obtain⟨g1,e1,rd1,k1⟩:=zB9 T.wire rd
   obtain⟨x,hx⟩:∃ x,zX r2 32 = x:=⟨_,rfl⟩
   rw [hx] at e1 rd1
   have hL2:zAW m x.1 (acc ++ [x.2]) = Q:=by
    rw [← hL]
    conv=>rhs;unfold zAW
    rw [if_pos c0,hx]
   have oc1:=oc.keep k1 (fun A hA q=>by omega)
   obtain⟨v2,g2,e2,oc2,k2⟩:=oc1.pushS x.2 (by omega)
   have n1:=k1.next
   have n2:=k2.next
   have hg11:∀ v:Value,(C ++ [v])[11]? = some v:=fun v=>by rw [List.getElem?_append_right (by omega),hCl];rfl
   have l0:∀ sp,g.load ⟨B,11,sp⟩ = some (.slice ap acc.length cp):=fun sp=>by rw [vb.load];exact hg11 _
   have vb1:=vb.keep k1 (fun q=>by omega)
   have l1:∀ sp,(g1.new [.string (strOf x.2)]).load ⟨B,11,sp⟩ = some (.slice ap acc.length cp):=fun sp=>by rw [(vb1.grow Grows.new).load];exact hg11 _
   have vb2:=vb1.keep k2 (fun q=>by omega)
   have st2:zn g2 1 (.pointer (some ⟨B,11,none⟩)) v2 = some (.tuple #[],g2.wr B (C ++ [v2])):=by rw [oc2.store vb2 (by rw [hl12];decide),set_last hCl]
   have flh:zAB [.string (strOf [])] [(0,1,.string (strOf x.2))] = some [.string (strOf x.2)]:=rfl
   have wn:IntKind.i64.wrap (((m + 1:Nat):Int) - 1) = (m:Int):=by rw [wrap_i64 (by omega) (by omega)];omega
   (repeat (first|refine zS ?_|refine zK ?_|refine zR ?_|refine zD ?_|refine zB ?_|refine zI ?_|refine zJ ?_|refine zP ?_|refine zE ?_|refine zG ?_|refine zF ?_|refine zH (by decide) ?_|refine zQ ?_|((first|refine zC ?_|refine zM ?_|refine zO rfl rfl ?_|refine zN rfl ?_|refine zL ?_);simp only [yq43.down,zA,lemS.down,lemC.down,zex,zew,zeu,reduceIte,zev,zey,zez,ze0,ze1,ze2,ze3,ze4,ze5,reduceCtorEq,lemH.down,t2,t4,t5,t6,d0,zi,er,b0,l0,e1,flh,e2,st2,wn])))
   refine ⟨?_,?_⟩
   ·(refine zBb rfl rfl rfl ?_ ?_<;>simp only [yq43.down,zA,lemS.down,lemC.down,zex,zew,zeu,reduceIte,zev,zey,zez,ze0,ze1,ze2,ze3,ze4,ze5,reduceCtorEq,l1,l0,zBV,zBQ,zBW,zBR,zBH,Option.isSome_some])
   (repeat (first|refine zS ?_|refine zK ?_|refine zR ?_|refine zD ?_|refine zB ?_|refine zI ?_|refine zJ ?_|refine zP ?_|refine zE ?_|refine zG ?_|refine zF ?_|refine zH (by decide) ?_|refine zQ ?_|((first|refine zC ?_|refine zM ?_|refine zO rfl rfl ?_|refine zN rfl ?_|refine zL ?_);simp only [yq43.down,zA,lemS.down,lemC.down,zex,zew,zeu,reduceIte,zev,zey,zez,ze0,ze1,ze2,ze3,ze4,ze5,reduceCtorEq,lemH.down,t2,t4,t5,t6,wn,st2])))
   refine hnext m _ _ (Nat.lt_succ_self m) ⟨x.1,acc ++ [x.2],v2,by simp;omega,hL2,(rd1.keep k2 (fun q=>by omega)).keep Keeps.wr (by omega),?_,vb2.wr,((kk.trans k1 (fun _ _ q=>.inl q)).trans k2 (fun A hA q=>by omega)).trans Keeps.wr (fun A hA q=>.inr q),by show B < g2.next;omega,by simp only [yq43.down,zA,lemS.down,lemC.down,zex,zew,zeu,reduceIte,zev,zey,zez,ze0,ze1,ze2,ze3,ze4,ze5,reduceCtorEq,t2],by simp only [yq43.down,zA,lemS.down,lemC.down,zex,zew,zeu,reduceIte,zev,zey,zez,ze0,ze1,ze2,ze3,ze4,ze5,reduceCtorEq,t4],by simp only [yq43.down,zA,lemS.down,lemC.down,zex,zew,zeu,reduceIte,zev,zey,zez,ze0,ze1,ze2,ze3,ze4,ze5,reduceCtorEq,t5],by (simp only [yq43.down,zA,lemS.down,lemC.down,zex,zew,zeu,reduceIte,zev,zey,zez,ze0,ze1,ze2,ze3,ze4,ze5,reduceCtorEq])<;>rfl⟩
   rw [List.length_append]
   exact (oc2.bound.keep (Keeps.wr (A:=B)) (fun A hA q=>by have:=hA.1;omega)).mono fun A hA=>by have:=hA.1;omega
  ·have b0:((r2.err:Int) == 0) = false:=by rw [beq_eq_false_iff_ne];omega
   have eX2:=fin (by unfold zAW;rw [if_neg c0])
   rw [eX2]
   by_cases cE:E = 0
   ·have bE:((E:Int) == 0) = true:=by rw [cE];rfl
    (repeat (first|refine zS ?_|refine zK ?_|refine zR ?_|refine zD ?_|refine zB ?_|refine zI ?_|refine zJ ?_|refine zP ?_|refine zE ?_|refine zG ?_|refine zF ?_|refine zH (by decide) ?_|refine zQ ?_|((first|refine zC ?_|refine zM ?_|refine zO rfl rfl ?_|refine zN rfl ?_|refine zL ?_);simp only [yq43.down,zA,lemS.down,lemC.down,zex,zew,zeu,reduceIte,zev,zey,zez,ze0,ze1,ze2,ze3,ze4,ze5,reduceCtorEq,lemH.down,t2,t4,t5,t6,d0,b0,zi,er,eE,bE,ld,sv,Bool.not_true,Bool.not_false])))
    have eQ:dtQ (r2,⟨a.2,b.2,c.2,d.2,e.2,acc⟩) = (0,⟨a.2,b.2,c.2,d.2,e.2,acc⟩):=by simp only [dtQ,hE,if_pos cE]
    rw [eQ]
    exact⟨.inr rfl,_,res2 (a:=⟨h.next,0,none⟩) (by simp only [yq43.down,zA,lemS.down,lemC.down,zex,zew,zeu,reduceIte,zev,zey,zez,ze0,ze1,ze2,ze3,ze4,ze5,reduceCtorEq,t2]) (vzE.wr.loadAll hl12) (by (simp only [yq43.down,zA,lemS.down,lemC.down,zex,zew,zeu,reduceIte,zev,zey,zez,ze0,ze1,ze2,ze3,ze4,ze5,reduceCtorEq])<;>rfl),_,_,_,_,by rw [eC];rfl,okF,gW _⟩
   ·have bE:((E:Int) == 0) = false:=by rw [beq_eq_false_iff_ne];omega
    (repeat (first|refine zS ?_|refine zK ?_|refine zR ?_|refine zD ?_|refine zB ?_|refine zI ?_|refine zJ ?_|refine zP ?_|refine zE ?_|refine zG ?_|refine zF ?_|refine zH (by decide) ?_|refine zQ ?_|((first|refine zC ?_|refine zM ?_|refine zO rfl rfl ?_|refine zN rfl ?_|refine zL ?_);simp only [yq43.down,zA,lemS.down,lemC.down,zex,zew,zeu,reduceIte,zev,zey,zez,ze0,ze1,ze2,ze3,ze4,ze5,reduceCtorEq,lemH.down,t2,t4,t5,t6,d0,b0,zi,er,eE,bE,zBO,sz,Bool.not_true,Bool.not_false])))
    have eQ:dtQ (r2,⟨a.2,b.2,c.2,d.2,e.2,acc⟩) = (E,zBs):=by simp only [dtQ,hE,if_neg cE]
    rw [eQ]
    exact⟨.inr rfl,_,res2 (a:=⟨h.next,0,none⟩) (by simp only [yq43.down,zA,lemS.down,lemC.down,zex,zew,zeu,reduceIte,zev,zey,zez,ze0,ze1,ze2,ze3,ze4,ze5,reduceCtorEq,t2]) (vzE.wr.loadAll rfl) (by (simp only [yq43.down,zA,lemS.down,lemC.down,zex,zew,zeu,reduceIte,zev,zey,zez,ze0,ze1,ze2,ze3,ze4,ze5,reduceCtorEq])<;>rfl),.slice none 0 0,.slice none 0 0,.slice none 0 0,.slice none 0 0,rfl,⟨zGt,Own.nil,Own.nil,by simp [zBs],Own.nil,by simp [zBs,zBG],by simp [zBs,zBG],Own.nil,by simp [zBs]⟩,gW _⟩
end Go.X
end
section
open Go Go.X
namespace Go.X
set_option linter.unusedVariables false
def etB (x:XV):List UInt8:=zA6 x.hd ++ zBN x.tags ++ txB x.tx.c x.tx.n x.tx.ops ++ numB x.at_ 4 ++ numB x.many 4 ++ numB x.path.length 4 ++ zAZ x.path
theorem txE_zero {n:Nat} {l:List OpV} (h:txE n l = 0):l.length≤8∧∀ o ∈ l,o.2.1.length≤32∧o.2.2.length≤64:=by
 unfold txE at h
 split at h
 ·cases h
 ·rename_i q
  refine ⟨Nat.le_of_not_lt fun p=>q (.inr (.inr (.inl p))),fun o ho=>?_⟩
  have hb:badO l = false:=by
   cases hb:badO l with
   | false=>rfl
   | true=>exact absurd (.inr (.inr (.inr hb))) q
  unfold badO at hb
  rw [List.any_eq_false] at hb
  have:=hb o ho
  simp only [Bool.not_eq_true',Bool.not_eq_false,mayP,Bool.and_eq_true,decide_eq_true_eq] at this
  exact⟨this.1.1.2,this.1.2⟩
theorem ET_run {pr:Prog} (T:ETab pr) {h:Heap} {N:Nat} {x:XV} {mv tv ov pv:Value} (ok:XOk h N x mv tv ov pv) (hE:zAy x.hd = 0) (hT:txE x.tx.n x.tx.ops = 0) (hc:x.tx.c < 18446744073709551616) (hn:x.tx.n < 18446744073709551616) (ha:x.at_ < 4294967296) (hy:x.many < 4294967296) (ht:x.tags.length≤256) (hm:x.hd.m.length≤256) :
  ∃ w h',cfi pr 46 [.agg (zEh x mv tv ov pv).toArray] h = some (w,h')∧w = .tuple #[.string (strOf (etB x)),.int .i64 0]∧Grows h h':=by
 have hr64:zU = 140737488355328:=rfl
 refine zAA T.et T.etC rfl ?_
 unfold xq46
 dsimp only [zh]
 refine wpk.out (k:=[]) ?_
 obtain⟨hx,om,ot,ft,oo,fo,fl,op,fp⟩:=ok
 obtain⟨x,tags,⟨c,n,ops⟩,at_,many,path⟩:=x
 obtain⟨g1,hg1,v1x,gg1,gn1⟩:=box5 (h:=h) (zEh ⟨x,tags,⟨c,n,ops⟩,at_,many,path⟩ mv tv ov pv)
 obtain⟨C,hC⟩:∃ C:List Value,C = zEh ⟨x,tags,⟨c,n,ops⟩,at_,many,path⟩ mv tv ov pv:=⟨_,rfl⟩
 have hCl:C.length = 12:=by rw [hC];rfl
 have c0:(C.drop 0).take 5 = zm x mv:=by rw [hC];rfl
 have c5:(C.drop 5).take 1 = [tv]:=by rw [hC];rfl
 have c6:(C.drop 6).take 3 = zCk ⟨c,n,ops⟩ ov:=by rw [hC];rfl
 have c9:C[9]? = some (.int .i64 (at_:Int)):=by rw [hC];rfl
 have c10:C[10]? = some (.int .i64 (many:Int)):=by rw [hC];rfl
 have c11:C[11]? = some pv:=by rw [hC];rfl
 have v1:Var g1 h.next C:=by rw [hC];exact v1x
 clear v1x
 have hEx:zAy x = 0:=hE
 have hT:txE n ops = 0:=hT
 obtain⟨hl8,hlo⟩:=txE_zero hT
 have hx:HdAt h x mv:=hx
 have hc:c < 18446744073709551616:=hc
 have hn:n < 18446744073709551616:=hn
 have ha:at_ < 4294967296:=ha
 have hy:many < 4294967296:=hy
 have ht:tags.length≤256:=ht
 have hm:x.m.length≤256:=hm
 have fp:path.length≤8:=fp
 have oo:Own h (fun A=>N≤A) 3 ov ops.length (zAh ops):=oo
 have op:Own h (fun A=>N≤A) 1 pv path.length (zAj path):=op
 have bm:=(zCc hx.2.1).1
 have sti:∀ h',Grows h h'→zAl h' mv = some x.m:=fun h' q=>(om.grow q).ints bm
 have hx1:HdAt g1 x mv:=⟨hx.1,sti g1 gg1,hx.2.2⟩
 have lH:∀ g,Var g h.next C→∀ sp,g.loadN ⟨h.next,0,sp⟩ 5 = some (zm x mv):=fun g v sp=>by rw [v.part (by omega),c0]
 have lT:∀ g,Var g h.next C→∀ sp,g.loadN ⟨h.next,6,sp⟩ 3 = some (zCk ⟨c,n,ops⟩ ov):=fun g v sp=>by rw [v.part (by omega),c6]
 have em:cfi pr 64 [.agg (zm x mv).toArray] g1 = some (.int .i64 0,g1):=by
  have:=zEA T.head.chk (zHk hx1)
  rw [hEx] at this
  exact this
 obtain⟨gt,et,ggt⟩:=zKE (c:=(c:Int)) (n:=n) T.tx (oo.grow gg1) fo (by omega)
 rw [hT] at et
 have et:cfi pr 119 [.agg (zCk ⟨c,n,ops⟩ ov).toArray] g1 = some (.int .i64 0,gt):=et
 have nt:=ggt.next
 have vt:=v1.grow ggt
 obtain⟨g2,e2,w2,gg2⟩:=zJ8 T.wire gt
 obtain⟨W,hW⟩:∃ W,gt.next = W:=⟨_,rfl⟩
 rw [hW] at e2 w2
 have n2:=gg2.next
 have w2:WrS g2 W (fun A=>W≤A) []:=w2
 have hS0:∀ A,A < h.next→¬ (W≤A):=fun A hA q=>by omega
 have G2:Grows h g2:=(gg1.trans ggt).trans gg2
 have v2:=vt.grow gg2
 obtain⟨g3,e3,w3,k3⟩:=PutS T.head G2 hS0 w2 (fun A hA=>by show W≤A;omega) hx sti (by simp;omega)
 have G3:Grows h g3:=G2.then k3 hS0
 have n3:=k3.next
 have v3:=v2.keep k3 (fun q=>by omega)
 have lC:∀ sp,g3.loadN ⟨h.next,5,sp⟩ 1 = some [tv]:=fun sp=>by rw [v3.part (by omega),c5]
 have lb:([] ++ zA6 x).length≤361:=by simp only [List.nil_append,zLU];omega
 obtain⟨g4,e4,w4,k4⟩:=zKA T.cert G3 hS0 w3 (fun A hA=>by show W≤A;omega) (ot.rdTags ft) (by show tags.length≤1000000;omega) (by omega)
 have G4:Grows h g4:=G3.then k4 hS0
 have n4:=k4.next
 have v4:=v3.keep k4 (fun q=>by omega)
 have lb4:([] ++ zA6 x ++ zBN tags).length≤9000:=by rw [List.length_append,zKw];omega
 have oo4:=oo.bound.grow G4
 obtain⟨g5,e5,w5,k5⟩:=TPutS T.tp w4 (fun A hA=>by show W≤A;omega) hc hn oo4 (fun A _ q=>by have:=q.2;show ¬ (W≤A);omega) hl8 hlo (by rw [hr64];simp only [List.length_append] at lb4 ⊢;omega)
 have G5:Grows h g5:=G4.then k5 hS0
 have n5:=k5.next
 have v5:=v4.keep k5 (fun q=>by omega)
 have lb5:([] ++ zA6 x ++ zBN tags ++ txB c n ops).length≤10000:=by
  rw [List.length_append]
  have:=zIL hlo
  simp only [txB,List.length_append,zAH] at lb4 ⊢
  omega
 have l9:∀ sp,g5.load ⟨h.next,9,sp⟩ = some (.int .i64 (at_:Int)):=fun sp=>by rw [v5.load];exact c9
 obtain⟨g6,e6,w6,k6⟩:=zD4 T.wire w5 (fun A hA=>by show W≤A;omega) at_ (by omega) (by rw [hr64];simp only [List.length_append] at lb5 ⊢;omega)
 have G6:Grows h g6:=G5.then k6 hS0
 have n6:=k6.next
 have v6:=v5.keep k6 (fun q=>by omega)
 have l10:∀ sp,g6.load ⟨h.next,10,sp⟩ = some (.int .i64 (many:Int)):=fun sp=>by rw [v6.load];exact c10
 obtain⟨g7,e7,w7,k7⟩:=zD4 T.wire w6 (fun A hA=>by show W≤A;omega) many (by omega) (by rw [hr64];simp only [List.length_append,zAH] at lb5 ⊢;omega)
 have G7:Grows h g7:=G6.then k7 hS0
 have n7:=k7.next
 have v7:=v6.keep k7 (fun q=>by omega)
 obtain⟨ap,cp,rfl,_⟩:=op.shape
 have l11:∀ g,Var g h.next C→∀ sp,g.load ⟨h.next,11,sp⟩ = some (.slice ap path.length cp):=fun g v sp=>by rw [v.load];exact c11
 obtain⟨g8,e8,w8,k8⟩:=zD4 T.wire w7 (fun A hA=>by show W≤A;omega) path.length (by omega) (by rw [hr64];simp only [List.length_append,zAH] at lb5 ⊢;omega)
 have G8:Grows h g8:=G7.then k8 hS0
 have n8:=k8.next
 have v8:=v7.keep k8 (fun q=>by omega)
 have op8:=op.bound.grow G8
 (repeat (first|refine zS ?_|refine zK ?_|refine zR ?_|refine zD ?_|refine zB ?_|refine zI ?_|refine zJ ?_|refine zP ?_|refine zE ?_|refine zG ?_|refine zF ?_|refine zH (by decide) ?_|refine zQ ?_|((first|refine zC ?_|refine zM ?_|refine zO rfl rfl ?_|refine zN rfl ?_|refine zL ?_);simp only [yq46.down,zA,lemS.down,lemC.down,zex,zew,zeu,reduceIte,zev,zey,zez,ze0,ze1,ze2,ze3,ze4,ze5,reduceCtorEq,lemH.down,hg1,lH g1 v1,em,lT g1 v1,et,e2,lH g2 v2,e3,lC,e4,lT g4 v4,e5,l9,e6,l10,e7,l11 g7 v7,e8,l11 g8 v8,Nat.zero_add,Nat.add_zero])))
 refine zAG (fun m t g'=>∃ i,m = path.length - i∧i≤path.length∧WrS g' W (fun A=>W≤A) ([] ++ zA6 x ++ zBN tags ++ txB c n ops ++ numB at_ 4 ++ numB many 4 ++ numB path.length 4 ++ zAZ (path.take i))∧Keeps (fun A=>W≤A) g8 g'∧t.get 6 = .pointer (some ⟨W,0,none⟩)∧t.get 48 = .slice ap path.length cp∧t.get 49 = .int .i64 (path.length:Int)∧t.get 50 = .int .i64 (i:Int)) ?_ path.length _ _ ⟨0,rfl,by omega,by simpa [zAZ] using w8,Keeps.refl,by simp only [yq46.down,zA,lemS.down,lemC.down,zex,zew,zeu,reduceIte,zev,zey,zez,ze0,ze1,ze2,ze3,ze4,ze5,reduceCtorEq],by simp only [yq46.down,zA,lemS.down,lemC.down,zex,zew,zeu,reduceIte,zev,zey,zez,ze0,ze1,ze2,ze3,ze4,ze5,reduceCtorEq],by simp only [yq46.down,zA,lemS.down,lemC.down,zex,zew,zeu,reduceIte,zev,zey,zez,ze0,ze1,ze2,ze3,ze4,ze5,reduceCtorEq],by (simp only [yq46.down,zA,lemS.down,lemC.down,zex,zew,zeu,reduceIte,zev,zey,zez,ze0,ze1,ze2,ze3,ze4,ze5,reduceCtorEq])<;>rfl⟩
 rintro m t g' ⟨i,rfl,hi,gw,gk,t6,t48,t49,t50⟩ hnext
 have hbl:(zAZ (path.take i)).length≤256:=by rw [zHj,List.length_take];omega
 have kn:=gk.next
 refine xq46_19k ?_
 dsimp only [zJ0]
 (repeat (first|refine zS ?_|refine zK ?_|refine zR ?_|refine zD ?_|refine zB ?_|refine zI ?_|refine zJ ?_|refine zP ?_|refine zE ?_|refine zG ?_|refine zF ?_|refine zH (by decide) ?_|refine zQ ?_|((first|refine zC ?_|refine zM ?_|refine zO rfl rfl ?_|refine zN rfl ?_|refine zL ?_);simp only [yq46.down,zA,lemS.down,lemC.down,zex,zew,zeu,reduceIte,zev,zey,zez,ze0,ze1,ze2,ze3,ze4,ze5,reduceCtorEq,lemH.down,t6,t48,t49,t50])))
 refine ⟨fun hlt=>?_,fun hge=>?_⟩
 ·have hi':i < path.length:=by omega
  have og:=op8.keep gk (fun A hA q=>by have:=hA.2;omega)
  obtain⟨B,o,ia,ld⟩:=og.at hi'
  have ld:=ld g' og
  rw [zKq path i hi'] at ld
  have ld:=zLl ld
  have eB:=zLT hi'
  have ww:IntKind.i64.wrap ((i:Int) + 1) = ((i + 1:Nat):Int):=by rw [wrap_i64 (by omega) (by omega)];omega
  obtain⟨g9,e9,w9,k9⟩:=zCo T.wire gw (fun A hA=>by show W≤A;omega) (path.getD i []) (by simp only [List.length_append,zAH] at lb5 ⊢;omega)
  (repeat (first|refine zS ?_|refine zK ?_|refine zR ?_|refine zD ?_|refine zB ?_|refine zI ?_|refine zJ ?_|refine zP ?_|refine zE ?_|refine zG ?_|refine zF ?_|refine zH (by decide) ?_|refine zQ ?_|((first|refine zC ?_|refine zM ?_|refine zO rfl rfl ?_|refine zN rfl ?_|refine zL ?_);simp only [yq46.down,zA,lemS.down,lemC.down,zex,zew,zeu,reduceIte,zev,zey,zez,ze0,ze1,ze2,ze3,ze4,ze5,reduceCtorEq,lemH.down,t6,t48,t49,t50,zAs,ia,ld,e9,ww])))
  refine hnext (path.length - (i + 1)) _ g9 (by omega) ⟨i + 1,rfl,by omega,?_,gk.trans k9 (fun _ _ q=>q),by simp only [yq46.down,zA,lemS.down,lemC.down,zex,zew,zeu,reduceIte,zev,zey,zez,ze0,ze1,ze2,ze3,ze4,ze5,reduceCtorEq,t6],by simp only [yq46.down,zA,lemS.down,lemC.down,zex,zew,zeu,reduceIte,zev,zey,zez,ze0,ze1,ze2,ze3,ze4,ze5,reduceCtorEq,t48],by simp only [yq46.down,zA,lemS.down,lemC.down,zex,zew,zeu,reduceIte,zev,zey,zez,ze0,ze1,ze2,ze3,ze4,ze5,reduceCtorEq,t49],by simp only [yq46.down,zA,lemS.down,lemC.down,zex,zew,zeu,reduceIte,zev,zey,zez,ze0,ze1,ze2,ze3,ze4,ze5,reduceCtorEq]⟩
  rw [eB,← List.append_assoc]
  exact w9
 ·obtain rfl:i = path.length:=by omega
  rw [List.take_length] at gw
  have gw':Wr g' W W _:=gw
  have eA:=zKF T.wire gw'
  (repeat (first|refine zS ?_|refine zK ?_|refine zR ?_|refine zD ?_|refine zB ?_|refine zI ?_|refine zJ ?_|refine zP ?_|refine zE ?_|refine zG ?_|refine zF ?_|refine zH (by decide) ?_|refine zQ ?_|((first|refine zC ?_|refine zM ?_|refine zO rfl rfl ?_|refine zN rfl ?_|refine zL ?_);simp only [yq46.down,zA,lemS.down,lemC.down,zex,zew,zeu,reduceIte,zev,zey,zez,ze0,ze1,ze2,ze3,ze4,ze5,reduceCtorEq,lemH.down,t6,t48,t49,t50,eA])))
  refine ⟨.inr rfl,_,by (simp only [yq46.down,zA,lemS.down,lemC.down,zex,zew,zeu,reduceIte,zev,zey,zez,ze0,ze1,ze2,ze3,ze4,ze5,reduceCtorEq,zw,zAO,resX,zAX])<;>rfl,?_,G8.then gk hS0⟩
  have e:etB ⟨x,tags,⟨c,n,ops⟩,at_,many,path⟩ = [] ++ zA6 x ++ zBN tags ++ txB c n ops ++ numB at_ 4 ++ numB many 4 ++ numB path.length 4 ++ zAZ path:=by simp only [etB,List.nil_append,List.append_assoc]
  rw [e]
end Go.X
end
