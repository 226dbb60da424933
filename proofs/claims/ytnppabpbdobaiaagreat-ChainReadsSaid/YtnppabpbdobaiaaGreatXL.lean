/- The tree. -/
import Derived.Test.YtnppabpbdobaiaaGreatProg
import Derived.KernelRfl
import Derived.Test.YtnppabpbdobaiaaGreatXC
import Derived.Test.YtnppabpbdobaiaaGreatXD
import Derived.Test.YtnppabpbdobaiaaGreatXH
import Derived.Test.YtnppabpbdobaiaaGreatXJ
import Derived.Test.YtnppabpbdobaiaaGreatXK
set_option linter.unusedSimpArgs false
set_option linter.unusedVariables false
set_option maxHeartbeats 2000000
open Nat renaming reduceLeDiff → zam, reduceEqDiff → zan, reduceAdd → zao
open Int renaming reduceBEq → zap, reduceLT → zaq, reduceLE → zar, reduceGT → zas, reduceGE → zat, reduceEq → zau, reduceAdd → zav, reduceSub → zaw, reduceMul → zax
section
namespace Go.X
open Go.Proofs
abbrev zUW:List XO:=[
 ⟨some 2,.p (.mov (C (.pointer none))),none⟩,
 ⟨some 3,.p (.mov (C (.int .i64 0))),none⟩]
def xq32_0:List XO:=zUW
theorem xq32_0e:E3 xq32_0 zUW:=E3.rfl
abbrev zUj:List XO:=[
 ⟨some 12,.p (.mov (T 0)),none⟩,
 ⟨some 13,.call (.func 86) [(T 12)],none⟩,
 ⟨some 4,.p (.mov (T 13)),none⟩]
def xq32_1:List XO:=zUj
theorem xq32_1e:E3 xq32_1 zUj:=E3.rfl
abbrev zUk:List XO:=[
 ⟨some 14,.p (.mov (T 4)),none⟩,
 ⟨some 15,.call (.func 87) [(T 14),(C (.int .i64 32))],none⟩,
 ⟨some 16,.p (.mov (T 4)),none⟩,
 ⟨some 17,.call (.func 88) [(T 16)],none⟩,
 ⟨some 18,.p (.build [(.string (strOf [])),(.slice none 0 0),(.slice none 0 0),(.int .u64 0),(.int .u64 0),(.string (strOf [])),(.slice none 0 0),(.pointer none),(.pointer none)] [(0,1,(T 15)),(1,1,(T 17))]),none⟩,
 ⟨some 19,.a (.box (T 18)),none⟩,
 ⟨some 5,.a (.alloc [(.pointer none)]),none⟩,
 ⟨none,.e (.store 1 (T 5) (T 19)),none⟩]
def xq32_2:List XO:=zUk
theorem xq32_2e:E3 xq32_2 zUk:=E3.rfl
abbrev zUl:List XO:=[
 ⟨some 20,.r (.load1 (T 5)),none⟩,
 ⟨some 21,.p (.mov (T 4)),none⟩,
 ⟨some 22,.call (.func 89) [(T 21),(C (.int .i64 8))],none⟩,
 ⟨some 23,.p (.mov (T 4)),none⟩,
 ⟨some 24,.call (.func 90) [(T 23)],none⟩,
 ⟨some 25,.p (.mov (T 4)),none⟩,
 ⟨some 26,.call (.func 88) [(T 25)],none⟩,
 ⟨some 27,.p (.build [(.int .u64 0),(.string (strOf [])),(.slice none 0 0)] [(0,1,(T 22)),(1,1,(T 24)),(2,1,(T 26))]),none⟩,
 ⟨some 28,.p (.nilc (T 20)),none⟩,
 ⟨some 29,.p (.faddr 4 (T 28)),none⟩,
 ⟨none,.e (.store 3 (T 29) (T 27)),none⟩]
def xq32_3:List XO:=zUl
theorem xq32_3e:E3 xq32_3 zUl:=E3.rfl
abbrev zUm:List XO:=[
 ⟨some 30,.p (.mov (T 4)),none⟩,
 ⟨some 31,.call (.func 87) [(T 30),(C (.int .i64 1048576))],none⟩,
 ⟨some 6,.p (.mov (T 31)),none⟩]
def xq32_4:List XO:=zUm
theorem xq32_4e:E3 xq32_4 zUm:=E3.rfl
abbrev zUn:List XO:=[
 ⟨some 32,.p (.mov (T 4)),none⟩,
 ⟨some 33,.call (.func 91) [(T 32)],none⟩,
 ⟨some 7,.p (.mov (T 33)),none⟩]
def xq32_5:List XO:=zUn
theorem xq32_5e:E3 xq32_5 zUn:=E3.rfl
abbrev zUo:List XO:=[
 ⟨some 34,.p (.mov (T 7)),none⟩,
 ⟨some 35,.p (.eql true .int (T 34) (C (.int .i64 0))),none⟩]
def xq32_6:List XO:=zUo
theorem xq32_6e:E3 xq32_6 zUo:=E3.rfl
abbrev zUp:List XO:=[
 ⟨some 36,.p (.mov (T 7)),none⟩,
 ⟨some 2,.p (.mov (C (.pointer none))),none⟩,
 ⟨some 3,.p (.mov (T 36)),none⟩]
def xq32_7:List XO:=zUp
theorem xq32_7e:E3 xq32_7 zUp:=E3.rfl
abbrev zUq:List XO:=[
 ⟨some 38,.p (.mov (T 6)),none⟩,
 ⟨some 39,.call (.func 92) [(T 38)],none⟩,
 ⟨some 37,.p (.mov (T 39)),none⟩,
 ⟨some 40,.p (.ext (T 37) 0),none⟩,
 ⟨some 41,.p (.ext (T 37) 1),none⟩,
 ⟨some 8,.p (.mov (T 40)),none⟩,
 ⟨some 9,.p (.mov (T 41)),none⟩]
def xq32_8:List XO:=zUq
theorem xq32_8e:E3 xq32_8 zUq:=E3.rfl
abbrev zUr:List XO:=[
 ⟨some 42,.p (.mov (T 9)),none⟩,
 ⟨some 43,.p (.eql true .int (T 42) (C (.int .i64 0))),none⟩]
def xq32_9:List XO:=zUr
theorem xq32_9e:E3 xq32_9 zUr:=E3.rfl
abbrev zUY:List XO:=[
 ⟨some 44,.p (.mov (T 9)),none⟩,
 ⟨some 2,.p (.mov (C (.pointer none))),none⟩,
 ⟨some 3,.p (.mov (T 44)),none⟩]
def zUX:List XO:=zUY
theorem xq32_10e:E3 zUX zUY:=E3.rfl
abbrev zUa:List XO:=[
 ⟨some 45,.r (.load1 (T 5)),none⟩,
 ⟨some 46,.p (.nilc (T 45)),none⟩,
 ⟨some 47,.p (.faddr 4 (T 46)),none⟩,
 ⟨some 48,.p (.faddr 0 (T 47)),none⟩,
 ⟨some 49,.r (.load1 (T 48)),none⟩,
 ⟨some 50,.p (.eql false .int (T 49) (C (.int .u64 0))),none⟩,
 ⟨some 51,.p (.mov (T 50)),none⟩,
 ⟨some 52,.r (.load1 (T 5)),some (51,true)⟩,
 ⟨some 53,.p (.nilc (T 52)),some (51,true)⟩,
 ⟨some 54,.p (.faddr 4 (T 53)),some (51,true)⟩,
 ⟨some 55,.p (.faddr 1 (T 54)),some (51,true)⟩,
 ⟨some 56,.r (.load1 (T 55)),some (51,true)⟩,
 ⟨some 57,.r (.load1 (T 5)),some (51,true)⟩,
 ⟨some 58,.call (.func 93) [(T 57)],some (51,true)⟩,
 ⟨some 59,.p (.eql true .str (T 56) (T 58)),some (51,true)⟩,
 ⟨some 60,.p (.mov (T 59)),some (51,true)⟩,
 ⟨some 61,.p (.mov (T 8)),some (60,false)⟩,
 ⟨some 62,.call (.func 94) [(T 61)],some (60,false)⟩,
 ⟨some 63,.p (.bin .gtr (T 62) (C (.int .i64 0))),some (60,false)⟩,
 ⟨some 64,.p (.pick (T 60) (C (.bool true)) (T 63)),some (51,true)⟩,
 ⟨some 65,.p (.mov (T 64)),some (51,true)⟩,
 ⟨some 66,.r (.load1 (T 5)),some (65,false)⟩,
 ⟨some 67,.p (.nilc (T 66)),some (65,false)⟩,
 ⟨some 68,.p (.faddr 1 (T 67)),some (65,false)⟩,
 ⟨some 69,.r (.load1 (T 68)),some (65,false)⟩,
 ⟨some 70,.r (.load1 (T 5)),some (65,false)⟩,
 ⟨some 71,.p (.nilc (T 70)),some (65,false)⟩,
 ⟨some 72,.p (.faddr 4 (T 71)),some (65,false)⟩,
 ⟨some 73,.p (.faddr 2 (T 72)),some (65,false)⟩,
 ⟨some 74,.r (.load1 (T 73)),some (65,false)⟩,
 ⟨some 75,.call (.func 65) [(T 69),(T 74)],some (65,false)⟩,
 ⟨some 76,.p (.un .not (T 75)),some (65,false)⟩,
 ⟨some 77,.p (.pick (T 65) (C (.bool true)) (T 76)),some (51,true)⟩,
 ⟨some 78,.p (.pick (T 51) (T 77) (C (.bool false))),none⟩]
def zUZ:List XO:=zUa
theorem xq32_11e:E3 zUZ zUa:=E3.rfl
abbrev zUc:List XO:=[
 ⟨some 2,.p (.mov (C (.pointer none))),none⟩,
 ⟨some 3,.p (.mov (C (.int .i64 6))),none⟩]
def zUb:List XO:=zUc
theorem xq32_12e:E3 zUb zUc:=E3.rfl
abbrev zUd:List XO:=[
 ⟨some 79,.r (.load1 (T 5)),none⟩,
 ⟨some 80,.r (.load1 (T 5)),none⟩,
 ⟨some 81,.r (.load1 (T 5)),none⟩,
 ⟨some 82,.r (.load1 (T 5)),none⟩,
 ⟨some 83,.p (.nilc (T 82)),none⟩,
 ⟨some 84,.p (.faddr 4 (T 83)),none⟩,
 ⟨some 85,.p (.faddr 0 (T 84)),none⟩,
 ⟨some 86,.r (.load1 (T 85)),none⟩,
 ⟨some 87,.p (.mov (T 8)),none⟩,
 ⟨some 88,.call (.func 16) [],none⟩,
 ⟨some 89,.p (.nilc (T 79)),none⟩,
 ⟨some 90,.p (.faddr 3 (T 89)),none⟩,
 ⟨none,.e (.store 1 (T 90) (T 86)),none⟩,
 ⟨some 91,.p (.nilc (T 80)),none⟩,
 ⟨some 92,.p (.faddr 7 (T 91)),none⟩,
 ⟨none,.e (.store 1 (T 92) (T 87)),none⟩,
 ⟨some 93,.p (.nilc (T 81)),none⟩,
 ⟨some 94,.p (.faddr 8 (T 93)),none⟩,
 ⟨none,.e (.store 1 (T 94) (T 88)),none⟩]
def zJJ:List XO:=zUd
theorem xq32_13e:E3 zJJ zUd:=E3.rfl
abbrev zUe:List XO:=[
 ⟨some 95,.p (.mov (T 8)),none⟩,
 ⟨some 96,.call (.func 95) [(T 95)],none⟩]
def zJK:List XO:=zUe
theorem xq32_14e:E3 zJK zUe:=E3.rfl
abbrev zUf:List XO:=[
 ⟨some 10,.p (.mov (T 97)),none⟩]
def zE4:List XO:=zUf
theorem xq32_15e:E3 zE4 zUf:=E3.rfl
abbrev zUg:List XO:=[
 ⟨some 11,.p (.mov (T 98)),none⟩]
def zE5:List XO:=zUg
theorem xq32_16e:E3 zE5 zUg:=E3.rfl
abbrev zUh:List XO:=[
 ⟨some 99,.r (.load1 (T 5)),none⟩,
 ⟨some 100,.p (.nilc (T 99)),none⟩,
 ⟨some 101,.p (.faddr 8 (T 100)),none⟩,
 ⟨some 102,.r (.load1 (T 101)),none⟩,
 ⟨some 103,.p (.mov (T 10)),none⟩,
 ⟨some 104,.p (.mov (T 11)),none⟩,
 ⟨some 105,.call (.func 96) [(T 102),(T 103),(T 104)],none⟩]
def zE6:List XO:=zUh
theorem xq32_17e:E3 zE6 zUh:=E3.rfl
abbrev zUi:List XO:=[
 ⟨some 106,.r (.load1 (T 5)),none⟩,
 ⟨some 2,.p (.mov (T 106)),none⟩,
 ⟨some 3,.p (.mov (C (.int .i64 0))),none⟩]
def zJL:List XO:=zUi
theorem xq32_18e:E3 zJL zUi:=E3.rfl
def xq32:XF:=⟨1,[.tmp 2,.tmp 3],
 .seq (.ops xq32_0) (.seq (.ops xq32_1) (.seq (.ops xq32_2) (.seq (.draw xq32_3 [(0,(4,[])),(0,(6,[])),(0,(10,[]))]) (.seq (.ops xq32_4) (.seq (.seq (.ops xq32_5) (.seq (.ops xq32_6) (.cond (T 35) (.seq (.ops xq32_7) (.ret)) (.skip)))) (.seq (.ops xq32_8) (.seq (.seq (.ops xq32_9) (.cond (T 43) (.seq (.ops zUX) (.ret)) (.skip))) (.seq (.seq (.draw zUZ [(7,(17,[])),(11,(17,[]))]) (.cond (T 78) (.seq (.ops zUb) (.ret)) (.skip))) (.seq (.draw zJJ [(0,(12,[])),(1,(12,[])),(1,(15,[])),(2,(12,[])),(2,(15,[])),(2,(18,[])),(3,(12,[])),(7,(12,[]))]) (.seq (.seq (.ops zJK) (.block 0 (.rng (T 96) [97,98] 107 (.seq (.ops zE4) (.ops zE5)) (.block 1 (.ops zE6))))) (.seq (.ops zJL) (.ret))))))))))))⟩
def yq32:=PLift.up (And.intro (And.intro (And.intro (And.intro (@xq32_0e) (@xq32_1e)) (And.intro (@xq32_2e) (@xq32_3e))) (And.intro (And.intro (@xq32_4e) (@xq32_5e)) (And.intro (@xq32_6e) (And.intro (@xq32_7e) (@xq32_8e))))) (And.intro (And.intro (And.intro (@xq32_9e) (@xq32_10e)) (And.intro (@xq32_11e) (And.intro (@xq32_12e) (@xq32_13e)))) (And.intro (And.intro (@xq32_14e) (@xq32_15e)) (And.intro (@xq32_16e) (And.intro (@xq32_17e) (@xq32_18e))))))
theorem cq32:zX Tryz.prog Tryz.f32=some xq32:=by kernel_rfl
abbrev zUA:List XO:=[
 ⟨some 2,.p (.mov (C (.string (strOf [])))),none⟩]
def xq25_0:List XO:=zUA
theorem xq25_0e:E3 xq25_0 zUA:=E3.rfl
abbrev zUD:List XO:=[
 ⟨some 4,.p (.mov (T 0)),none⟩,
 ⟨some 5,.p (.eql false .nptr (T 4) (C (.pointer none))),none⟩]
def xq25_1:List XO:=zUD
theorem xq25_1e:E3 xq25_1 zUD:=E3.rfl
abbrev zUE:List XO:=[
 ⟨some 2,.p (.mov (C (.string (strOf [])))),none⟩]
def xq25_2:List XO:=zUE
theorem xq25_2e:E3 xq25_2 zUE:=E3.rfl
abbrev zUF:List XO:=[
 ⟨some 6,.call (.func 75) [],none⟩,
 ⟨some 3,.p (.mov (T 6)),none⟩]
def xq25_3:List XO:=zUF
theorem xq25_3e:E3 xq25_3 zUF:=E3.rfl
abbrev zUG:List XO:=[
 ⟨some 7,.p (.mov (T 3)),none⟩,
 ⟨some 8,.p (.mov (T 0)),none⟩,
 ⟨some 9,.p (.nilc (T 8)),none⟩,
 ⟨some 10,.p (.faddr 0 (T 9)),none⟩,
 ⟨some 11,.r (.load1 (T 10)),none⟩,
 ⟨some 12,.call (.func 76) [(T 7),(T 11)],none⟩]
def xq25_4:List XO:=zUG
theorem xq25_4e:E3 xq25_4 zUG:=E3.rfl
abbrev zUH:List XO:=[
 ⟨some 13,.p (.mov (T 3)),none⟩,
 ⟨some 14,.p (.mov (T 0)),none⟩,
 ⟨some 15,.p (.nilc (T 14)),none⟩,
 ⟨some 16,.p (.faddr 1 (T 15)),none⟩,
 ⟨some 17,.r (.load1 (T 16)),none⟩,
 ⟨some 18,.call (.func 77) [(T 13),(T 17)],none⟩]
def xq25_5:List XO:=zUH
theorem xq25_5e:E3 xq25_5 zUH:=E3.rfl
abbrev zUI:List XO:=[
 ⟨some 19,.p (.mov (T 3)),none⟩,
 ⟨some 20,.p (.mov (T 0)),none⟩,
 ⟨some 21,.p (.nilc (T 20)),none⟩,
 ⟨some 22,.p (.faddr 4 (T 21)),none⟩,
 ⟨some 23,.p (.faddr 0 (T 22)),none⟩,
 ⟨some 24,.r (.load1 (T 23)),none⟩,
 ⟨some 25,.call (.func 78) [(T 19),(T 24),(C (.int .i64 8))],none⟩]
def xq25_6:List XO:=zUI
theorem xq25_6e:E3 xq25_6 zUI:=E3.rfl
abbrev zUJ:List XO:=[
 ⟨some 26,.p (.mov (T 3)),none⟩,
 ⟨some 27,.p (.mov (T 0)),none⟩,
 ⟨some 28,.p (.nilc (T 27)),none⟩,
 ⟨some 29,.p (.faddr 4 (T 28)),none⟩,
 ⟨some 30,.p (.faddr 1 (T 29)),none⟩,
 ⟨some 31,.r (.load1 (T 30)),none⟩,
 ⟨some 32,.call (.func 79) [(T 26),(T 31)],none⟩]
def xq25_7:List XO:=zUJ
theorem xq25_7e:E3 xq25_7 zUJ:=E3.rfl
abbrev zUK:List XO:=[
 ⟨some 33,.p (.mov (T 3)),none⟩,
 ⟨some 34,.p (.mov (T 0)),none⟩,
 ⟨some 35,.p (.nilc (T 34)),none⟩,
 ⟨some 36,.p (.faddr 4 (T 35)),none⟩,
 ⟨some 37,.p (.faddr 2 (T 36)),none⟩,
 ⟨some 38,.r (.load1 (T 37)),none⟩,
 ⟨some 39,.call (.func 77) [(T 33),(T 38)],none⟩]
def xq25_8:List XO:=zUK
theorem xq25_8e:E3 xq25_8 zUK:=E3.rfl
abbrev zUL:List XO:=[
 ⟨some 40,.p (.mov (T 3)),none⟩,
 ⟨some 41,.p (.mov (T 0)),none⟩,
 ⟨some 42,.p (.nilc (T 41)),none⟩,
 ⟨some 43,.p (.faddr 7 (T 42)),none⟩,
 ⟨some 44,.r (.load1 (T 43)),none⟩,
 ⟨some 45,.call (.func 80) [(T 44)],none⟩,
 ⟨some 46,.call (.func 76) [(T 40),(T 45)],none⟩]
def xq25_9:List XO:=zUL
theorem xq25_9e:E3 xq25_9 zUL:=E3.rfl
abbrev zUC:List XO:=[
 ⟨some 47,.p (.mov (T 3)),none⟩,
 ⟨some 48,.call (.func 81) [(T 47)],none⟩,
 ⟨some 2,.p (.mov (T 48)),none⟩]
def zUB:List XO:=zUC
theorem xq25_10e:E3 zUB zUC:=E3.rfl
def xq25:XF:=⟨1,[.tmp 2],
 .seq (.ops xq25_0) (.seq (.seq (.ops xq25_1) (.cond (T 5) (.seq (.ops xq25_2) (.ret)) (.skip))) (.seq (.ops xq25_3) (.seq (.ops xq25_4) (.seq (.ops xq25_5) (.seq (.ops xq25_6) (.seq (.ops xq25_7) (.seq (.ops xq25_8) (.seq (.ops xq25_9) (.seq (.ops zUB) (.ret))))))))))⟩
def yq25:=PLift.up (And.intro (And.intro (And.intro (@xq25_0e) (@xq25_1e)) (And.intro (@xq25_2e) (And.intro (@xq25_3e) (@xq25_4e)))) (And.intro (And.intro (@xq25_5e) (And.intro (@xq25_6e) (@xq25_7e))) (And.intro (@xq25_8e) (And.intro (@xq25_9e) (@xq25_10e)))))
theorem cq25:zX Tryz.prog Tryz.f25=some xq25:=by kernel_rfl
abbrev zWi:List XO:=[
 ⟨some 2,.p (.mov (C (.string (strOf [])))),none⟩]
def xq93_0:List XO:=zWi
theorem xq93_0e:E3 xq93_0 zWi:=E3.rfl
abbrev zWj:List XO:=[
 ⟨some 3,.p (.mov (T 0)),none⟩,
 ⟨some 4,.p (.eql false .nptr (T 3) (C (.pointer none))),none⟩]
def xq93_1:List XO:=zWj
theorem xq93_1e:E3 xq93_1 zWj:=E3.rfl
abbrev zWk:List XO:=[
 ⟨some 2,.p (.mov (C (.string (strOf [])))),none⟩]
def xq93_2:List XO:=zWk
theorem xq93_2e:E3 xq93_2 zWk:=E3.rfl
abbrev zWl:List XO:=[
 ⟨some 5,.p (.mov (T 0)),none⟩,
 ⟨some 6,.p (.nilc (T 5)),none⟩,
 ⟨some 7,.p (.faddr 0 (T 6)),none⟩,
 ⟨some 8,.r (.load1 (T 7)),none⟩,
 ⟨some 9,.p (.mov (T 0)),none⟩,
 ⟨some 10,.p (.nilc (T 9)),none⟩,
 ⟨some 11,.p (.faddr 1 (T 10)),none⟩,
 ⟨some 12,.r (.load1 (T 11)),none⟩,
 ⟨some 13,.call (.func 97) [(T 8),(T 12)],none⟩,
 ⟨some 2,.p (.mov (T 13)),none⟩]
def xq93_3:List XO:=zWl
theorem xq93_3e:E3 xq93_3 zWl:=E3.rfl
def xq93:XF:=⟨1,[.tmp 2],
 .seq (.ops xq93_0) (.seq (.seq (.ops xq93_1) (.cond (T 4) (.seq (.ops xq93_2) (.ret)) (.skip))) (.seq (.draw xq93_3 []) (.ret)))⟩
def yq93:=PLift.up (And.intro (And.intro (@xq93_0e) (@xq93_1e)) (And.intro (@xq93_2e) (@xq93_3e)))
theorem cq93:zX Tryz.prog Tryz.f93=some xq93:=by kernel_rfl
abbrev zUs:List XO:=[
 ⟨some 2,.a (.alloc [(.int .u64 0),(.string (strOf [])),(.slice none 0 0)]),none⟩]
def xq33_0:List XO:=zUs
theorem xq33_0e:E3 xq33_0 zUs:=E3.rfl
abbrev zUt:List XO:=[
 ⟨some 4,.p (.mov (T 0)),none⟩,
 ⟨some 5,.p (.eql false .nptr (T 4) (C (.pointer none))),none⟩]
def xq33_1:List XO:=zUt
theorem xq33_1e:E3 xq33_1 zUt:=E3.rfl
abbrev zUu:List XO:=[
 ⟨some 6,.p (.build [(.int .u64 0),(.string (strOf [])),(.slice none 0 0)] []),none⟩,
 ⟨none,.e (.store 3 (T 2) (T 6)),none⟩]
def xq33_2:List XO:=zUu
theorem xq33_2e:E3 xq33_2 zUu:=E3.rfl
abbrev zUv:List XO:=[
 ⟨some 7,.p (.mov (T 0)),none⟩,
 ⟨some 8,.p (.nilc (T 7)),none⟩,
 ⟨some 9,.p (.faddr 4 (T 8)),none⟩,
 ⟨some 10,.r (.loadN 3 (T 9)),none⟩,
 ⟨some 3,.a (.alloc [(.int .u64 0),(.string (strOf [])),(.slice none 0 0)]),none⟩,
 ⟨none,.e (.store 3 (T 3) (T 10)),none⟩]
def xq33_3:List XO:=zUv
theorem xq33_3e:E3 xq33_3 zUv:=E3.rfl
abbrev zUw:List XO:=[
 ⟨some 11,.p (.faddr 2 (T 3)),none⟩,
 ⟨some 12,.r (.load1 (T 11)),none⟩,
 ⟨some 13,.call (.func 59) [(T 12)],none⟩,
 ⟨some 14,.p (.faddr 2 (T 3)),none⟩,
 ⟨none,.e (.store 1 (T 14) (T 13)),none⟩]
def xq33_4:List XO:=zUw
theorem xq33_4e:E3 xq33_4 zUw:=E3.rfl
abbrev zUx:List XO:=[
 ⟨some 15,.r (.loadN 3 (T 3)),none⟩,
 ⟨none,.e (.store 3 (T 2) (T 15)),none⟩]
def xq33_5:List XO:=zUx
theorem xq33_5e:E3 xq33_5 zUx:=E3.rfl
def xq33:XF:=⟨1,[.cellN 2 3],
 .seq (.ops xq33_0) (.seq (.seq (.ops xq33_1) (.cond (T 5) (.seq (.ops xq33_2) (.ret)) (.skip))) (.seq (.ops xq33_3) (.seq (.ops xq33_4) (.seq (.ops xq33_5) (.ret)))))⟩
def yq33:=PLift.up (And.intro (And.intro (@xq33_0e) (And.intro (@xq33_1e) (@xq33_2e))) (And.intro (@xq33_3e) (And.intro (@xq33_4e) (@xq33_5e))))
theorem cq33:zX Tryz.prog Tryz.f33=some xq33:=by kernel_rfl
abbrev zUS:List XO:=[
 ⟨some 2,.p (.mov (C (.int .u64 0))),none⟩]
def xq29_0:List XO:=zUS
theorem xq29_0e:E3 xq29_0 zUS:=E3.rfl
abbrev zUT:List XO:=[
 ⟨some 3,.p (.mov (T 0)),none⟩,
 ⟨some 4,.p (.eql false .nptr (T 3) (C (.pointer none))),none⟩]
def xq29_1:List XO:=zUT
theorem xq29_1e:E3 xq29_1 zUT:=E3.rfl
abbrev zUU:List XO:=[
 ⟨some 2,.p (.mov (C (.int .u64 0))),none⟩]
def xq29_2:List XO:=zUU
theorem xq29_2e:E3 xq29_2 zUU:=E3.rfl
abbrev zUV:List XO:=[
 ⟨some 5,.p (.mov (T 0)),none⟩,
 ⟨some 6,.p (.nilc (T 5)),none⟩,
 ⟨some 7,.p (.faddr 3 (T 6)),none⟩,
 ⟨some 8,.r (.load1 (T 7)),none⟩,
 ⟨some 2,.p (.mov (T 8)),none⟩]
def xq29_3:List XO:=zUV
theorem xq29_3e:E3 xq29_3 zUV:=E3.rfl
def xq29:XF:=⟨1,[.tmp 2],
 .seq (.ops xq29_0) (.seq (.seq (.ops xq29_1) (.cond (T 4) (.seq (.ops xq29_2) (.ret)) (.skip))) (.seq (.ops xq29_3) (.ret)))⟩
def yq29:=PLift.up (And.intro (And.intro (@xq29_0e) (@xq29_1e)) (And.intro (@xq29_2e) (@xq29_3e)))
theorem cq29:zX Tryz.prog Tryz.f29=some xq29:=by kernel_rfl
abbrev zWN:List XO:=[
 ⟨some 2,.p (.mov (C (.pointer none))),none⟩,
 ⟨some 3,.p (.mov (C (.int .i64 0))),none⟩]
def xq92_0:List XO:=zWN
theorem xq92_0e:E3 xq92_0 zWN:=E3.rfl
abbrev zWZ:List XO:=[
 ⟨some 11,.p (.mov (T 0)),none⟩,
 ⟨some 12,.call (.func 86) [(T 11)],none⟩,
 ⟨some 4,.p (.mov (T 12)),none⟩]
def xq92_1:List XO:=zWZ
theorem xq92_1e:E3 xq92_1 zWZ:=E3.rfl
abbrev zWa:List XO:=[
 ⟨some 13,.call (.func 17) [],none⟩,
 ⟨some 5,.p (.mov (T 13)),none⟩]
def xq92_2:List XO:=zWa
theorem xq92_2e:E3 xq92_2 zWa:=E3.rfl
abbrev zWb:List XO:=[
 ⟨some 6,.p (.mov (C (.string (strOf [])))),none⟩]
def xq92_3:List XO:=zWb
theorem xq92_3e:E3 xq92_3 zWb:=E3.rfl
abbrev zWc:List XO:=[
 ⟨some 14,.p (.mov (T 4)),none⟩,
 ⟨some 15,.call (.func 108) [(T 14),(C (.int .i64 1024))],none⟩,
 ⟨some 7,.p (.mov (T 15)),none⟩]
def xq92_4:List XO:=zWc
theorem xq92_4e:E3 xq92_4 zWc:=E3.rfl
abbrev zWd:List XO:=[
 ⟨some 16,.p (.mov (T 7)),none⟩,
 ⟨some 17,.p (.bin .gtr (T 16) (C (.int .i64 0))),none⟩,
 ⟨some 18,.p (.mov (T 17)),none⟩,
 ⟨some 19,.p (.mov (T 4)),some (18,true)⟩,
 ⟨some 20,.call (.func 109) [(T 19)],some (18,true)⟩,
 ⟨some 21,.p (.eql false .int (T 20) (C (.int .i64 0))),some (18,true)⟩,
 ⟨some 22,.p (.pick (T 18) (T 21) (C (.bool false))),none⟩]
def xq92_5:List XO:=zWd
theorem xq92_5e:E3 xq92_5 zWd:=E3.rfl
abbrev zWe:List XO:=[
 ⟨some 25,.p (.mov (T 4)),none⟩,
 ⟨some 26,.call (.func 87) [(T 25),(C (.int .i64 33))],none⟩,
 ⟨some 27,.p (.mov (T 4)),none⟩,
 ⟨some 28,.call (.func 87) [(T 27),(C (.int .i64 64))],none⟩,
 ⟨some 8,.p (.mov (T 26)),none⟩,
 ⟨some 9,.p (.mov (T 28)),none⟩]
def xq92_6:List XO:=zWe
theorem xq92_6e:E3 xq92_6 zWe:=E3.rfl
abbrev zWf:List XO:=[
 ⟨some 29,.p (.mov (T 4)),none⟩,
 ⟨some 30,.call (.func 109) [(T 29)],none⟩,
 ⟨some 31,.p (.eql false .int (T 30) (C (.int .i64 0))),none⟩,
 ⟨some 32,.p (.mov (T 31)),none⟩,
 ⟨some 33,.p (.mov (T 8)),some (32,true)⟩,
 ⟨some 34,.p (.mov (T 6)),some (32,true)⟩,
 ⟨some 35,.p (.bin .leq (T 33) (T 34)),some (32,true)⟩,
 ⟨some 36,.p (.mov (T 35)),some (32,true)⟩,
 ⟨some 37,.p (.mov (T 8)),some (36,false)⟩,
 ⟨some 38,.p (.mov (T 9)),some (36,false)⟩,
 ⟨some 39,.call (.func 153) [(T 37),(T 38)],some (36,false)⟩,
 ⟨some 40,.p (.un .not (T 39)),some (36,false)⟩,
 ⟨some 41,.p (.pick (T 36) (C (.bool true)) (T 40)),some (32,true)⟩,
 ⟨some 42,.p (.pick (T 32) (T 41) (C (.bool false))),none⟩]
def xq92_7:List XO:=zWf
theorem xq92_7e:E3 xq92_7 zWf:=E3.rfl
abbrev zWg:List XO:=[
 ⟨some 43,.p (.mov (T 4)),none⟩,
 ⟨some 44,.call (.func 151) [(T 43),(C (.int .i64 6))],none⟩]
def xq92_8:List XO:=zWg
theorem xq92_8e:E3 xq92_8 zWg:=E3.rfl
abbrev zWh:List XO:=[
 ⟨some 45,.p (.mov (T 5)),none⟩,
 ⟨some 46,.p (.nilc (T 45)),none⟩,
 ⟨some 47,.p (.faddr 0 (T 46)),none⟩,
 ⟨some 48,.r (.load1 (T 47)),none⟩,
 ⟨some 49,.p (.mov (T 8)),none⟩,
 ⟨some 50,.p (.mov (T 9)),none⟩,
 ⟨some 51,.p (.mov (T 8)),none⟩,
 ⟨some 52,.e (.mentry (.string (strOf [])) .str (T 48) (T 49)),none⟩,
 ⟨some 53,.p (.ext (T 52) 1),none⟩,
 ⟨none,.e (.estore (T 48) (T 53) (T 50)),none⟩,
 ⟨some 6,.p (.mov (T 51)),none⟩]
def xq92_9:List XO:=zWh
theorem xq92_9e:E3 xq92_9 zWh:=E3.rfl
abbrev zWP:List XO:=[
 ⟨some 23,.p (.mov (T 7)),none⟩,
 ⟨some 24,.p (.bin .sub (T 23) (C (.int .i64 1))),none⟩,
 ⟨some 7,.p (.mov (T 24)),none⟩]
def zWO:List XO:=zWP
theorem xq92_10e:E3 zWO zWP:=E3.rfl
def zJT:XC :=
 .seq (.seq (.ops xq92_5) (.cond (T 22) (.skip) (.exit 0))) (.seq (.block 1 (.seq (.ops xq92_6) (.seq (.seq (.ops xq92_7) (.cond (T 42) (.ops xq92_8) (.skip))) (.ops xq92_9)))) (.ops zWO))
def zWQ:XC:=zJT
theorem xq92_11k {pr:Prog} {k:List KI} {Q:XE→Fr→Heap→Prop} {t:Fr} {h:Heap} (hw:wpk pr zJT k Q t h):wpk pr zWQ k Q t h:=hw
abbrev zWS:List XO:=[
 ⟨some 54,.p (.mov (T 4)),none⟩,
 ⟨some 55,.call (.func 91) [(T 54)],none⟩,
 ⟨some 10,.p (.mov (T 55)),none⟩]
def zWR:List XO:=zWS
theorem xq92_12e:E3 zWR zWS:=E3.rfl
abbrev zWU:List XO:=[
 ⟨some 56,.p (.mov (T 10)),none⟩,
 ⟨some 57,.p (.eql true .int (T 56) (C (.int .i64 0))),none⟩]
def zWT:List XO:=zWU
theorem xq92_13e:E3 zWT zWU:=E3.rfl
abbrev zWW:List XO:=[
 ⟨some 58,.p (.mov (T 10)),none⟩,
 ⟨some 2,.p (.mov (C (.pointer none))),none⟩,
 ⟨some 3,.p (.mov (T 58)),none⟩]
def zWV:List XO:=zWW
theorem xq92_14e:E3 zWV zWW:=E3.rfl
abbrev zWY:List XO:=[
 ⟨some 59,.p (.mov (T 5)),none⟩,
 ⟨some 2,.p (.mov (T 59)),none⟩,
 ⟨some 3,.p (.mov (C (.int .i64 0))),none⟩]
def zWX:List XO:=zWY
theorem xq92_15e:E3 zWX zWY:=E3.rfl
def xq92:XF:=⟨1,[.tmp 2,.tmp 3],
 .seq (.ops xq92_0) (.seq (.ops xq92_1) (.seq (.ops xq92_2) (.seq (.ops xq92_3) (.seq (.seq (.ops xq92_4) (.block 0 (.loop zWQ))) (.seq (.seq (.ops zWR) (.seq (.ops zWT) (.cond (T 57) (.seq (.ops zWV) (.ret)) (.skip)))) (.seq (.ops zWX) (.ret)))))))⟩
def yq92:=PLift.up (And.intro (And.intro (And.intro (@xq92_0e) (And.intro (@xq92_1e) (@xq92_2e))) (And.intro (And.intro (@xq92_3e) (@xq92_4e)) (And.intro (@xq92_5e) (@xq92_6e)))) (And.intro (And.intro (And.intro (@xq92_7e) (@xq92_8e)) (And.intro (@xq92_9e) (@xq92_10e))) (And.intro (And.intro (@xq92_12e) (@xq92_13e)) (And.intro (@xq92_14e) (@xq92_15e)))))
theorem cq92:zX Tryz.prog Tryz.f92=some xq92:=by kernel_rfl
abbrev zP5:List XO:=[
 ⟨some 0,.p (.mov (C (.pointer none))),none⟩]
def xq17_0:List XO:=zP5
theorem xq17_0e:E3 xq17_0 zP5:=E3.rfl
abbrev zP6:List XO:=[
 ⟨some 1,.a (.mkmap),none⟩,
 ⟨some 2,.p (.build [(.map none)] [(0,1,(T 1))]),none⟩,
 ⟨some 3,.a (.box (T 2)),none⟩,
 ⟨some 0,.p (.mov (T 3)),none⟩]
def xq17_1:List XO:=zP6
theorem xq17_1e:E3 xq17_1 zP6:=E3.rfl
def xq17:XF:=⟨0,[.tmp 0],
 .seq (.ops xq17_0) (.seq (.ops xq17_1) (.ret))⟩
def yq17:=PLift.up (And.intro (@xq17_0e) (@xq17_1e))
theorem cq17:zX Tryz.prog Tryz.f17=some xq17:=by kernel_rfl
abbrev zOI:List XO:=[
 ⟨some 4,.p (.mov (C (.bool false))),none⟩]
def zOH:List XO:=zOI
theorem xq153_0e:E3 zOH zOI:=E3.rfl
abbrev zOK:List XO:=[
 ⟨some 6,.p (.mov (T 0)),none⟩,
 ⟨some 7,.p (.lenS (T 6)),none⟩,
 ⟨some 8,.p (.bin .geq (T 7) (C (.int .i64 2))),none⟩,
 ⟨some 9,.p (.mov (T 8)),none⟩,
 ⟨some 10,.p (.mov (T 0)),some (9,true)⟩,
 ⟨some 11,.p (.slcS (T 10) none (some (C (.int .i64 1)))),some (9,true)⟩,
 ⟨some 12,.p (.eql false .str (T 11) (C (.string (strOf [107])))),some (9,true)⟩,
 ⟨some 13,.p (.pick (T 9) (T 12) (C (.bool false))),none⟩,
 ⟨some 5,.p (.mov (T 13)),none⟩]
def zOJ:List XO:=zOK
theorem xq153_1e:E3 zOJ zOK:=E3.rfl
abbrev zOM:List XO:=[
 ⟨some 14,.p (.mov (T 0)),none⟩,
 ⟨some 15,.p (.lenS (T 14)),none⟩,
 ⟨some 16,.p (.bin .leq (T 15) (C (.int .i64 33))),none⟩,
 ⟨some 17,.p (.mov (T 16)),none⟩,
 ⟨some 18,.p (.mov (T 1)),some (17,true)⟩,
 ⟨some 19,.p (.lenS (T 18)),some (17,true)⟩,
 ⟨some 20,.p (.bin .leq (T 19) (C (.int .i64 64))),some (17,true)⟩,
 ⟨some 21,.p (.pick (T 17) (T 20) (C (.bool false))),none⟩,
 ⟨some 4,.p (.mov (T 21)),none⟩]
def zOL:List XO:=zOM
theorem xq153_2e:E3 zOL zOM:=E3.rfl
abbrev zON:List XO:=[
 ⟨some 23,.p (.mov (T 0)),none⟩,
 ⟨some 24,.p (.lenS (T 23)),none⟩,
 ⟨some 25,.p (.eql false .int (T 24) (C (.int .i64 9))),none⟩,
 ⟨some 26,.p (.mov (T 25)),none⟩,
 ⟨some 27,.p (.mov (T 0)),some (26,true)⟩,
 ⟨some 28,.p (.slcS (T 27) none (some (C (.int .i64 1)))),some (26,true)⟩,
 ⟨some 29,.p (.eql false .str (T 28) (C (.string (strOf [110])))),some (26,true)⟩,
 ⟨some 30,.p (.pick (T 26) (T 29) (C (.bool false))),none⟩,
 ⟨some 22,.p (.mov (T 30)),none⟩]
def zIo:List XO:=zON
theorem xq153_3e:E3 zIo zON:=E3.rfl
abbrev zOO:List XO:=[
 ⟨some 31,.p (.mov (T 1)),none⟩,
 ⟨some 32,.p (.lenS (T 31)),none⟩,
 ⟨some 33,.p (.eql false .int (T 32) (C (.int .i64 40))),none⟩,
 ⟨some 34,.p (.mov (T 33)),none⟩,
 ⟨some 35,.p (.mov (T 1)),some (34,true)⟩,
 ⟨some 36,.p (.slcS (T 35) none (some (C (.int .i64 8)))),some (34,true)⟩,
 ⟨some 37,.call (.func 136) [(C (.int .u64 0)),(C (.int .i64 8))],some (34,true)⟩,
 ⟨some 38,.p (.eql true .str (T 36) (T 37)),some (34,true)⟩,
 ⟨some 39,.p (.pick (T 34) (T 38) (C (.bool false))),none⟩,
 ⟨some 4,.p (.mov (T 39)),none⟩]
def zIp:List XO:=zOO
theorem xq153_4e:E3 zIp zOO:=E3.rfl
abbrev zOP:List XO:=[
 ⟨some 4,.p (.mov (C (.bool false))),none⟩]
def zIq:List XO:=zOP
theorem xq153_5e:E3 zIq zOP:=E3.rfl
def xq153:XF:=⟨2,[.tmp 4],
 .seq (.ops zOH) (.seq (.block 0 (.seq (.ops zOJ) (.cond (T 5) (.seq (.ops zOL) (.ret)) (.seq (.ops zIo) (.cond (T 22) (.seq (.draw zIp []) (.ret)) (.skip)))))) (.seq (.ops zIq) (.ret)))⟩
def yq153:=PLift.up (And.intro (And.intro (@xq153_0e) (And.intro (@xq153_1e) (@xq153_2e))) (And.intro (@xq153_3e) (And.intro (@xq153_4e) (@xq153_5e))))
theorem cq153:zX Tryz.prog Tryz.f153=some xq153:=by kernel_rfl
abbrev zWm:List XO:=[
 ⟨some 2,.p (.mov (C (.int .i64 0))),none⟩]
def xq94_0:List XO:=zWm
theorem xq94_0e:E3 xq94_0 zWm:=E3.rfl
abbrev zWn:List XO:=[
 ⟨some 3,.p (.mov (T 0)),none⟩,
 ⟨some 4,.p (.eql false .nptr (T 3) (C (.pointer none))),none⟩]
def xq94_1:List XO:=zWn
theorem xq94_1e:E3 xq94_1 zWn:=E3.rfl
abbrev zWo:List XO:=[
 ⟨some 2,.p (.mov (C (.int .i64 0))),none⟩]
def xq94_2:List XO:=zWo
theorem xq94_2e:E3 xq94_2 zWo:=E3.rfl
abbrev zWp:List XO:=[
 ⟨some 5,.p (.mov (T 0)),none⟩,
 ⟨some 6,.p (.nilc (T 5)),none⟩,
 ⟨some 7,.p (.faddr 0 (T 6)),none⟩,
 ⟨some 8,.r (.load1 (T 7)),none⟩,
 ⟨some 9,.r (.lenM (T 8)),none⟩,
 ⟨some 2,.p (.mov (T 9)),none⟩]
def xq94_3:List XO:=zWp
theorem xq94_3e:E3 xq94_3 zWp:=E3.rfl
def xq94:XF:=⟨1,[.tmp 2],
 .seq (.ops xq94_0) (.seq (.seq (.ops xq94_1) (.cond (T 4) (.seq (.ops xq94_2) (.ret)) (.skip))) (.seq (.ops xq94_3) (.ret)))⟩
def yq94:=PLift.up (And.intro (And.intro (@xq94_0e) (@xq94_1e)) (And.intro (@xq94_2e) (@xq94_3e)))
theorem cq94:zX Tryz.prog Tryz.f94=some xq94:=by kernel_rfl
abbrev zWq:List XO:=[
 ⟨some 1,.a (.box (T 0)),none⟩,
 ⟨some 2,.p (.mov (C (.nilFunc))),none⟩]
def xq95_0:List XO:=zWq
theorem xq95_0e:E3 xq95_0 zWq:=E3.rfl
abbrev zWr:List XO:=[
 ⟨some 3,.p (.mkfn (.func 154) [] [(T 1)]),none⟩,
 ⟨some 2,.p (.mov (T 3)),none⟩]
def xq95_1:List XO:=zWr
theorem xq95_1e:E3 xq95_1 zWr:=E3.rfl
def xq95:XF:=⟨1,[.tmp 2],
 .seq (.ops xq95_0) (.seq (.ops xq95_1) (.ret))⟩
def yq95:=PLift.up (And.intro (@xq95_0e) (@xq95_1e))
theorem cq95:zX Tryz.prog Tryz.f95=some xq95:=by kernel_rfl
abbrev zOR:List XO:=[
 ⟨some 5,.r (.load1 (T 1)),none⟩,
 ⟨some 6,.p (.eql false .nptr (T 5) (C (.pointer none))),none⟩]
def zOQ:List XO:=zOR
theorem xq154_0e:E3 zOQ zOR:=E3.rfl
abbrev zOT:List XO:=[
 ⟨some 7,.r (.load1 (T 1)),none⟩,
 ⟨some 8,.p (.nilc (T 7)),none⟩,
 ⟨some 9,.p (.faddr 0 (T 8)),none⟩,
 ⟨some 10,.r (.load1 (T 9)),none⟩,
 ⟨some 11,.call (.func 155) [(T 10)],none⟩,
 ⟨some 12,.call (.func 138) [(T 11)],none⟩,
 ⟨some 13,.p (.lenV (T 12)),none⟩,
 ⟨some 14,.p (.mov (C (.int .i64 0))),none⟩]
def zOS:List XO:=zOT
theorem xq154_1e:E3 zOS zOT:=E3.rfl
abbrev zOV:List XO:=[
 ⟨some 15,.p (.bin .lss (T 14) (T 13)),none⟩]
def zOU:List XO:=zOV
theorem xq154_2e:E3 zOU zOV:=E3.rfl
abbrev zOX:List XO:=[
 ⟨some 16,.p (.iaddrS 1 (T 12) (T 14)),none⟩,
 ⟨some 17,.r (.load1 (T 16)),none⟩,
 ⟨some 4,.p (.mov (T 17)),none⟩]
def zOW:List XO:=zOX
theorem xq154_3e:E3 zOW zOX:=E3.rfl
abbrev zOZ:List XO:=[
 ⟨some 18,.p (.mov (T 0)),none⟩,
 ⟨some 19,.p (.mov (T 4)),none⟩,
 ⟨some 20,.r (.load1 (T 1)),none⟩,
 ⟨some 21,.p (.nilc (T 20)),none⟩,
 ⟨some 22,.p (.faddr 0 (T 21)),none⟩,
 ⟨some 23,.r (.load1 (T 22)),none⟩,
 ⟨some 24,.p (.mov (T 4)),none⟩,
 ⟨some 25,.r (.lookup (.string (strOf [])) false .str (T 23) (T 24)),none⟩,
 ⟨some 26,.call (T 18) [(T 19),(T 25)],none⟩,
 ⟨some 27,.p (.un .not (T 26)),none⟩]
def zOY:List XO:=zOZ
theorem xq154_4e:E3 zOY zOZ:=E3.rfl
abbrev zOb:List XO:=[
 ⟨some 28,.p (.bin .add (T 14) (C (.int .i64 1))),none⟩,
 ⟨some 14,.p (.mov (T 28)),none⟩]
def zOa:List XO:=zOb
theorem xq154_5e:E3 zOa zOb:=E3.rfl
def zIr:XC :=
 .seq (.ops zOU) (.seq (.cond (T 15) (.skip) (.exit 0)) (.seq (.block 1 (.seq (.ops zOW) (.seq (.ops zOY) (.cond (T 27) (.ret) (.skip))))) (.ops zOa)))
def zOc:XC:=zIr
theorem xq154_6k {pr:Prog} {k:List KI} {Q:XE→Fr→Heap→Prop} {t:Fr} {h:Heap} (hw:wpk pr zIr k Q t h):wpk pr zOc k Q t h:=hw
def xq154:XF:=⟨2,[],
 .seq (.seq (.ops zOQ) (.cond (T 6) (.ret) (.skip))) (.seq (.ops zOS) (.block 0 (.loop zOc)))⟩
def yq154:=PLift.up (And.intro (And.intro (@xq154_0e) (And.intro (@xq154_1e) (@xq154_2e))) (And.intro (@xq154_3e) (And.intro (@xq154_4e) (@xq154_5e))))
theorem cq154:zX Tryz.prog Tryz.f154=some xq154:=by kernel_rfl
abbrev zVZ:List XO:=[
 ⟨some 2,.p (.mov (C (.string (strOf [])))),none⟩]
def xq80_0:List XO:=zVZ
theorem xq80_0e:E3 xq80_0 zVZ:=E3.rfl
abbrev zVa:List XO:=[
 ⟨some 6,.call (.func 75) [],none⟩,
 ⟨some 3,.a (.alloc [(.pointer none)]),none⟩,
 ⟨none,.e (.store 1 (T 3) (T 6)),none⟩]
def xq80_1:List XO:=zVa
theorem xq80_1e:E3 xq80_1 zVa:=E3.rfl
abbrev zVb:List XO:=[
 ⟨some 7,.r (.load1 (T 3)),none⟩,
 ⟨some 8,.p (.mov (T 0)),none⟩,
 ⟨some 9,.call (.func 94) [(T 8)],none⟩,
 ⟨some 10,.call (.func 121) [(T 7),(T 9)],none⟩]
def xq80_2:List XO:=zVb
theorem xq80_2e:E3 xq80_2 zVb:=E3.rfl
abbrev zVc:List XO:=[
 ⟨some 11,.p (.mov (T 0)),none⟩,
 ⟨some 12,.call (.func 95) [(T 11)],none⟩]
def xq80_3:List XO:=zVc
theorem xq80_3e:E3 xq80_3 zVc:=E3.rfl
abbrev zVd:List XO:=[
 ⟨some 4,.p (.mov (T 13)),none⟩]
def zE7:List XO:=zVd
theorem xq80_4e:E3 zE7 zVd:=E3.rfl
abbrev zVe:List XO:=[
 ⟨some 5,.p (.mov (T 14)),none⟩]
def zE8:List XO:=zVe
theorem xq80_5e:E3 zE8 zVe:=E3.rfl
abbrev zVf:List XO:=[
 ⟨some 15,.r (.load1 (T 3)),none⟩,
 ⟨some 16,.p (.mov (T 4)),none⟩,
 ⟨some 17,.call (.func 76) [(T 15),(T 16)],none⟩]
def zE9:List XO:=zVf
theorem xq80_6e:E3 zE9 zVf:=E3.rfl
abbrev zVg:List XO:=[
 ⟨some 18,.r (.load1 (T 3)),none⟩,
 ⟨some 19,.p (.mov (T 5)),none⟩,
 ⟨some 20,.call (.func 76) [(T 18),(T 19)],none⟩]
def zFA:List XO:=zVg
theorem xq80_7e:E3 zFA zVg:=E3.rfl
abbrev zVh:List XO:=[
 ⟨some 21,.r (.load1 (T 3)),none⟩,
 ⟨some 22,.call (.func 81) [(T 21)],none⟩,
 ⟨some 2,.p (.mov (T 22)),none⟩]
def xq80_8:List XO:=zVh
theorem xq80_8e:E3 xq80_8 zVh:=E3.rfl
def xq80:XF:=⟨1,[.tmp 2],
 .seq (.ops xq80_0) (.seq (.ops xq80_1) (.seq (.draw xq80_2 [(0,(3,[]))]) (.seq (.seq (.ops xq80_3) (.block 0 (.rng (T 12) [13,14] 23 (.seq (.ops zE7) (.ops zE8)) (.block 1 (.seq (.ops zE9) (.ops zFA)))))) (.seq (.ops xq80_8) (.ret)))))⟩
def yq80:=PLift.up (And.intro (And.intro (And.intro (@xq80_0e) (@xq80_1e)) (And.intro (@xq80_2e) (@xq80_3e))) (And.intro (And.intro (@xq80_4e) (@xq80_5e)) (And.intro (@xq80_6e) (And.intro (@xq80_7e) (@xq80_8e)))))
theorem cq80:zX Tryz.prog Tryz.f80=some xq80:=by kernel_rfl
abbrev zVA:List XO:=[
 ⟨some 4,.p (.mov (C (.bool false))),none⟩]
def xq65_0:List XO:=zVA
theorem xq65_0e:E3 xq65_0 zVA:=E3.rfl
abbrev zVD:List XO:=[
 ⟨some 6,.p (.mov (T 0)),none⟩,
 ⟨some 7,.p (.lenV (T 6)),none⟩,
 ⟨some 8,.p (.mov (T 1)),none⟩,
 ⟨some 9,.p (.lenV (T 8)),none⟩,
 ⟨some 10,.p (.eql true .int (T 7) (T 9)),none⟩]
def xq65_1:List XO:=zVD
theorem xq65_1e:E3 xq65_1 zVD:=E3.rfl
abbrev zVE:List XO:=[
 ⟨some 4,.p (.mov (C (.bool false))),none⟩]
def xq65_2:List XO:=zVE
theorem xq65_2e:E3 xq65_2 zVE:=E3.rfl
abbrev zVF:List XO:=[
 ⟨some 11,.p (.mov (T 0)),none⟩,
 ⟨some 12,.p (.lenV (T 11)),none⟩,
 ⟨some 13,.p (.mov (C (.int .i64 0))),none⟩]
def xq65_3:List XO:=zVF
theorem xq65_3e:E3 xq65_3 zVF:=E3.rfl
abbrev zVG:List XO:=[
 ⟨some 14,.p (.bin .lss (T 13) (T 12)),none⟩]
def xq65_4:List XO:=zVG
theorem xq65_4e:E3 xq65_4 zVG:=E3.rfl
abbrev zVH:List XO:=[
 ⟨some 15,.p (.mov (T 13)),none⟩,
 ⟨some 5,.p (.mov (T 15)),none⟩]
def xq65_5:List XO:=zVH
theorem xq65_5e:E3 xq65_5 zVH:=E3.rfl
abbrev zVI:List XO:=[
 ⟨some 16,.p (.mov (T 0)),none⟩,
 ⟨some 17,.p (.mov (T 5)),none⟩,
 ⟨some 18,.p (.iaddrS 1 (T 16) (T 17)),none⟩,
 ⟨some 19,.r (.load1 (T 18)),none⟩,
 ⟨some 20,.p (.mov (T 1)),none⟩,
 ⟨some 21,.p (.mov (T 5)),none⟩,
 ⟨some 22,.p (.iaddrS 1 (T 20) (T 21)),none⟩,
 ⟨some 23,.r (.load1 (T 22)),none⟩,
 ⟨some 24,.p (.eql true .int (T 19) (T 23)),none⟩]
def xq65_6:List XO:=zVI
theorem xq65_6e:E3 xq65_6 zVI:=E3.rfl
abbrev zVJ:List XO:=[
 ⟨some 4,.p (.mov (C (.bool false))),none⟩]
def xq65_7:List XO:=zVJ
theorem xq65_7e:E3 xq65_7 zVJ:=E3.rfl
abbrev zVK:List XO:=[
 ⟨some 25,.p (.bin .add (T 13) (C (.int .i64 1))),none⟩,
 ⟨some 13,.p (.mov (T 25)),none⟩]
def xq65_8:List XO:=zVK
theorem xq65_8e:E3 xq65_8 zVK:=E3.rfl
def zJN:XC :=
 .seq (.ops xq65_4) (.seq (.cond (T 14) (.skip) (.exit 0)) (.seq (.block 1 (.seq (.ops xq65_5) (.seq (.draw xq65_6 []) (.cond (T 24) (.seq (.ops xq65_7) (.ret)) (.skip))))) (.ops xq65_8)))
def xq65_9:XC:=zJN
theorem xq65_9k {pr:Prog} {k:List KI} {Q:XE→Fr→Heap→Prop} {t:Fr} {h:Heap} (hw:wpk pr zJN k Q t h):wpk pr xq65_9 k Q t h:=hw
abbrev zVC:List XO:=[
 ⟨some 4,.p (.mov (C (.bool true))),none⟩]
def zVB:List XO:=zVC
theorem xq65_10e:E3 zVB zVC:=E3.rfl
def xq65:XF:=⟨2,[.tmp 4],
 .seq (.ops xq65_0) (.seq (.seq (.ops xq65_1) (.cond (T 10) (.seq (.ops xq65_2) (.ret)) (.skip))) (.seq (.seq (.ops xq65_3) (.block 0 (.loop xq65_9))) (.seq (.ops zVB) (.ret))))⟩
def yq65:=PLift.up (And.intro (And.intro (And.intro (@xq65_0e) (@xq65_1e)) (And.intro (@xq65_2e) (And.intro (@xq65_3e) (@xq65_4e)))) (And.intro (And.intro (@xq65_5e) (@xq65_6e)) (And.intro (@xq65_7e) (And.intro (@xq65_8e) (@xq65_10e)))))
theorem cq65:zX Tryz.prog Tryz.f65=some xq65:=by kernel_rfl
abbrev zPv:List XO:=[
 ⟨some 0,.p (.mov (C (.pointer none))),none⟩]
def xq16_0:List XO:=zPv
theorem xq16_0e:E3 xq16_0 zPv:=E3.rfl
abbrev zPw:List XO:=[
 ⟨some 1,.p (.build [(.pointer none),(.int .i64 0)] []),none⟩,
 ⟨some 2,.a (.box (T 1)),none⟩,
 ⟨some 0,.p (.mov (T 2)),none⟩]
def xq16_1:List XO:=zPw
theorem xq16_1e:E3 xq16_1 zPw:=E3.rfl
def xq16:XF:=⟨0,[.tmp 0],
 .seq (.ops xq16_0) (.seq (.ops xq16_1) (.ret))⟩
def yq16:=PLift.up (And.intro (@xq16_0e) (@xq16_1e))
theorem cq16:zX Tryz.prog Tryz.f16=some xq16:=by kernel_rfl
abbrev zWs:List XO:=[
 ⟨some 6,.p (.mov (C (.int .i64 0))),none⟩]
def xq96_0:List XO:=zWs
theorem xq96_0e:E3 xq96_0 zWs:=E3.rfl
abbrev zWt:List XO:=[
 ⟨some 9,.p (.mov (T 0)),none⟩,
 ⟨some 10,.p (.eql false .nptr (T 9) (C (.pointer none))),none⟩]
def xq96_1:List XO:=zWt
theorem xq96_1e:E3 xq96_1 zWt:=E3.rfl
abbrev zWu:List XO:=[
 ⟨some 6,.p (.mov (C (.int .i64 1))),none⟩]
def xq96_2:List XO:=zWu
theorem xq96_2e:E3 xq96_2 zWu:=E3.rfl
abbrev zWv:List XO:=[
 ⟨some 12,.p (.mov (T 0)),none⟩,
 ⟨some 13,.p (.mov (T 1)),none⟩,
 ⟨some 14,.call (.func 156) [(T 12),(T 13)],none⟩,
 ⟨some 11,.p (.mov (T 14)),none⟩,
 ⟨some 15,.p (.ext (T 11) 0),none⟩,
 ⟨some 16,.p (.ext (T 11) 1),none⟩,
 ⟨some 7,.p (.mov (T 15)),none⟩,
 ⟨some 8,.p (.mov (T 16)),none⟩]
def xq96_3:List XO:=zWv
theorem xq96_3e:E3 xq96_3 zWv:=E3.rfl
abbrev zWw:List XO:=[
 ⟨some 17,.p (.mov (T 8)),none⟩,
 ⟨some 18,.p (.un .not (T 17)),none⟩]
def xq96_4:List XO:=zWw
theorem xq96_4e:E3 xq96_4 zWw:=E3.rfl
abbrev zWx:List XO:=[
 ⟨some 19,.p (.mov (T 0)),none⟩,
 ⟨some 20,.p (.nilc (T 19)),none⟩,
 ⟨some 21,.p (.faddr 1 (T 20)),none⟩,
 ⟨some 22,.r (.load1 (T 21)),none⟩,
 ⟨some 23,.p (.bin .add (T 22) (C (.int .i64 1))),none⟩,
 ⟨some 24,.p (.nilc (T 19)),none⟩,
 ⟨some 25,.p (.faddr 1 (T 24)),none⟩,
 ⟨none,.e (.store 1 (T 25) (T 23)),none⟩]
def xq96_5:List XO:=zWx
theorem xq96_5e:E3 xq96_5 zWx:=E3.rfl
abbrev zWy:List XO:=[
 ⟨some 26,.p (.mov (T 0)),none⟩,
 ⟨some 27,.p (.mov (T 0)),none⟩,
 ⟨some 28,.p (.nilc (T 27)),none⟩,
 ⟨some 29,.p (.faddr 0 (T 28)),none⟩,
 ⟨some 30,.r (.load1 (T 29)),none⟩,
 ⟨some 31,.p (.mov (T 1)),none⟩,
 ⟨some 32,.call (.func 158) [(T 31)],none⟩,
 ⟨some 33,.p (.mov (T 2)),none⟩,
 ⟨some 34,.call (.func 159) [(T 33)],none⟩,
 ⟨some 35,.p (.build [(.string (strOf [])),(.string (strOf []))] [(0,1,(T 32)),(1,1,(T 34))]),none⟩,
 ⟨some 36,.call (.func 157) [(T 30),(T 35),(C (.int .i64 0))],none⟩,
 ⟨some 37,.p (.nilc (T 26)),none⟩,
 ⟨some 38,.p (.faddr 0 (T 37)),none⟩,
 ⟨none,.e (.store 1 (T 38) (T 36)),none⟩]
def xq96_6:List XO:=zWy
theorem xq96_6e:E3 xq96_6 zWy:=E3.rfl
abbrev zWz:List XO:=[
 ⟨some 6,.p (.mov (C (.int .i64 0))),none⟩]
def xq96_7:List XO:=zWz
theorem xq96_7e:E3 xq96_7 zWz:=E3.rfl
def xq96:XF:=⟨3,[.tmp 6],
 .seq (.ops xq96_0) (.seq (.seq (.ops xq96_1) (.cond (T 10) (.seq (.ops xq96_2) (.ret)) (.skip))) (.seq (.seq (.ops xq96_3) (.seq (.ops xq96_4) (.cond (T 18) (.ops xq96_5) (.skip)))) (.seq (.draw xq96_6 [(4,(8,[])),(4,(10,[]))]) (.seq (.ops xq96_7) (.ret)))))⟩
def yq96:=PLift.up (And.intro (And.intro (And.intro (@xq96_0e) (@xq96_1e)) (And.intro (@xq96_2e) (@xq96_3e))) (And.intro (And.intro (@xq96_4e) (@xq96_5e)) (And.intro (@xq96_6e) (@xq96_7e))))
theorem cq96:zX Tryz.prog Tryz.f96=some xq96:=by kernel_rfl
abbrev zOi:List XO:=[
 ⟨some 4,.p (.mov (C (.string (strOf [])))),none⟩,
 ⟨some 5,.p (.mov (C (.bool false))),none⟩]
def zOh:List XO:=zOi
theorem xq156_0e:E3 zOh zOi:=E3.rfl
abbrev zOq:List XO:=[
 ⟨some 9,.p (.mov (T 0)),none⟩,
 ⟨some 10,.p (.eql false .nptr (T 9) (C (.pointer none))),none⟩]
def zOj:List XO:=zOq
theorem xq156_1e:E3 zOj zOq:=E3.rfl
abbrev zOs:List XO:=[
 ⟨some 4,.p (.mov (C (.string (strOf [])))),none⟩,
 ⟨some 5,.p (.mov (C (.bool false))),none⟩]
def zOr:List XO:=zOs
theorem xq156_2e:E3 zOr zOs:=E3.rfl
abbrev zOu:List XO:=[
 ⟨some 11,.p (.mov (T 1)),none⟩,
 ⟨some 12,.call (.func 158) [(T 11)],none⟩,
 ⟨some 6,.p (.mov (T 12)),none⟩]
def zOt:List XO:=zOu
theorem xq156_3e:E3 zOt zOu:=E3.rfl
abbrev zOw:List XO:=[
 ⟨some 13,.p (.mov (T 0)),none⟩,
 ⟨some 14,.p (.nilc (T 13)),none⟩,
 ⟨some 15,.p (.faddr 0 (T 14)),none⟩,
 ⟨some 16,.r (.load1 (T 15)),none⟩,
 ⟨some 7,.p (.mov (T 16)),none⟩]
def zOv:List XO:=zOw
theorem xq156_4e:E3 zOv zOw:=E3.rfl
abbrev zOy:List XO:=[
 ⟨some 8,.p (.mov (C (.int .i64 0))),none⟩]
def zOx:List XO:=zOy
theorem xq156_5e:E3 zOx zOy:=E3.rfl
abbrev zO0:List XO:=[
 ⟨some 17,.p (.mov (T 7)),none⟩,
 ⟨some 18,.p (.eql true .nptr (T 17) (C (.pointer none))),none⟩,
 ⟨some 19,.p (.mov (T 18)),none⟩,
 ⟨some 20,.p (.mov (T 7)),some (19,true)⟩,
 ⟨some 21,.p (.nilc (T 20)),some (19,true)⟩,
 ⟨some 22,.p (.faddr 2 (T 21)),some (19,true)⟩,
 ⟨some 23,.r (.load1 (T 22)),some (19,true)⟩,
 ⟨some 24,.p (.eql false .nptr (T 23) (C (.pointer none))),some (19,true)⟩,
 ⟨some 25,.p (.pick (T 19) (T 24) (C (.bool false))),none⟩]
def zOz:List XO:=zO0
theorem xq156_6e:E3 zOz zO0:=E3.rfl
abbrev zO2:List XO:=[
 ⟨some 28,.p (.mov (T 7)),none⟩,
 ⟨some 29,.p (.mov (T 6)),none⟩,
 ⟨some 30,.p (.mov (T 8)),none⟩,
 ⟨some 31,.call (.func 190) [(T 29),(T 30)],none⟩,
 ⟨some 32,.p (.nilc (T 28)),none⟩,
 ⟨some 33,.p (.faddr 0 (T 32)),none⟩,
 ⟨some 34,.p (.iaddrA 2 1 (T 33) (T 31)),none⟩,
 ⟨some 35,.r (.load1 (T 34)),none⟩,
 ⟨some 7,.p (.mov (T 35)),none⟩]
def zO1:List XO:=zO2
theorem xq156_7e:E3 zO1 zO2:=E3.rfl
abbrev zO4:List XO:=[
 ⟨some 26,.p (.mov (T 8)),none⟩,
 ⟨some 27,.p (.bin .add (T 26) (C (.int .i64 1))),none⟩,
 ⟨some 8,.p (.mov (T 27)),none⟩]
def zO3:List XO:=zO4
theorem xq156_8e:E3 zO3 zO4:=E3.rfl
def zIs:XC :=
 .seq (.seq (.ops zOz) (.cond (T 25) (.skip) (.exit 0))) (.seq (.block 1 (.draw zO1 [])) (.ops zO3))
def zO5:XC:=zIs
theorem xq156_9k {pr:Prog} {k:List KI} {Q:XE→Fr→Heap→Prop} {t:Fr} {h:Heap} (hw:wpk pr zIs k Q t h):wpk pr zO5 k Q t h:=hw
abbrev zOl:List XO:=[
 ⟨some 36,.p (.mov (T 7)),none⟩,
 ⟨some 37,.p (.eql false .nptr (T 36) (C (.pointer none))),none⟩,
 ⟨some 38,.p (.mov (T 37)),none⟩,
 ⟨some 39,.p (.mov (T 7)),some (38,false)⟩,
 ⟨some 40,.p (.nilc (T 39)),some (38,false)⟩,
 ⟨some 41,.p (.faddr 2 (T 40)),some (38,false)⟩,
 ⟨some 42,.r (.load1 (T 41)),some (38,false)⟩,
 ⟨some 43,.p (.nilc (T 42)),some (38,false)⟩,
 ⟨some 44,.p (.faddr 0 (T 43)),some (38,false)⟩,
 ⟨some 45,.r (.load1 (T 44)),some (38,false)⟩,
 ⟨some 46,.p (.mov (T 6)),some (38,false)⟩,
 ⟨some 47,.p (.eql true .str (T 45) (T 46)),some (38,false)⟩,
 ⟨some 48,.p (.pick (T 38) (C (.bool true)) (T 47)),none⟩]
def zOk:List XO:=zOl
theorem zZx:E3 zOk zOl:=E3.rfl
abbrev zOn:List XO:=[
 ⟨some 4,.p (.mov (C (.string (strOf [])))),none⟩,
 ⟨some 5,.p (.mov (C (.bool false))),none⟩]
def zOm:List XO:=zOn
theorem zZy:E3 zOm zOn:=E3.rfl
abbrev zOp:List XO:=[
 ⟨some 49,.p (.mov (T 7)),none⟩,
 ⟨some 50,.p (.nilc (T 49)),none⟩,
 ⟨some 51,.p (.faddr 2 (T 50)),none⟩,
 ⟨some 52,.r (.load1 (T 51)),none⟩,
 ⟨some 53,.p (.nilc (T 52)),none⟩,
 ⟨some 54,.p (.faddr 1 (T 53)),none⟩,
 ⟨some 55,.r (.load1 (T 54)),none⟩,
 ⟨some 4,.p (.mov (T 55)),none⟩,
 ⟨some 5,.p (.mov (C (.bool true))),none⟩]
def zOo:List XO:=zOp
theorem zZz:E3 zOo zOp:=E3.rfl
def xq156:XF:=⟨2,[.tmp 4,.tmp 5],
 .seq (.ops zOh) (.seq (.seq (.ops zOj) (.cond (T 10) (.seq (.ops zOr) (.ret)) (.skip))) (.seq (.ops zOt) (.seq (.ops zOv) (.seq (.seq (.ops zOx) (.block 0 (.loop zO5))) (.seq (.seq (.ops zOk) (.cond (T 48) (.seq (.ops zOm) (.ret)) (.skip))) (.seq (.ops zOo) (.ret)))))))⟩
def yq156:=PLift.up (And.intro (And.intro (And.intro (@xq156_0e) (And.intro (@xq156_1e) (@xq156_2e))) (And.intro (@xq156_3e) (And.intro (@xq156_4e) (@xq156_5e)))) (And.intro (And.intro (@xq156_6e) (And.intro (@xq156_7e) (@xq156_8e))) (And.intro (@zZx) (And.intro (@zZy) (@zZz)))))
theorem cq156:zX Tryz.prog Tryz.f156=some xq156:=by kernel_rfl
abbrev zO7:List XO:=[
 ⟨some 4,.a (.box (T 1)),none⟩,
 ⟨some 6,.p (.mov (C (.pointer none))),none⟩]
def zO6:List XO:=zO7
theorem xq157_0e:E3 zO6 zO7:=E3.rfl
abbrev zPB:List XO:=[
 ⟨some 10,.p (.mov (T 0)),none⟩,
 ⟨some 11,.p (.eql false .nptr (T 10) (C (.pointer none))),none⟩,
 ⟨some 9,.p (.mov (T 11)),none⟩]
def zO8:List XO:=zPB
theorem xq157_1e:E3 zO8 zPB:=E3.rfl
abbrev zPD:List XO:=[
 ⟨some 12,.r (.loadN 2 (T 4)),none⟩,
 ⟨some 13,.call (.func 191) [(T 12)],none⟩,
 ⟨some 6,.p (.mov (T 13)),none⟩]
def zPC:List XO:=zPD
theorem xq157_2e:E3 zPC zPD:=E3.rfl
abbrev zPF:List XO:=[
 ⟨some 15,.p (.mov (T 0)),none⟩,
 ⟨some 16,.p (.nilc (T 15)),none⟩,
 ⟨some 17,.p (.faddr 2 (T 16)),none⟩,
 ⟨some 18,.r (.load1 (T 17)),none⟩,
 ⟨some 19,.p (.eql true .nptr (T 18) (C (.pointer none))),none⟩,
 ⟨some 20,.p (.mov (T 19)),none⟩,
 ⟨some 21,.p (.mov (T 0)),some (20,true)⟩,
 ⟨some 22,.p (.nilc (T 21)),some (20,true)⟩,
 ⟨some 23,.p (.faddr 2 (T 22)),some (20,true)⟩,
 ⟨some 24,.r (.load1 (T 23)),some (20,true)⟩,
 ⟨some 25,.p (.nilc (T 24)),some (20,true)⟩,
 ⟨some 26,.p (.faddr 0 (T 25)),some (20,true)⟩,
 ⟨some 27,.r (.load1 (T 26)),some (20,true)⟩,
 ⟨some 28,.p (.faddr 0 (T 4)),some (20,true)⟩,
 ⟨some 29,.r (.load1 (T 28)),some (20,true)⟩,
 ⟨some 30,.p (.eql false .str (T 27) (T 29)),some (20,true)⟩,
 ⟨some 31,.p (.pick (T 20) (T 30) (C (.bool false))),none⟩,
 ⟨some 14,.p (.mov (T 31)),none⟩]
def zPE:List XO:=zPF
theorem xq157_3e:E3 zPE zPF:=E3.rfl
abbrev zPH:List XO:=[
 ⟨some 32,.r (.loadN 2 (T 4)),none⟩,
 ⟨some 33,.call (.func 191) [(T 32)],none⟩,
 ⟨some 6,.p (.mov (T 33)),none⟩]
def zPG:List XO:=zPH
theorem xq157_4e:E3 zPG zPH:=E3.rfl
abbrev zPJ:List XO:=[
 ⟨some 35,.p (.mov (T 0)),none⟩,
 ⟨some 36,.p (.nilc (T 35)),none⟩,
 ⟨some 37,.p (.faddr 2 (T 36)),none⟩,
 ⟨some 38,.r (.load1 (T 37)),none⟩,
 ⟨some 39,.p (.eql true .nptr (T 38) (C (.pointer none))),none⟩,
 ⟨some 34,.p (.mov (T 39)),none⟩]
def zPI:List XO:=zPJ
theorem xq157_5e:E3 zPI zPJ:=E3.rfl
abbrev zPL:List XO:=[
 ⟨some 40,.p (.mov (T 0)),none⟩,
 ⟨some 41,.p (.nilc (T 40)),none⟩,
 ⟨some 42,.p (.faddr 2 (T 41)),none⟩,
 ⟨some 43,.r (.load1 (T 42)),none⟩,
 ⟨some 44,.p (.nilc (T 43)),none⟩,
 ⟨some 45,.r (.loadN 2 (T 44)),none⟩,
 ⟨some 46,.r (.loadN 2 (T 4)),none⟩,
 ⟨some 47,.p (.mov (T 2)),none⟩,
 ⟨some 48,.call (.func 192) [(T 45),(T 46),(T 47)],none⟩,
 ⟨some 6,.p (.mov (T 48)),none⟩]
def zPK:List XO:=zPL
theorem xq157_6e:E3 zPK zPL:=E3.rfl
abbrev zPN:List XO:=[
 ⟨some 49,.p (.mov (T 0)),none⟩,
 ⟨some 50,.p (.nilc (T 49)),none⟩,
 ⟨some 51,.p (.faddr 0 (T 50)),none⟩,
 ⟨some 52,.r (.loadN 2 (T 51)),none⟩,
 ⟨some 7,.a (.alloc [(.pointer none),(.pointer none)]),none⟩,
 ⟨none,.e (.store 2 (T 7) (T 52)),none⟩]
def zPM:List XO:=zPN
theorem xq157_7e:E3 zPM zPN:=E3.rfl
abbrev zPP:List XO:=[
 ⟨some 53,.p (.faddr 0 (T 4)),none⟩,
 ⟨some 54,.r (.load1 (T 53)),none⟩,
 ⟨some 55,.p (.mov (T 2)),none⟩,
 ⟨some 56,.call (.func 190) [(T 54),(T 55)],none⟩,
 ⟨some 8,.p (.mov (T 56)),none⟩]
def zPO:List XO:=zPP
theorem xq157_8e:E3 zPO zPP:=E3.rfl
abbrev zPR:List XO:=[
 ⟨some 57,.p (.mov (T 8)),none⟩,
 ⟨some 58,.p (.mov (T 8)),none⟩,
 ⟨some 59,.p (.iaddrA 2 1 (T 7) (T 58)),none⟩,
 ⟨some 60,.r (.load1 (T 59)),none⟩,
 ⟨some 61,.r (.loadN 2 (T 4)),none⟩,
 ⟨some 62,.p (.mov (T 2)),none⟩,
 ⟨some 63,.p (.bin .add (T 62) (C (.int .i64 1))),none⟩,
 ⟨some 64,.call (.func 157) [(T 60),(T 61),(T 63)],none⟩,
 ⟨some 65,.p (.iaddrA 2 1 (T 7) (T 57)),none⟩,
 ⟨none,.e (.store 1 (T 65) (T 64)),none⟩]
def zPQ:List XO:=zPR
theorem xq157_9e:E3 zPQ zPR:=E3.rfl
abbrev zPA:List XO:=[
 ⟨some 66,.p (.iaddrA 2 1 (T 7) (C (.int .i64 0))),none⟩,
 ⟨some 67,.r (.load1 (T 66)),none⟩,
 ⟨some 68,.p (.iaddrA 2 1 (T 7) (C (.int .i64 1))),none⟩,
 ⟨some 69,.r (.load1 (T 68)),none⟩,
 ⟨some 70,.call (.func 193) [(T 67),(T 69)],none⟩,
 ⟨some 6,.p (.mov (T 70)),none⟩]
def zO9:List XO:=zPA
theorem zZ0:E3 zO9 zPA:=E3.rfl
def zE3:XF:=⟨3,[.tmp 6],
 .seq (.ops zO6) (.seq (.block 0 (.seq (.ops zO8) (.cond (T 9) (.seq (.ops zPC) (.ret)) (.seq (.draw zPE []) (.cond (T 14) (.seq (.ops zPG) (.ret)) (.seq (.ops zPI) (.cond (T 34) (.seq (.draw zPK []) (.ret)) (.skip)))))))) (.seq (.ops zPM) (.seq (.ops zPO) (.seq (.draw zPQ []) (.seq (.ops zO9) (.ret))))))⟩
def yq157:=PLift.up (And.intro (And.intro (And.intro (@xq157_0e) (@xq157_1e)) (And.intro (@xq157_2e) (And.intro (@xq157_3e) (@xq157_4e)))) (And.intro (And.intro (@xq157_5e) (And.intro (@xq157_6e) (@xq157_7e))) (And.intro (@xq157_8e) (And.intro (@xq157_9e) (@zZ0)))))
theorem cq157:zX Tryz.prog Tryz.f157=some zE3:=by kernel_rfl
abbrev zQG:List XO:=[
 ⟨some 3,.a (.box (T 0)),none⟩,
 ⟨some 4,.a (.box (T 1)),none⟩,
 ⟨some 6,.p (.mov (C (.pointer none))),none⟩]
def zQF:List XO:=zQG
theorem xq192_0e:E3 zQF zQG:=E3.rfl
abbrev zQI:List XO:=[
 ⟨some 10,.p (.faddr 0 (T 3)),none⟩,
 ⟨some 11,.r (.load1 (T 10)),none⟩,
 ⟨some 12,.p (.mov (T 2)),none⟩,
 ⟨some 13,.call (.func 190) [(T 11),(T 12)],none⟩,
 ⟨some 14,.p (.faddr 0 (T 4)),none⟩,
 ⟨some 15,.r (.load1 (T 14)),none⟩,
 ⟨some 16,.p (.mov (T 2)),none⟩,
 ⟨some 17,.call (.func 190) [(T 15),(T 16)],none⟩,
 ⟨some 7,.p (.mov (T 13)),none⟩,
 ⟨some 8,.p (.mov (T 17)),none⟩]
def zQH:List XO:=zQI
theorem xq192_1e:E3 zQH zQI:=E3.rfl
abbrev zQK:List XO:=[
 ⟨some 9,.a (.alloc [(.pointer none),(.pointer none)]),none⟩]
def zQJ:List XO:=zQK
theorem xq192_2e:E3 zQJ zQK:=E3.rfl
abbrev zQM:List XO:=[
 ⟨some 18,.p (.mov (T 7)),none⟩,
 ⟨some 19,.p (.mov (T 8)),none⟩,
 ⟨some 20,.p (.eql false .int (T 18) (T 19)),none⟩]
def zQL:List XO:=zQM
theorem xq192_3e:E3 zQL zQM:=E3.rfl
abbrev zQO:List XO:=[
 ⟨some 21,.p (.mov (T 7)),none⟩,
 ⟨some 22,.r (.loadN 2 (T 3)),none⟩,
 ⟨some 23,.r (.loadN 2 (T 4)),none⟩,
 ⟨some 24,.p (.mov (T 2)),none⟩,
 ⟨some 25,.p (.bin .add (T 24) (C (.int .i64 1))),none⟩,
 ⟨some 26,.call (.func 192) [(T 22),(T 23),(T 25)],none⟩,
 ⟨some 27,.p (.iaddrA 2 1 (T 9) (T 21)),none⟩,
 ⟨none,.e (.store 1 (T 27) (T 26)),none⟩]
def zQN:List XO:=zQO
theorem xq192_4e:E3 zQN zQO:=E3.rfl
abbrev zQQ:List XO:=[
 ⟨some 28,.p (.mov (T 7)),none⟩,
 ⟨some 29,.p (.mov (T 8)),none⟩,
 ⟨some 30,.r (.loadN 2 (T 3)),none⟩,
 ⟨some 31,.call (.func 191) [(T 30)],none⟩,
 ⟨some 32,.r (.loadN 2 (T 4)),none⟩,
 ⟨some 33,.call (.func 191) [(T 32)],none⟩,
 ⟨some 34,.p (.iaddrA 2 1 (T 9) (T 28)),none⟩,
 ⟨none,.e (.store 1 (T 34) (T 31)),none⟩,
 ⟨some 35,.p (.iaddrA 2 1 (T 9) (T 29)),none⟩,
 ⟨none,.e (.store 1 (T 35) (T 33)),none⟩]
def zQP:List XO:=zQQ
theorem xq192_5e:E3 zQP zQQ:=E3.rfl
abbrev zQS:List XO:=[
 ⟨some 36,.p (.iaddrA 2 1 (T 9) (C (.int .i64 0))),none⟩,
 ⟨some 37,.r (.load1 (T 36)),none⟩,
 ⟨some 38,.p (.iaddrA 2 1 (T 9) (C (.int .i64 1))),none⟩,
 ⟨some 39,.r (.load1 (T 38)),none⟩,
 ⟨some 40,.call (.func 193) [(T 37),(T 39)],none⟩,
 ⟨some 6,.p (.mov (T 40)),none⟩]
def zQR:List XO:=zQS
theorem xq192_6e:E3 zQR zQS:=E3.rfl
def xq192:XF:=⟨3,[.tmp 6],
 .seq (.ops zQF) (.seq (.draw zQH [(5,(3,[]))]) (.seq (.ops zQJ) (.seq (.seq (.ops zQL) (.cond (T 20) (.ops zQN) (.draw zQP [(4,(3,[]))]))) (.seq (.ops zQR) (.ret)))))⟩
def yq192:=PLift.up (And.intro (And.intro (@xq192_0e) (And.intro (@xq192_1e) (@xq192_2e))) (And.intro (And.intro (@xq192_3e) (@xq192_4e)) (And.intro (@xq192_5e) (@xq192_6e))))
theorem cq192:zX Tryz.prog Tryz.f192=some xq192:=by kernel_rfl
abbrev zQU:List XO:=[
 ⟨some 4,.p (.mov (C (.pointer none))),none⟩]
def zQT:List XO:=zQU
theorem xq193_0e:E3 zQT zQU:=E3.rfl
abbrev zQW:List XO:=[
 ⟨some 6,.p (.mov (T 0)),none⟩,
 ⟨some 7,.p (.eql false .nptr (T 6) (C (.pointer none))),none⟩,
 ⟨some 8,.p (.mov (T 7)),none⟩,
 ⟨some 9,.p (.mov (T 1)),some (8,true)⟩,
 ⟨some 10,.p (.eql false .nptr (T 9) (C (.pointer none))),some (8,true)⟩,
 ⟨some 11,.p (.pick (T 8) (T 10) (C (.bool false))),none⟩,
 ⟨some 5,.p (.mov (T 11)),none⟩]
def zQV:List XO:=zQW
theorem xq193_1e:E3 zQV zQW:=E3.rfl
abbrev zQY:List XO:=[
 ⟨some 4,.p (.mov (C (.pointer none))),none⟩]
def zQX:List XO:=zQY
theorem xq193_2e:E3 zQX zQY:=E3.rfl
abbrev zQa:List XO:=[
 ⟨some 13,.p (.mov (T 0)),none⟩,
 ⟨some 14,.p (.eql false .nptr (T 13) (C (.pointer none))),none⟩,
 ⟨some 15,.p (.mov (T 14)),none⟩,
 ⟨some 16,.p (.mov (T 1)),some (15,true)⟩,
 ⟨some 17,.p (.nilc (T 16)),some (15,true)⟩,
 ⟨some 18,.p (.faddr 2 (T 17)),some (15,true)⟩,
 ⟨some 19,.r (.load1 (T 18)),some (15,true)⟩,
 ⟨some 20,.p (.eql true .nptr (T 19) (C (.pointer none))),some (15,true)⟩,
 ⟨some 21,.p (.pick (T 15) (T 20) (C (.bool false))),none⟩,
 ⟨some 12,.p (.mov (T 21)),none⟩]
def zQZ:List XO:=zQa
theorem xq193_3e:E3 zQZ zQa:=E3.rfl
abbrev zQc:List XO:=[
 ⟨some 22,.p (.mov (T 1)),none⟩,
 ⟨some 4,.p (.mov (T 22)),none⟩]
def zQb:List XO:=zQc
theorem xq193_4e:E3 zQb zQc:=E3.rfl
abbrev zQe:List XO:=[
 ⟨some 24,.p (.mov (T 1)),none⟩,
 ⟨some 25,.p (.eql false .nptr (T 24) (C (.pointer none))),none⟩,
 ⟨some 26,.p (.mov (T 25)),none⟩,
 ⟨some 27,.p (.mov (T 0)),some (26,true)⟩,
 ⟨some 28,.p (.nilc (T 27)),some (26,true)⟩,
 ⟨some 29,.p (.faddr 2 (T 28)),some (26,true)⟩,
 ⟨some 30,.r (.load1 (T 29)),some (26,true)⟩,
 ⟨some 31,.p (.eql true .nptr (T 30) (C (.pointer none))),some (26,true)⟩,
 ⟨some 32,.p (.pick (T 26) (T 31) (C (.bool false))),none⟩,
 ⟨some 23,.p (.mov (T 32)),none⟩]
def zQd:List XO:=zQe
theorem xq193_5e:E3 zQd zQe:=E3.rfl
abbrev zQg:List XO:=[
 ⟨some 33,.p (.mov (T 0)),none⟩,
 ⟨some 4,.p (.mov (T 33)),none⟩]
def zQf:List XO:=zQg
theorem xq193_6e:E3 zQf zQg:=E3.rfl
abbrev zQi:List XO:=[
 ⟨some 34,.p (.mov (T 0)),none⟩,
 ⟨some 35,.p (.mov (T 1)),none⟩,
 ⟨some 36,.p (.build [(.pointer none),(.pointer none)] [(0,1,(T 34)),(1,1,(T 35))]),none⟩,
 ⟨some 37,.p (.mov (T 0)),none⟩,
 ⟨some 38,.call (.func 131) [(T 37)],none⟩,
 ⟨some 39,.p (.mov (T 1)),none⟩,
 ⟨some 40,.call (.func 131) [(T 39)],none⟩,
 ⟨some 41,.call (.func 211) [(T 38),(T 40)],none⟩,
 ⟨some 42,.p (.build [(.pointer none),(.pointer none),(.pointer none),(.string (strOf []))] [(0,2,(T 36)),(3,1,(T 41))]),none⟩,
 ⟨some 43,.a (.box (T 42)),none⟩,
 ⟨some 4,.p (.mov (T 43)),none⟩]
def zQh:List XO:=zQi
theorem xq193_7e:E3 zQh zQi:=E3.rfl
def zEH:XF:=⟨2,[.tmp 4],
 .seq (.ops zQT) (.seq (.block 0 (.seq (.ops zQV) (.cond (T 5) (.seq (.ops zQX) (.ret)) (.seq (.ops zQZ) (.cond (T 12) (.seq (.ops zQb) (.ret)) (.seq (.ops zQd) (.cond (T 23) (.seq (.ops zQf) (.ret)) (.skip)))))))) (.seq (.ops zQh) (.ret)))⟩
def yq193:=PLift.up (And.intro (And.intro (And.intro (@xq193_0e) (@xq193_1e)) (And.intro (@xq193_2e) (@xq193_3e))) (And.intro (And.intro (@xq193_4e) (@xq193_5e)) (And.intro (@xq193_6e) (@xq193_7e))))
theorem cq193:zX Tryz.prog Tryz.f193=some zEH:=by kernel_rfl
abbrev zQC:List XO:=[
 ⟨some 1,.a (.box (T 0)),none⟩,
 ⟨some 2,.p (.mov (C (.pointer none))),none⟩]
def zQB:List XO:=zQC
theorem xq191_0e:E3 zQB zQC:=E3.rfl
abbrev zQE:List XO:=[
 ⟨some 3,.r (.loadN 2 (T 1)),none⟩,
 ⟨some 4,.call (.func 210) [(T 3)],none⟩,
 ⟨some 5,.p (.build [(.pointer none),(.pointer none),(.pointer none),(.string (strOf []))] [(2,1,(T 1)),(3,1,(T 4))]),none⟩,
 ⟨some 6,.a (.box (T 5)),none⟩,
 ⟨some 2,.p (.mov (T 6)),none⟩]
def zQD:List XO:=zQE
theorem xq191_1e:E3 zQD zQE:=E3.rfl
def xq191:XF:=⟨1,[.tmp 2],
 .seq (.ops zQB) (.seq (.ops zQD) (.ret))⟩
def yq191:=PLift.up (And.intro (@xq191_0e) (@xq191_1e))
theorem cq191:zX Tryz.prog Tryz.f191=some xq191:=by kernel_rfl
abbrev zM9:List XO:=[
 ⟨some 2,.p (.mov (C (.string (strOf [])))),none⟩]
def zM8:List XO:=zM9
theorem xq131_0e:E3 zM8 zM9:=E3.rfl
abbrev zNB:List XO:=[
 ⟨some 3,.p (.mov (T 0)),none⟩,
 ⟨some 4,.p (.eql false .nptr (T 3) (C (.pointer none))),none⟩]
def zNA:List XO:=zNB
theorem xq131_1e:E3 zNA zNB:=E3.rfl
abbrev zND:List XO:=[
 ⟨some 5,.call (.func 130) [],none⟩,
 ⟨some 2,.p (.mov (T 5)),none⟩]
def zNC:List XO:=zND
theorem xq131_2e:E3 zNC zND:=E3.rfl
abbrev zNF:List XO:=[
 ⟨some 6,.p (.mov (T 0)),none⟩,
 ⟨some 7,.p (.nilc (T 6)),none⟩,
 ⟨some 8,.p (.faddr 3 (T 7)),none⟩,
 ⟨some 9,.r (.load1 (T 8)),none⟩,
 ⟨some 2,.p (.mov (T 9)),none⟩]
def zNE:List XO:=zNF
theorem xq131_3e:E3 zNE zNF:=E3.rfl
def xq131:XF:=⟨1,[.tmp 2],
 .seq (.ops zM8) (.seq (.seq (.ops zNA) (.cond (T 4) (.seq (.ops zNC) (.ret)) (.skip))) (.seq (.ops zNE) (.ret)))⟩
def yq131:=PLift.up (And.intro (And.intro (@xq131_0e) (@xq131_1e)) (And.intro (@xq131_2e) (@xq131_3e)))
theorem cq131:zX Tryz.prog Tryz.f131=some xq131:=by kernel_rfl
abbrev zP8:List XO:=[
 ⟨some 4,.p (.mov (C (.int .i64 0))),none⟩]
def zP7:List XO:=zP8
theorem xq190_0e:E3 zP7 zP8:=E3.rfl
abbrev zQA:List XO:=[
 ⟨some 5,.p (.mov (T 0)),none⟩,
 ⟨some 6,.p (.mov (T 1)),none⟩,
 ⟨some 7,.p (.bin .quo (T 6) (C (.int .i64 8))),none⟩,
 ⟨some 8,.p (.idxS (T 5) (T 7)),none⟩,
 ⟨some 9,.p (.mov (T 1)),none⟩,
 ⟨some 10,.p (.bin .rem (T 9) (C (.int .i64 8))),none⟩,
 ⟨some 11,.p (.bin .sub (C (.int .i64 7)) (T 10)),none⟩,
 ⟨some 12,.p (.bin .shr (T 8) (T 11)),none⟩,
 ⟨some 13,.p (.cint .i64 (T 12)),none⟩,
 ⟨some 14,.p (.bin .and (T 13) (C (.int .i64 1))),none⟩,
 ⟨some 4,.p (.mov (T 14)),none⟩]
def zP9:List XO:=zQA
theorem xq190_1e:E3 zP9 zQA:=E3.rfl
def xq190:XF:=⟨2,[.tmp 4],
 .seq (.ops zP7) (.seq (.ops zP9) (.ret))⟩
def yq190:=PLift.up (And.intro (@xq190_0e) (@xq190_1e))
theorem cq190:zX Tryz.prog Tryz.f190=some xq190:=by kernel_rfl
abbrev zPT:List XO:=[
 ⟨some 2,.p (.mov (C (.string (strOf [])))),none⟩]
def zPS:List XO:=zPT
theorem xq158_0e:E3 zPS zPT:=E3.rfl
abbrev zPV:List XO:=[
 ⟨some 3,.p (.mov (T 0)),none⟩,
 ⟨some 4,.a (.bslice [(.string (strOf []))] 1 [(0,1,(T 3))]),none⟩,
 ⟨some 5,.call (.func 160) [(C (.int .u8 80)),(T 4)],none⟩,
 ⟨some 2,.p (.mov (T 5)),none⟩]
def zPU:List XO:=zPV
theorem xq158_1e:E3 zPU zPV:=E3.rfl
def xq158:XF:=⟨1,[.tmp 2],
 .seq (.ops zPS) (.seq (.ops zPU) (.ret))⟩
def yq158:=PLift.up (And.intro (@xq158_0e) (@xq158_1e))
theorem cq158:zX Tryz.prog Tryz.f158=some xq158:=by kernel_rfl
abbrev zPX:List XO:=[
 ⟨some 2,.p (.mov (C (.string (strOf [])))),none⟩]
def zPW:List XO:=zPX
theorem xq159_0e:E3 zPW zPX:=E3.rfl
abbrev zPZ:List XO:=[
 ⟨some 3,.p (.mov (T 0)),none⟩,
 ⟨some 4,.a (.bslice [(.string (strOf []))] 1 [(0,1,(T 3))]),none⟩,
 ⟨some 5,.call (.func 160) [(C (.int .u8 86)),(T 4)],none⟩,
 ⟨some 2,.p (.mov (T 5)),none⟩]
def zPY:List XO:=zPZ
theorem xq159_1e:E3 zPY zPZ:=E3.rfl
def xq159:XF:=⟨1,[.tmp 2],
 .seq (.ops zPW) (.seq (.ops zPY) (.ret))⟩
def yq159:=PLift.up (And.intro (@xq159_0e) (@xq159_1e))
theorem cq159:zX Tryz.prog Tryz.f159=some xq159:=by kernel_rfl
abbrev zRz:List XO:=[
 ⟨some 1,.a (.box (T 0)),none⟩,
 ⟨some 2,.p (.mov (C (.string (strOf [])))),none⟩]
def zRy:List XO:=zRz
theorem xq210_0e:E3 zRy zRz:=E3.rfl
abbrev zR1:List XO:=[
 ⟨some 3,.p (.faddr 0 (T 1)),none⟩,
 ⟨some 4,.r (.load1 (T 3)),none⟩,
 ⟨some 5,.p (.faddr 1 (T 1)),none⟩,
 ⟨some 6,.r (.load1 (T 5)),none⟩,
 ⟨some 7,.a (.bslice [(.string (strOf [])),(.string (strOf []))] 2 [(0,1,(T 4)),(1,1,(T 6))]),none⟩,
 ⟨some 8,.call (.func 160) [(C (.int .u8 76)),(T 7)],none⟩,
 ⟨some 2,.p (.mov (T 8)),none⟩]
def zR0:List XO:=zR1
theorem xq210_1e:E3 zR0 zR1:=E3.rfl
def xq210:XF:=⟨1,[.tmp 2],
 .seq (.ops zRy) (.seq (.ops zR0) (.ret))⟩
def yq210:=PLift.up (And.intro (@xq210_0e) (@xq210_1e))
theorem cq210:zX Tryz.prog Tryz.f210=some xq210:=by kernel_rfl
abbrev zR3:List XO:=[
 ⟨some 4,.p (.mov (C (.string (strOf [])))),none⟩]
def zR2:List XO:=zR3
theorem xq211_0e:E3 zR2 zR3:=E3.rfl
abbrev zR5:List XO:=[
 ⟨some 5,.p (.mov (T 0)),none⟩,
 ⟨some 6,.p (.mov (T 1)),none⟩,
 ⟨some 7,.a (.bslice [(.string (strOf [])),(.string (strOf []))] 2 [(0,1,(T 5)),(1,1,(T 6))]),none⟩,
 ⟨some 8,.call (.func 160) [(C (.int .u8 74)),(T 7)],none⟩,
 ⟨some 4,.p (.mov (T 8)),none⟩]
def zR4:List XO:=zR5
theorem xq211_1e:E3 zR4 zR5:=E3.rfl
def xq211:XF:=⟨2,[.tmp 4],
 .seq (.ops zR2) (.seq (.ops zR4) (.ret))⟩
def yq211:=PLift.up (And.intro (@xq211_0e) (@xq211_1e))
theorem cq211:zX Tryz.prog Tryz.f211=some xq211:=by kernel_rfl
abbrev zM5:List XO:=[
 ⟨some 0,.p (.mov (C (.string (strOf [])))),none⟩]
def zM4:List XO:=zM5
theorem xq130_0e:E3 zM4 zM5:=E3.rfl
abbrev zM7:List XO:=[
 ⟨some 1,.a (.mkslice [(.int .u8 0)] 1 (C (.int .i64 32)) (C (.int .i64 32))),none⟩,
 ⟨some 2,.r (.cb2s (T 1)),none⟩,
 ⟨some 0,.p (.mov (T 2)),none⟩]
def zM6:List XO:=zM7
theorem xq130_1e:E3 zM6 zM7:=E3.rfl
def xq130:XF:=⟨0,[.tmp 0],
 .seq (.ops zM4) (.seq (.ops zM6) (.ret))⟩
def yq130:=PLift.up (And.intro (@xq130_0e) (@xq130_1e))
theorem cq130:zX Tryz.prog Tryz.f130=some xq130:=by kernel_rfl
abbrev xq6_0l:List XO:=[
 ⟨some 2,.p (.mov (C (.bool false))),none⟩]
def xq6_0:List XO:=xq6_0l
theorem xq6_0e:E3 xq6_0 xq6_0l:=E3.rfl
abbrev xq6_1l:List XO:=[
 ⟨some 6,.p (.mov (T 0)),none⟩,
 ⟨some 7,.call (.func 32) [(T 6)],none⟩,
 ⟨some 5,.p (.mov (T 7)),none⟩,
 ⟨some 8,.p (.ext (T 5) 0),none⟩,
 ⟨some 9,.p (.ext (T 5) 1),none⟩,
 ⟨some 3,.p (.mov (T 8)),none⟩,
 ⟨some 4,.p (.mov (T 9)),none⟩]
def xq6_1:List XO:=xq6_1l
theorem xq6_1e:E3 xq6_1 xq6_1l:=E3.rfl
abbrev xq6_2l:List XO:=[
 ⟨some 10,.call (.func 22) [],none⟩,
 ⟨some 11,.p (.un .not (T 10)),none⟩]
def xq6_2:List XO:=xq6_2l
theorem xq6_2e:E3 xq6_2 xq6_2l:=E3.rfl
abbrev xq6_3l:List XO:=[
 ⟨some 2,.p (.mov (C (.bool false))),none⟩]
def xq6_3:List XO:=xq6_3l
theorem xq6_3e:E3 xq6_3 xq6_3l:=E3.rfl
abbrev xq6_4l:List XO:=[
 ⟨some 12,.p (.mov (T 4)),none⟩,
 ⟨some 13,.p (.eql true .int (T 12) (C (.int .i64 0))),none⟩]
def xq6_4:List XO:=xq6_4l
theorem xq6_4e:E3 xq6_4 xq6_4l:=E3.rfl
abbrev xq6_5l:List XO:=[
 ⟨some 14,.p (.mov (T 3)),none⟩,
 ⟨some 15,.p (.eql false .nptr (T 14) (C (.pointer none))),none⟩,
 ⟨some 2,.p (.mov (T 15)),none⟩]
def xq6_5:List XO:=xq6_5l
theorem xq6_5e:E3 xq6_5 xq6_5l:=E3.rfl
abbrev xq6_6l:List XO:=[
 ⟨some 16,.p (.mov (T 3)),none⟩,
 ⟨some 17,.call (.func 25) [(T 16)],none⟩,
 ⟨some 18,.p (.mov (T 0)),none⟩,
 ⟨some 19,.p (.eql false .str (T 17) (T 18)),none⟩,
 ⟨some 20,.p (.mov (T 19)),none⟩,
 ⟨some 21,.p (.mov (T 3)),some (20,true)⟩,
 ⟨some 22,.call (.func 29) [(T 21)],some (20,true)⟩,
 ⟨some 23,.p (.mov (T 3)),some (20,true)⟩,
 ⟨some 24,.call (.func 33) [(T 23)],some (20,true)⟩,
 ⟨some 25,.p (.field1 0 (T 24)),some (20,true)⟩,
 ⟨some 26,.p (.eql false .int (T 22) (T 25)),some (20,true)⟩,
 ⟨some 27,.p (.pick (T 20) (T 26) (C (.bool false))),none⟩,
 ⟨some 2,.p (.mov (T 27)),none⟩]
def xq6_6:List XO:=xq6_6l
theorem xq6_6e:E3 xq6_6 xq6_6l:=E3.rfl
def xq6:XF:=⟨1,[.tmp 2],
 .seq (.ops xq6_0) (.seq (.ops xq6_1) (.seq (.seq (.ops xq6_2) (.cond (T 11) (.seq (.ops xq6_3) (.ret)) (.skip))) (.seq (.seq (.ops xq6_4) (.cond (T 13) (.seq (.ops xq6_5) (.ret)) (.skip))) (.seq (.ops xq6_6) (.ret)))))⟩
def yq6:=PLift.up (And.intro (And.intro (@xq6_0e) (And.intro (@xq6_1e) (@xq6_2e))) (And.intro (And.intro (@xq6_3e) (@xq6_4e)) (And.intro (@xq6_5e) (@xq6_6e))))
theorem cq6:zX Tryz.prog Tryz.f6=some xq6:=by kernel_rfl
end Go.X
end
section
open Go Go.X
namespace Go.X
set_option linter.unusedVariables false
def zGB (h:Heap) (a:Addr):Option (List (List UInt8)):=match h.load a with|some v=>zBU h v|none=>none
theorem zFh {z w:Value} {a b:ByteArray}:zt [z,w] [(0,1,.string a),(1,1,.string b)]=some [.string a,.string b]:=by simp[zt,zHA,putN]
theorem zMP {h:Heap} {a b:List UInt8}:zBU (h.new [.string (strOf a),.string (strOf b)]) (.slice (some ⟨h.next,0,none⟩) 2 2)=some [a,b] :=
 (Own.newSlice (h:=h) (l:=zBK [a,b]) (n:=2) (esz:=1) (sp:=none) rfl (.inl rfl)).strs
def Ring (h:Heap) (R N:Nat) (l:List (List UInt8)):Prop:=∃w,Var h R [w]∧Own h (fun A=>N≤A∧A≠R) 1 w l.length (zBK l)
theorem Ring.at {h:Heap} {R N:Nat} {l:List (List UInt8)} (hr:Ring h R N l) {sp:Option Nat}:zGB h ⟨R,0,sp⟩=some l:=by
 obtain⟨w,hv,ho⟩:=hr
 have:=hv.load (i:=0) (sp:=sp)
 simp only[zGB,this,List.getElem?_cons_zero,ho.strs]
theorem Ring.grow {h h':Heap} {R N:Nat} {l:List (List UInt8)} (hr:Ring h R N l) (hg:Grows h h'):Ring h' R N l:=by
 obtain⟨w,hv,ho⟩:=hr
 exact⟨w,hv.grow hg,ho.grow hg⟩
def RdRing (h:Heap) (a:Addr) (l:List (List UInt8)):Prop:=∀h',Grows h h'→zGB h' a=some l
theorem RdRing.grow {h h':Heap} {a:Addr} {l:List (List UInt8)} (hr:RdRing h a l) (g:Grows h h'):RdRing h' a l:=fun h2 g2=>hr h2 (g.trans g2)
theorem RdRing.now {h:Heap} {a:Addr} {l:List (List UInt8)} (hr:RdRing h a l):zGB h a=some l:=hr h (Grows.refl h)
end Go.X
end
section
open Go Go.X Go.Proofs Go.RowKit
namespace Go.X
set_option linter.unusedVariables false
def bitP (p:List UInt8) (i:Nat):Nat:=(p.getD (i / 8) 0).toNat / 2 ^ (7 - i % 8) % 2
theorem zCC (p:List UInt8) (i:Nat):bitP p i<2:=Nat.mod_lt _ (by decide)
theorem zGI {o:Option Value} {v:Value} (h:(match o with|some x=>zf x v|none=>false)=true):o=some v:=by
 cases o with
 | none=>cases h
 | some x=>exact congrArg some (zEw h)
theorem quo8 (i:Nat) (hi:i<256):binX .quo (.int .i64 (i:Int)) (.int .i64 8)=some (.int .i64 ((i / 8:Nat):Int)) :=
 zGI ((by decide +kernel:∀i:Fin 256,(match binX .quo (.int .i64 ((i.val:Nat):Int)) (.int .i64 8) with|some x=>zf x (.int .i64 ((i.val / 8:Nat):Int))|none=>false)=true) ⟨i,hi⟩)
theorem rem8 (i:Nat) (hi:i<256):binX .rem (.int .i64 (i:Int)) (.int .i64 8)=some (.int .i64 ((i % 8:Nat):Int)) :=
 zGI ((by decide +kernel:∀i:Fin 256,(match binX .rem (.int .i64 ((i.val:Nat):Int)) (.int .i64 8) with|some x=>zf x (.int .i64 ((i.val % 8:Nat):Int))|none=>false)=true) ⟨i,hi⟩)
theorem and1 (i:Nat) (hi:i<256):binX .and (.int .i64 (i:Int)) (.int .i64 1)=some (.int .i64 ((i % 2:Nat):Int)) :=
 zGI ((by decide +kernel:∀i:Fin 256,(match binX .and (.int .i64 ((i.val:Nat):Int)) (.int .i64 1) with|some x=>zf x (.int .i64 ((i.val % 2:Nat):Int))|none=>false)=true) ⟨i,hi⟩)
theorem bit_ok (pr:Prog) (p:List UInt8) (i:Nat) (hp:p.length=32) (hi:i<256) (h:Heap):Comes pr xq190 [.string (strOf p),.int .i64 (i:Int)] h (.int .i64 (bitP p i:Int)):=by
 apply Comes.of
 unfold xq190
 dsimp only[zW]
 have e1:=quo8 i hi
 have e2:zEX (.string (strOf p)) (.int .i64 ((i / 8:Nat):Int))=some (uw .u8 (p.getD (i / 8) 0).toNat):=zHd (by omega)
 have e3:=rem8 i hi
 have e4:IntKind.i64.wrap (7 - ((i % 8:Nat):Int))=((7 - i % 8:Nat):Int):=by rw[IntKind.wrap_i64];omega
 have e5:∀x:Nat,x<256→binX .shr (uw .u8 x) (.int .i64 ((7 - i % 8:Nat):Int))=some (uw .u8 (x / 2 ^ (7 - i % 8))):=fun x hx=>by rw[shrV_u8 (by omega),Nat.mod_eq_of_lt hx,Nat.shiftRight_eq_div_pow]
 generalize hx:(p.getD (i / 8) 0).toNat=x at e2
 have hx2:x<256:=by rw[←hx];exact (p.getD (i / 8) 0).toNat_lt
 have e5:=e5 x hx2
 generalize hy:x / 2 ^ (7 - i % 8)=y at e5
 have hy2:y<256:=by rw[←hy];exact Nat.lt_of_le_of_lt (Nat.div_le_self _ _) hx2
 have e6:zAi .i64 (uw .u8 y)=some (.int .i64 (y:Int)):=zGI ((by decide +kernel:∀i:Fin 256,(match zAi .i64 (uw .u8 i.val) with|some x=>zf x (.int .i64 (i.val:Int))|none=>false)=true) ⟨y,hy2⟩)
 have e7:=and1 y hy2
 have e8:bitP p i=y % 2:=by unfold bitP;rw[hx,hy]
 (repeat (first|refine zP ?_|refine zL ?_|refine zO ?_|refine zC ?_|refine zB ?_|refine zJ ?_|refine zK ?_|refine zM ?_|refine zF ?_|refine zH ?_|refine zG ?_|refine zI (by decide) ?_|refine zN ?_|((first|refine zE ?_|refine zQ ?_|refine zS rfl rfl ?_|refine zR rfl ?_|refine zD ?_);simp only[yq190.down,zA,lemS.down,lemC.down,zap,zao,zam,reduceIte,zan,zaq,zar,zas,zat,zau,zav,zaw,zax,reduceCtorEq,lemH.down,p_idxS,e1,e2,e3,e4,e5,e6,e7])))
 exact⟨.inr rfl,by simp only[yq190.down,zA,lemS.down,lemC.down,zap,zao,zam,reduceIte,zan,zaq,zar,zas,zat,zau,zav,zaw,zax,reduceCtorEq,e8],Grows.refl h⟩
theorem zXQ {x y:UInt8} (h:∀j,j<8→x.toNat / 2 ^ (7 - j) % 2=y.toNat / 2 ^ (7 - j) % 2):x=y:=by
 apply UInt8.toNat_inj.1
 have hx:=x.toNat_lt
 have hy:=y.toNat_lt
 have h0:=h 0 (by decide);have h1:=h 1 (by decide);have h2:=h 2 (by decide);have h3:=h 3 (by decide)
 have h4:=h 4 (by decide);have h5:=h 5 (by decide);have h6:=h 6 (by decide);have h7:=h 7 (by decide)
 simp only[Nat.sub_zero,Nat.reduceSub,Nat.reducePow,Nat.pow_zero,Nat.div_one] at h0 h1 h2 h3 h4 h5 h6 h7
 omega
theorem zY2 {p q:List UInt8} (hp:p.length=32) (hq:q.length=32) (h:∀i,i<256→bitP p i=bitP q i):p=q:=by
 apply List.ext_getElem (by omega)
 intro k h1 h2
 have:p.getD k 0=q.getD k 0:=zXQ fun j hj=>by
  have:=h (8*k+j) (by omega)
  unfold bitP at this
  rwa [show (8*k+j) / 8=k by omega,show (8*k+j) % 8=j by omega] at this
 rwa [List.getD_eq_getElem?_getD,List.getD_eq_getElem?_getD,List.getElem?_eq_getElem h1,List.getElem?_eq_getElem h2] at this
end Go.X
end
section
open Go Go.X Go.Proofs Go.RowKit
namespace Go.X
set_option linter.unusedVariables false
def bitS:List Value→Option Value
 | [.string s,.int .i64 i]=>if s.data.toList.length=32∧0≤i∧i<256 then some (.int .i64 (bitP s.data.toList i.toNat:Int)) else none
 | _=>none
theorem bitS_at {p:List UInt8} {i:Nat} (hp:p.length=32) (hi:i<256):bitS [.string (strOf p),.int .i64 (i:Int)]=some (.int .i64 (bitP p i:Int)):=by
 simp only[bitS,zAk,Int.toNat_natCast]
 rw[if_pos ⟨hp,by omega,by omega⟩]
structure STab (pr:Prog):Prop where
 tagged:pr.prim 160=some zB7
 bit:pr.prim 190=some (za bitS)
 lh:pr.prim 210=none
 lhC:pr.code 210=some xq210
 ln:pr.prim 191=none
 lnC:pr.code 191=some xq191
 jn:pr.prim 211=none
 jnC:pr.code 211=some xq211
 em:pr.prim 130=none
 emC:pr.code 130=some xq130
 ho:pr.prim 131=none
 hoC:pr.code 131=some xq131
 inn:pr.prim 193=none
 innC:pr.code 193=some zEH
 two:pr.prim 192=none
 twoC:pr.code 192=some xq192
 put:pr.prim 157=none
 putC:pr.code 157=some zE3
 pa:pr.prim 158=none
 paC:pr.code 158=some xq158
 va:pr.prim 159=none
 vaC:pr.code 159=some xq159
 get:pr.prim 156=none
 getC:pr.code 156=some xq156
 tput:pr.prim 96=none
 tputC:pr.code 96=some xq96
theorem zFQ {pr:Prog} (T:STab pr) {p:List UInt8} {i:Nat} (hp:p.length=32) (hi:i<256) (h:Heap):cfi pr 190 [.string (strOf p),.int .i64 (i:Int)] h=some (.int .i64 (bitP p i:Int),h):=zBy T.bit (zEq (bitS_at hp hi))
inductive Tr where
 | nil
 | leaf (p q:List UInt8)
 | node (a b:Tr)
def ptr (A:Nat):Value:=.pointer (some ⟨A,0,none⟩)
def IsT (h:Heap) (S:Nat→Prop):Tr→Value→Prop
 | .nil,v=>v=.pointer none
 | .leaf p q,v=>∃A B s,v=ptr A∧S A∧S B∧Var h A [.pointer none,.pointer none,ptr B,.string (strOf s)]∧Var h B [.string (strOf p),.string (strOf q)]∧s.length=32
 | .node a b,v=>∃A x y s,v=ptr A∧S A∧Var h A [x,y,.pointer none,.string (strOf s)]∧IsT h S a x∧IsT h S b y∧s.length=32
theorem IsT.keep {W:Nat→Prop} {h h1:Heap} {S:Nat→Prop} (hk:Keeps W h h1) (hW:∀A,S A→¬W A):∀ {t:Tr} {v:Value},IsT h S t v→IsT h1 S t v
 | .nil,v,e=>e
 | .leaf p q,v,⟨A,B,s,e,hA,hB,vA,vB,hs⟩=>⟨A,B,s,e,hA,hB,vA.keep hk (hW A hA),vB.keep hk (hW B hB),hs⟩
 | .node a b,v,⟨A,x,y,s,e,hA,vA,ha,hb,hs⟩=>⟨A,x,y,s,e,hA,vA.keep hk (hW A hA),ha.keep hk hW,hb.keep hk hW,hs⟩
theorem IsT.grow {h h1:Heap} {S:Nat→Prop} {t:Tr} {v:Value} (ht:IsT h S t v) (hk:Grows h h1):IsT h1 S t v:=IsT.keep (W:=zCq) hk.keeps (fun _ _ e=>e) ht
theorem IsT.mono {h:Heap} {S S':Nat→Prop} (hS:∀A,S A→S' A):∀ {t:Tr} {v:Value},IsT h S t v→IsT h S' t v
 | .nil,v,e=>e
 | .leaf p q,v,⟨A,B,s,e,hA,hB,vA,vB,hs⟩=>⟨A,B,s,e,hS A hA,hS B hB,vA,vB,hs⟩
 | .node a b,v,⟨A,x,y,s,e,hA,vA,ha,hb,hs⟩=>⟨A,x,y,s,e,hS A hA,vA,ha.mono hS,hb.mono hS,hs⟩
theorem IsT.bound {h:Heap} {S:Nat→Prop}:∀ {t:Tr} {v:Value},IsT h S t v→IsT h (fun A=>S A∧A<h.next) t v
 | .nil,v,e=>e
 | .leaf p q,v,⟨A,B,s,e,hA,hB,vA,vB,hs⟩=>⟨A,B,s,e,⟨hA,vA.1⟩,⟨hB,vB.1⟩,vA,vB,hs⟩
 | .node a b,v,⟨A,x,y,s,e,hA,vA,ha,hb,hs⟩=>⟨A,x,y,s,e,⟨hA,vA.1⟩,vA,ha.bound,hb.bound,hs⟩
theorem box2 {h:Heap} (l:List Value):∃g,h.new l=g∧Var g h.next l∧Grows h g∧g.next=h.next+1:=⟨_,rfl,Var.new_self,Grows.new,rfl⟩
def zAK (p q:List UInt8):Value:=.agg #[.string (strOf p),.string (strOf q)]
theorem zXB {pr:Prog} (T:STab pr) {h:Heap} {p q:List UInt8} (hp:p.length≤1000000) (hq:q.length≤1000000) :
  ∃s h',cfi pr 210 [zAK p q] h=some (.string (strOf s),h')∧s.length=32∧Grows h h':=by
 have:∃w h',cfi pr 210 [zAK p q] h=some (w,h')∧∃s,w=.string (strOf s)∧s.length=32∧Grows h h':=by
  refine zj T.lh T.lhC rfl ?_
  unfold xq210 zAK
  dsimp only[zW]
  refine wpk.out (k:=[]) ?_
  obtain⟨g,hg,vg,gg,ng⟩:=box2 (h:=h) [.string (strOf p),.string (strOf q)]
  have l0:∀sp,g.load ⟨h.next,0,sp⟩=some (.string (strOf p)):=fun sp=>vg.load
  have l1:∀sp,g.load ⟨h.next,1,sp⟩=some (.string (strOf q)):=fun sp=>vg.load
  have hr64:zU=140737488355328:=rfl
  have tg:=zBy T.tagged (zE0 (p:=76) (zMP (h:=g) (a:=p) (b:=q)) (by decide) (by simp[zAP,zCu,zAm];omega))
  have fl:zt [.string (strOf []),.string (strOf [])] [(0,1,.string (strOf p)),(1,1,.string (strOf q))]=some [.string (strOf p),.string (strOf q)]:=rfl
  (repeat (first|refine zP ?_|refine zL ?_|refine zO ?_|refine zC ?_|refine zB ?_|refine zJ ?_|refine zK ?_|refine zM ?_|refine zF ?_|refine zH ?_|refine zG ?_|refine zI (by decide) ?_|refine zN ?_|((first|refine zE ?_|refine zQ ?_|refine zS rfl rfl ?_|refine zR rfl ?_|refine zD ?_);simp only[yq210.down,zA,lemS.down,lemC.down,zap,zao,zam,reduceIte,zan,zaq,zar,zas,zat,zau,zav,zaw,zax,reduceCtorEq,lemH.down,hg,l0,l1,fl,tg])))
  exact⟨.inr rfl,_,by simp only[yq210.down,zA,lemS.down,lemC.down,zap,zao,zam,reduceIte,zan,zaq,zar,zas,zat,zau,zav,zaw,zax,reduceCtorEq],tagged (UInt8.ofNat 76) [p,q],rfl,zGP _ _,gg.trans Grows.new⟩
 obtain⟨w,h',e,s,rfl,r⟩:=this
 exact⟨s,h',e,r⟩
theorem zFs {pr:Prog} (T:STab pr) {h:Heap} {p q:List UInt8} (hp:p.length≤1000000) (hq:q.length≤1000000) :
  ∃A h',cfi pr 191 [zAK p q] h=some (ptr A,h')∧IsT h' (fun A=>h.next≤A) (.leaf p q) (ptr A)∧Grows h h':=by
 have:∃w h',cfi pr 191 [zAK p q] h=some (w,h')∧∃A,w=ptr A∧IsT h' (fun A=>h.next≤A) (.leaf p q) (ptr A)∧Grows h h':=by
  refine zj T.ln T.lnC rfl ?_
  unfold xq191 zAK
  dsimp only[zW]
  refine wpk.out (k:=[]) ?_
  obtain⟨g,hg,vg,gg,ng⟩:=box2 (h:=h) [.string (strOf p),.string (strOf q)]
  have l2:∀sp,g.loadN ⟨h.next,0,sp⟩ 2=some [.string (strOf p),.string (strOf q)]:=fun sp=>vg.loadAll rfl
  obtain⟨s,g2,e2,hs,k2⟩:=zXB T (h:=g) hp hq
  unfold zAK at e2
  have fl:zt [.pointer none,.pointer none,.pointer none,.string (strOf [])] [(2,1,.pointer (some ⟨h.next,0,none⟩)),(3,1,.string (strOf s))]=some [.pointer none,.pointer none,.pointer (some ⟨h.next,0,none⟩),.string (strOf s)]:=rfl
  obtain⟨g3,hg3,vg3,gg3,ng3⟩:=box2 (h:=g2) [.pointer none,.pointer none,.pointer (some ⟨h.next,0,none⟩),.string (strOf s)]
  (repeat (first|refine zP ?_|refine zL ?_|refine zO ?_|refine zC ?_|refine zB ?_|refine zJ ?_|refine zK ?_|refine zM ?_|refine zF ?_|refine zH ?_|refine zG ?_|refine zI (by decide) ?_|refine zN ?_|((first|refine zE ?_|refine zQ ?_|refine zS rfl rfl ?_|refine zR rfl ?_|refine zD ?_);simp only[yq191.down,zA,lemS.down,lemC.down,zap,zao,zam,reduceIte,zan,zaq,zar,zas,zat,zau,zav,zaw,zax,reduceCtorEq,lemH.down,hg,l2,e2,fl,zBi,hg3])))
  have n2:=k2.next
  exact⟨.inr rfl,_,by (simp only[yq191.down,zA,lemS.down,lemC.down,zap,zao,zam,reduceIte,zan,zaq,zar,zas,zat,zau,zav,zaw,zax,reduceCtorEq])<;>rfl,g2.next,rfl,⟨_,h.next,s,rfl,by omega,Nat.le_refl _,vg3,(vg.grow k2).grow gg3,hs⟩,(gg.trans k2).trans gg3⟩
 obtain⟨w,h',e,A,rfl,r⟩:=this
 exact⟨A,h',e,r⟩
theorem Join_run {pr:Prog} (T:STab pr) {h:Heap} {p q:List UInt8} (hp:p.length=32) (hq:q.length=32) :
  ∃s h',cfi pr 211 [.string (strOf p),.string (strOf q)] h=some (.string (strOf s),h')∧s.length=32∧Grows h h':=by
 have:∃w h',cfi pr 211 [.string (strOf p),.string (strOf q)] h=some (w,h')∧∃s,w=.string (strOf s)∧s.length=32∧Grows h h':=by
  refine zj T.jn T.jnC rfl ?_
  unfold xq211
  dsimp only[zW]
  refine wpk.out (k:=[]) ?_
  have hr64:zU=140737488355328:=rfl
  have tg:=zBy T.tagged (zE0 (p:=74) (zMP (h:=h) (a:=p) (b:=q)) (by decide) (by simp[zAP,zCu,zAm];omega))
  have fl:zt [.string (strOf []),.string (strOf [])] [(0,1,.string (strOf p)),(1,1,.string (strOf q))]=some [.string (strOf p),.string (strOf q)]:=rfl
  (repeat (first|refine zP ?_|refine zL ?_|refine zO ?_|refine zC ?_|refine zB ?_|refine zJ ?_|refine zK ?_|refine zM ?_|refine zF ?_|refine zH ?_|refine zG ?_|refine zI (by decide) ?_|refine zN ?_|((first|refine zE ?_|refine zQ ?_|refine zS rfl rfl ?_|refine zR rfl ?_|refine zD ?_);simp only[yq211.down,zA,lemS.down,lemC.down,zap,zao,zam,reduceIte,zan,zaq,zar,zas,zat,zau,zav,zaw,zax,reduceCtorEq,lemH.down,fl,tg])))
  exact⟨.inr rfl,_,by simp only[yq211.down,zA,lemS.down,lemC.down,zap,zao,zam,reduceIte,zan,zaq,zar,zas,zat,zau,zav,zaw,zax,reduceCtorEq],tagged (UInt8.ofNat 74) [p,q],rfl,zGP _ _,Grows.new⟩
 obtain⟨w,h',e,s,rfl,r⟩:=this
 exact⟨s,h',e,r⟩
theorem zJX {pr:Prog} (T:STab pr) {h:Heap} {p:List UInt8} (hp:p.length+2000≤zU) :
  ∃s h',cfi pr 158 [.string (strOf p)] h=some (.string (strOf s),h')∧s.length=32∧Grows h h':=by
 have:∃w h',cfi pr 158 [.string (strOf p)] h=some (w,h')∧∃s,w=.string (strOf s)∧s.length=32∧Grows h h':=by
  refine zj T.pa T.paC rfl ?_
  unfold xq158
  dsimp only[zW]
  refine wpk.out (k:=[]) ?_
  have hr64:zU=140737488355328:=rfl
  have tg:=zBy T.tagged (zE0 (p:=80) (zH4 (h:=h) (a:=p)) (by decide) (by simp[zAP,zCu,zAm];omega))
  (repeat (first|refine zP ?_|refine zL ?_|refine zO ?_|refine zC ?_|refine zB ?_|refine zJ ?_|refine zK ?_|refine zM ?_|refine zF ?_|refine zH ?_|refine zG ?_|refine zI (by decide) ?_|refine zN ?_|((first|refine zE ?_|refine zQ ?_|refine zS rfl rfl ?_|refine zR rfl ?_|refine zD ?_);simp only[yq158.down,zA,lemS.down,lemC.down,zap,zao,zam,reduceIte,zan,zaq,zar,zas,zat,zau,zav,zaw,zax,reduceCtorEq,lemH.down,zHT,tg])))
  exact⟨.inr rfl,_,by simp only[yq158.down,zA,lemS.down,lemC.down,zap,zao,zam,reduceIte,zan,zaq,zar,zas,zat,zau,zav,zaw,zax,reduceCtorEq],tagged (UInt8.ofNat 80) [p],rfl,zGP _ _,Grows.new⟩
 obtain⟨w,h',e,s,rfl,r⟩:=this
 exact⟨s,h',e,r⟩
theorem zXE {pr:Prog} (T:STab pr) {h:Heap} {p:List UInt8} (hp:p.length+2000≤zU) :
  ∃s h',cfi pr 159 [.string (strOf p)] h=some (.string (strOf s),h')∧s.length=32∧Grows h h':=by
 have:∃w h',cfi pr 159 [.string (strOf p)] h=some (w,h')∧∃s,w=.string (strOf s)∧s.length=32∧Grows h h':=by
  refine zj T.va T.vaC rfl ?_
  unfold xq159
  dsimp only[zW]
  refine wpk.out (k:=[]) ?_
  have hr64:zU=140737488355328:=rfl
  have tg:=zBy T.tagged (zE0 (p:=86) (zH4 (h:=h) (a:=p)) (by decide) (by simp[zAP,zCu,zAm];omega))
  (repeat (first|refine zP ?_|refine zL ?_|refine zO ?_|refine zC ?_|refine zB ?_|refine zJ ?_|refine zK ?_|refine zM ?_|refine zF ?_|refine zH ?_|refine zG ?_|refine zI (by decide) ?_|refine zN ?_|((first|refine zE ?_|refine zQ ?_|refine zS rfl rfl ?_|refine zR rfl ?_|refine zD ?_);simp only[yq159.down,zA,lemS.down,lemC.down,zap,zao,zam,reduceIte,zan,zaq,zar,zas,zat,zau,zav,zaw,zax,reduceCtorEq,lemH.down,zHT,tg])))
  exact⟨.inr rfl,_,by simp only[yq159.down,zA,lemS.down,lemC.down,zap,zao,zam,reduceIte,zan,zaq,zar,zas,zat,zau,zav,zaw,zax,reduceCtorEq],tagged (UInt8.ofNat 86) [p],rfl,zGP _ _,Grows.new⟩
 obtain⟨w,h',e,s,rfl,r⟩:=this
 exact⟨s,h',e,r⟩
theorem zW8 {pr:Prog} (T:STab pr) {h:Heap}:∃s h',cfi pr 130 [] h=some (.string (strOf s),h')∧s.length=32∧Grows h h':=by
 have:∃w h',cfi pr 130 [] h=some (w,h')∧∃s,w=.string (strOf s)∧s.length=32∧Grows h h':=by
  refine zj T.em T.emC rfl ?_
  unfold xq130
  dsimp only[zW]
  refine wpk.out (k:=[]) ?_
  have mk:zD0 [.int .u8 0] 1 (.int .i64 32) (.int .i64 32)=some (.cells (zV (List.replicate 32 0)),.slice 32 32 none):=by
   simp only[zD0]
   rw[if_pos (by decide)]
   rfl
  have hV:Var (h.new (zV (List.replicate 32 0))) h.next (zV (List.replicate 32 0)):=Var.new_self
  (repeat (first|refine zP ?_|refine zL ?_|refine zO ?_|refine zC ?_|refine zB ?_|refine zJ ?_|refine zK ?_|refine zM ?_|refine zF ?_|refine zH ?_|refine zG ?_|refine zI (by decide) ?_|refine zN ?_|((first|refine zE ?_|refine zQ ?_|refine zS rfl rfl ?_|refine zR rfl ?_|refine zD ?_);simp only[yq130.down,zA,lemS.down,lemC.down,zap,zao,zam,reduceIte,zan,zaq,zar,zas,zat,zau,zav,zaw,zax,reduceCtorEq,lemH.down,zJk,mk,hV.cb2s (List.length_replicate ..)])))
  exact⟨.inr rfl,_,by simp only[yq130.down,zA,lemS.down,lemC.down,zap,zao,zam,reduceIte,zan,zaq,zar,zas,zat,zau,zav,zaw,zax,reduceCtorEq],List.replicate 32 0,rfl,List.length_replicate ..,Grows.new⟩
 obtain⟨w,h',e,s,rfl,r⟩:=this
 exact⟨s,h',e,r⟩
theorem IsT.shape {h:Heap} {S:Nat→Prop}:∀ {t:Tr} {v:Value},IsT h S t v→∃a,v=.pointer a
 | .nil,v,e=>⟨_,e⟩
 | .leaf _ _,v,⟨A,_,_,e,_⟩=>⟨_,e⟩
 | .node _ _,v,⟨A,_,_,_,e,_⟩=>⟨_,e⟩
theorem zBN:eqX .nptr (.pointer none) (.pointer none)=some true:=rfl
theorem zAH {a:Addr}:eqX .nptr (.pointer (some a)) (.pointer none)=some false:=rfl
theorem zKi {pr:Prog} (T:STab pr) {h:Heap} {S:Nat→Prop} {t:Tr} {v:Value} (ht:IsT h S t v) :
  ∃s h',cfi pr 131 [v] h=some (.string (strOf s),h')∧s.length=32∧Grows h h':=by
 have:∃w h',cfi pr 131 [v] h=some (w,h')∧∃s,w=.string (strOf s)∧s.length=32∧Grows h h':=by
  refine zj T.ho T.hoC rfl ?_
  unfold xq131
  dsimp only[zW]
  refine wpk.out (k:=[]) ?_
  cases t with
  | nil =>
   obtain rfl:v=.pointer none:=ht
   obtain⟨s,g,e,hs,k⟩:=zW8 T (h:=h)
   (repeat (first|refine zP ?_|refine zL ?_|refine zO ?_|refine zC ?_|refine zB ?_|refine zJ ?_|refine zK ?_|refine zM ?_|refine zF ?_|refine zH ?_|refine zG ?_|refine zI (by decide) ?_|refine zN ?_|((first|refine zE ?_|refine zQ ?_|refine zS rfl rfl ?_|refine zR rfl ?_|refine zD ?_);simp only[yq131.down,zA,lemS.down,lemC.down,zap,zao,zam,reduceIte,zan,zaq,zar,zas,zat,zau,zav,zaw,zax,reduceCtorEq,lemH.down,zBN,e])))
   exact⟨.inr rfl,_,by simp only[yq131.down,zA,lemS.down,lemC.down,zap,zao,zam,reduceIte,zan,zaq,zar,zas,zat,zau,zav,zaw,zax,reduceCtorEq],_,rfl,hs,k⟩
  | leaf p q =>
   obtain⟨A,B,s,rfl,hA,hB,vA,vB,hs⟩:=ht
   have l3:∀sp,h.load ⟨A,3,sp⟩=some (.string (strOf s)):=fun sp=>vA.load
   unfold ptr
   (repeat (first|refine zP ?_|refine zL ?_|refine zO ?_|refine zC ?_|refine zB ?_|refine zJ ?_|refine zK ?_|refine zM ?_|refine zF ?_|refine zH ?_|refine zG ?_|refine zI (by decide) ?_|refine zN ?_|((first|refine zE ?_|refine zQ ?_|refine zS rfl rfl ?_|refine zR rfl ?_|refine zD ?_);simp only[yq131.down,zA,lemS.down,lemC.down,zap,zao,zam,reduceIte,zan,zaq,zar,zas,zat,zau,zav,zaw,zax,reduceCtorEq,lemH.down,zAH,l3])))
   exact⟨.inr rfl,_,by simp only[yq131.down,zA,lemS.down,lemC.down,zap,zao,zam,reduceIte,zan,zaq,zar,zas,zat,zau,zav,zaw,zax,reduceCtorEq],_,rfl,hs,Grows.refl h⟩
  | node a b =>
   obtain⟨A,x,y,s,rfl,hA,vA,ha,hb,hs⟩:=ht
   have l3:∀sp,h.load ⟨A,3,sp⟩=some (.string (strOf s)):=fun sp=>vA.load
   unfold ptr
   (repeat (first|refine zP ?_|refine zL ?_|refine zO ?_|refine zC ?_|refine zB ?_|refine zJ ?_|refine zK ?_|refine zM ?_|refine zF ?_|refine zH ?_|refine zG ?_|refine zI (by decide) ?_|refine zN ?_|((first|refine zE ?_|refine zQ ?_|refine zS rfl rfl ?_|refine zR rfl ?_|refine zD ?_);simp only[yq131.down,zA,lemS.down,lemC.down,zap,zao,zam,reduceIte,zan,zaq,zar,zas,zat,zau,zav,zaw,zax,reduceCtorEq,lemH.down,zAH,l3])))
   exact⟨.inr rfl,_,by simp only[yq131.down,zA,lemS.down,lemC.down,zap,zao,zam,reduceIte,zan,zaq,zar,zas,zat,zau,zav,zaw,zax,reduceCtorEq],_,rfl,hs,Grows.refl h⟩
 obtain⟨w,h',e,s,rfl,r⟩:=this
 exact⟨s,h',e,r⟩
end Go.X
end
section
open Go Go.X Go.Proofs Go.RowKit
namespace Go.X
set_option linter.unusedVariables false
def zCj:Tr→Tr→Tr
 | .nil,.nil=>.nil
 | .nil,.leaf p q=>.leaf p q
 | .leaf p q,.nil=>.leaf p q
 | a,b=>.node a b
theorem zKl {pr:Prog} (T:STab pr) {h:Heap} {S:Nat→Prop} (hlo:∀A,h.next≤A→S A) {a b:Tr} {x y:Value} (ha:IsT h S a x) (hb:IsT h S b y) :
  ∃v h',cfi pr 193 [x,y] h=some (v,h')∧IsT h' S (zCj a b) v∧Grows h h':=by
 have hard:∀ (fx fy:Bool),(∃v,x=.pointer v∧eqX .nptr (.pointer v) (.pointer none)=some fx)→(∃v,y=.pointer v∧eqX .nptr (.pointer v) (.pointer none)=some fy)→zCj a b=.node a b →
   (fx=true→fy=false∧∃A s0 k0 k1,y=ptr A∧Var h A [k0,k1,.pointer none,s0])→(fy=true→fx=false∧∃A s0 k0 k1,x=ptr A∧Var h A [k0,k1,.pointer none,s0]) →
   ∃v h',cfi pr 193 [x,y] h=some (v,h')∧IsT h' S (zCj a b) v∧Grows h h':=by
  rintro fx fy ⟨vx,rfl,ex⟩ ⟨vy,rfl,ey⟩ hn gx gy
  refine zj T.inn T.innC rfl ?_
  unfold zEH
  dsimp only[zW]
  refine wpk.out (k:=[]) ?_
  obtain⟨s1,g1,e1,hs1,k1⟩:=zKi T ha
  obtain⟨s2,g2,e2,hs2,k2⟩:=zKi T (hb.grow k1)
  obtain⟨s3,g3,e3,hs3,k3⟩:=Join_run T (h:=g2) hs1 hs2
  have fl:zt [.pointer none,.pointer none] [(0,1,.pointer vx),(1,1,.pointer vy)]=some [.pointer vx,.pointer vy]:=rfl
  have fl2:zt [.pointer none,.pointer none,.pointer none,.string (strOf [])] [(0,2,.agg [.pointer vx,.pointer vy].toArray),(3,1,.string (strOf s3))]=some [.pointer vx,.pointer vy,.pointer none,.string (strOf s3)]:=rfl
  obtain⟨g4,hg4,vg4,gg4,ng4⟩:=box2 (h:=g3) [.pointer vx,.pointer vy,.pointer none,.string (strOf s3)]
  have fin:IsT g4 S (zCj a b) (ptr g3.next):=by
   rw[hn]
   have n1:=k1.next
   have n2:=k2.next
   have n3:=k3.next
   have kk:=((k1.trans k2).trans k3).trans gg4
   exact⟨g3.next,_,_,s3,rfl,hlo _ (by omega),vg4,ha.grow kk,hb.grow kk,hs3⟩
  have kk:=((k1.trans k2).trans k3).trans gg4
  have done:∀t:Fr,t.get 4=ptr g3.next→∃v,t.get 4=v∧IsT g4 S (zCj a b) v∧Grows h g4:=fun t ht=>⟨_,rfl,by rw[ht];exact fin,kk⟩
  cases fx<;>cases fy
  ·(repeat (first|refine zP ?_|refine zL ?_|refine zO ?_|refine zC ?_|refine zB ?_|refine zJ ?_|refine zK ?_|refine zM ?_|refine zF ?_|refine zH ?_|refine zG ?_|refine zI (by decide) ?_|refine zN ?_|((first|refine zE ?_|refine zQ ?_|refine zS rfl rfl ?_|refine zR rfl ?_|refine zD ?_);simp only[yq193.down,zA,lemS.down,lemC.down,zap,zao,zam,reduceIte,zan,zaq,zar,zas,zat,zau,zav,zaw,zax,reduceCtorEq,lemH.down,ex,ey,zo,zAX,zAU,zAW,zAV,fl,e1,e2,e3,fl2,zBi,hg4])))
   exact⟨.inr rfl,by (simp only[yq193.down,zA,lemS.down,lemC.down,zap,zao,zam,reduceIte,zan,zaq,zar,zas,zat,zau,zav,zaw,zax,reduceCtorEq])<;>exact⟨_,rfl,fin,kk⟩⟩
  ·obtain⟨_,A,s0,k0',k1',hx,vA⟩:=gy rfl
   obtain rfl:=Value.pointer.inj hx
   have l2:∀sp,h.load ⟨A,2,sp⟩=some (.pointer none):=fun sp=>vA.load
   (repeat (first|refine zP ?_|refine zL ?_|refine zO ?_|refine zC ?_|refine zB ?_|refine zJ ?_|refine zK ?_|refine zM ?_|refine zF ?_|refine zH ?_|refine zG ?_|refine zI (by decide) ?_|refine zN ?_|((first|refine zE ?_|refine zQ ?_|refine zS rfl rfl ?_|refine zR rfl ?_|refine zD ?_);simp only[yq193.down,zA,lemS.down,lemC.down,zap,zao,zam,reduceIte,zan,zaq,zar,zas,zat,zau,zav,zaw,zax,reduceCtorEq,lemH.down,ex,ey,zBN,l2,zo,zAX,zAU,zAW,zAV,fl,e1,e2,e3,fl2,zBi,hg4])))
   exact⟨.inr rfl,by (simp only[yq193.down,zA,lemS.down,lemC.down,zap,zao,zam,reduceIte,zan,zaq,zar,zas,zat,zau,zav,zaw,zax,reduceCtorEq])<;>exact⟨_,rfl,fin,kk⟩⟩
  ·obtain⟨_,A,s0,k0',k1',hx,vA⟩:=gx rfl
   obtain rfl:=Value.pointer.inj hx
   have l2:∀sp,h.load ⟨A,2,sp⟩=some (.pointer none):=fun sp=>vA.load
   (repeat (first|refine zP ?_|refine zL ?_|refine zO ?_|refine zC ?_|refine zB ?_|refine zJ ?_|refine zK ?_|refine zM ?_|refine zF ?_|refine zH ?_|refine zG ?_|refine zI (by decide) ?_|refine zN ?_|((first|refine zE ?_|refine zQ ?_|refine zS rfl rfl ?_|refine zR rfl ?_|refine zD ?_);simp only[yq193.down,zA,lemS.down,lemC.down,zap,zao,zam,reduceIte,zan,zaq,zar,zas,zat,zau,zav,zaw,zax,reduceCtorEq,lemH.down,ex,ey,zBN,l2,zo,zAX,zAU,zAW,zAV,fl,e1,e2,e3,fl2,zBi,hg4])))
   exact⟨.inr rfl,by (simp only[yq193.down,zA,lemS.down,lemC.down,zap,zao,zam,reduceIte,zan,zaq,zar,zas,zat,zau,zav,zaw,zax,reduceCtorEq])<;>exact⟨_,rfl,fin,kk⟩⟩
  ·exact absurd (gx rfl).1 (by decide)
 cases a with
 | nil =>
  obtain rfl:x=.pointer none:=ha
  cases b with
  | nil =>
   obtain rfl:y=.pointer none:=hb
   refine zj T.inn T.innC rfl ?_
   unfold zEH
   dsimp only[zW]
   refine wpk.out (k:=[]) ?_
   (repeat (first|refine zP ?_|refine zL ?_|refine zO ?_|refine zC ?_|refine zB ?_|refine zJ ?_|refine zK ?_|refine zM ?_|refine zF ?_|refine zH ?_|refine zG ?_|refine zI (by decide) ?_|refine zN ?_|((first|refine zE ?_|refine zQ ?_|refine zS rfl rfl ?_|refine zR rfl ?_|refine zD ?_);simp only[yq193.down,zA,lemS.down,lemC.down,zap,zao,zam,reduceIte,zan,zaq,zar,zas,zat,zau,zav,zaw,zax,reduceCtorEq,lemH.down,zBN,zo,zAX,zAU,zAW,zAV])))
   exact⟨.inr rfl,_,by simp only[yq193.down,zA,lemS.down,lemC.down,zap,zao,zam,reduceIte,zan,zaq,zar,zas,zat,zau,zav,zaw,zax,reduceCtorEq],rfl,Grows.refl h⟩
  | leaf p q =>
   have hb':=hb
   obtain⟨A,B,s,rfl,hA,hB,vA,vB,hs⟩:=hb'
   refine zj T.inn T.innC rfl ?_
   unfold zEH
   dsimp only[zW]
   refine wpk.out (k:=[]) ?_
   have l2:∀sp,h.load ⟨A,2,sp⟩=some (ptr B):=fun sp=>vA.load
   unfold ptr at l2 hb ⊢
   (repeat (first|refine zP ?_|refine zL ?_|refine zO ?_|refine zC ?_|refine zB ?_|refine zJ ?_|refine zK ?_|refine zM ?_|refine zF ?_|refine zH ?_|refine zG ?_|refine zI (by decide) ?_|refine zN ?_|((first|refine zE ?_|refine zQ ?_|refine zS rfl rfl ?_|refine zR rfl ?_|refine zD ?_);simp only[yq193.down,zA,lemS.down,lemC.down,zap,zao,zam,reduceIte,zan,zaq,zar,zas,zat,zau,zav,zaw,zax,reduceCtorEq,lemH.down,zBN,zAH,l2,zo,zAX,zAU,zAW,zAV])))
   exact⟨.inr rfl,_,by simp only[yq193.down,zA,lemS.down,lemC.down,zap,zao,zam,reduceIte,zan,zaq,zar,zas,zat,zau,zav,zaw,zax,reduceCtorEq],hb,Grows.refl h⟩
  | node b1 b2 =>
   obtain⟨A,k0,k1,s,rfl,hA,vA,_,_,hs⟩:=id hb
   exact hard true false ⟨_,rfl,rfl⟩ ⟨_,rfl,rfl⟩ rfl (fun _=>⟨rfl,A,_,_,_,rfl,vA⟩) (fun e=>by cases e)
 | leaf p q =>
  cases b with
  | nil =>
   obtain rfl:y=.pointer none:=hb
   have ha':=ha
   obtain⟨A,B,s,rfl,hA,hB,vA,vB,hs⟩:=ha'
   refine zj T.inn T.innC rfl ?_
   unfold zEH
   dsimp only[zW]
   refine wpk.out (k:=[]) ?_
   have l2:∀sp,h.load ⟨A,2,sp⟩=some (ptr B):=fun sp=>vA.load
   unfold ptr at l2 ha ⊢
   (repeat (first|refine zP ?_|refine zL ?_|refine zO ?_|refine zC ?_|refine zB ?_|refine zJ ?_|refine zK ?_|refine zM ?_|refine zF ?_|refine zH ?_|refine zG ?_|refine zI (by decide) ?_|refine zN ?_|((first|refine zE ?_|refine zQ ?_|refine zS rfl rfl ?_|refine zR rfl ?_|refine zD ?_);simp only[yq193.down,zA,lemS.down,lemC.down,zap,zao,zam,reduceIte,zan,zaq,zar,zas,zat,zau,zav,zaw,zax,reduceCtorEq,lemH.down,zBN,zAH,l2,zo,zAX,zAU,zAW,zAV])))
   exact⟨.inr rfl,_,by simp only[yq193.down,zA,lemS.down,lemC.down,zap,zao,zam,reduceIte,zan,zaq,zar,zas,zat,zau,zav,zaw,zax,reduceCtorEq],ha,Grows.refl h⟩
  | leaf p2 q2 =>
   obtain⟨A,B,s,rfl,_⟩:=id ha
   obtain⟨A2,B2,s2,rfl,_⟩:=id hb
   exact hard false false ⟨_,rfl,rfl⟩ ⟨_,rfl,rfl⟩ rfl (fun e=>by cases e) (fun e=>by cases e)
  | node b1 b2 =>
   obtain⟨A,B,s,rfl,_⟩:=id ha
   obtain⟨A2,k0,k1,s2,rfl,_⟩:=id hb
   exact hard false false ⟨_,rfl,rfl⟩ ⟨_,rfl,rfl⟩ rfl (fun e=>by cases e) (fun e=>by cases e)
 | node a1 a2 =>
  cases b with
  | nil =>
   obtain rfl:y=.pointer none:=hb
   obtain⟨A,k0,k1,s,rfl,hA,vA,_,_,hs⟩:=id ha
   exact hard false true ⟨_,rfl,rfl⟩ ⟨_,rfl,rfl⟩ rfl (fun e=>by cases e) (fun _=>⟨rfl,A,_,_,_,rfl,vA⟩)
  | leaf p2 q2 =>
   obtain⟨A,k0,k1,s,rfl,_⟩:=id ha
   obtain⟨A2,B2,s2,rfl,_⟩:=id hb
   exact hard false false ⟨_,rfl,rfl⟩ ⟨_,rfl,rfl⟩ rfl (fun e=>by cases e) (fun e=>by cases e)
  | node b1 b2 =>
   obtain⟨A,k0,k1,s,rfl,_⟩:=id ha
   obtain⟨A2,k2,k3,s2,rfl,_⟩:=id hb
   exact hard false false ⟨_,rfl,rfl⟩ ⟨_,rfl,rfl⟩ rfl (fun e=>by cases e) (fun e=>by cases e)
end Go.X
end
section
open Go Go.X Go.Proofs Go.RowKit
namespace Go.X
set_option linter.unusedVariables false
def updB (P:Nat→Nat) (n b:Nat):Nat→Nat:=fun i=>if i=n then b else P i
def WT:Tr→Nat→(Nat→Nat)→Prop
 | .nil,_,_=>True
 | .leaf p q,n,P=>p.length=32∧q.length=32∧∀i,i<n→bitP p i=P i
 | .node a b,n,P=>n<256∧WT a (n+1) (updB P n 0)∧WT b (n+1) (updB P n 1)
theorem WT.inner {n:Nat} {P:Nat→Nat} (hn:n<256) {a b:Tr} (ha:WT a (n+1) (updB P n 0)) (hb:WT b (n+1) (updB P n 1)):WT (zCj a b) n P:=by
 cases a with
 | nil =>
  cases b with
  | nil=>trivial
  | leaf p q=>exact⟨hb.1,hb.2.1,fun i hi=>by have:=hb.2.2 i (by omega);rwa [updB,if_neg (by omega)] at this⟩
  | node _ _=>exact⟨hn,ha,hb⟩
 | leaf p q =>
  cases b with
  | nil=>exact⟨ha.1,ha.2.1,fun i hi=>by have:=ha.2.2 i (by omega);rwa [updB,if_neg (by omega)] at this⟩
  | leaf _ _=>exact⟨hn,ha,hb⟩
  | node _ _=>exact⟨hn,ha,hb⟩
 | node _ _=>cases b<;>exact⟨hn,ha,hb⟩
theorem WT.leaf {p q:List UInt8} {n:Nat} {P:Nat→Nat} (hp:p.length=32) (hq:q.length=32) (h:∀i,i<n→bitP p i=P i):WT (.leaf p q) n P:=⟨hp,hq,h⟩
theorem zCY {p:List UInt8} {n:Nat} {P:Nat→Nat} (h:∀i,i<n→bitP p i=P i) {b:Nat} (hb:bitP p n=b):∀i,i<n+1→bitP p i=updB P n b i:=fun i hi=>by
 unfold updB
 by_cases e:i=n
 ·rw[if_pos e,e,hb]
 ·rw[if_neg e];exact h i (by omega)
theorem zDi (p:List UInt8) (i:Nat):bitP p i=0∨bitP p i=1:=by have:=zCC p i;omega
theorem zEY {g:Heap} {K:Nat} {l:List Value} (hv:Var g K l) {b:Nat} (hb:b<l.length) (a:Option Addr):zAG g 1 (.pointer (some ⟨K,b,none⟩)) (.pointer a)=some (.tuple #[],g.wr K (l.set b (.pointer a))):=by
 rw[zY rfl,hv.store1 hb rfl];rfl
theorem two_run {pr:Prog} (T:STab pr) {p q p' q':List UInt8} (hp:p.length=32) (hq:q.length=32) (hp':p'.length=32) (hq':q'.length=32) (hne:p≠p') :
  ∀ (k n:Nat) (P:Nat→Nat) (h:Heap) (S:Nat→Prop),k=256 - n→(∀A,h.next≤A→S A)→(∀i,i<n→bitP p i=P i)→(∀i,i<n→bitP p' i=P i) →
  ∃t v h',cfi pr 192 [zAK p q,zAK p' q',.int .i64 (n:Int)] h=some (v,h')∧IsT h' S t v∧WT t n P∧Grows h h':=by
 intro k
 induction k with
 | zero =>
  intro n P h S hk hlo b1 b2
  exact absurd (zY2 hp hp' fun i hi=>by rw[b1 i (by omega),b2 i (by omega)]) hne
 | succ k ih =>
  intro n P h S hk hlo b1 b2
  have hn:n<256:=by omega
  have:∃v h',cfi pr 192 [zAK p q,zAK p' q',.int .i64 (n:Int)] h=some (v,h')∧∃t,IsT h' S t v∧WT t n P∧Grows h h':=by
   refine zj T.two T.twoC rfl ?_
   unfold xq192
   dsimp only[zW]
   refine wpk.out (k:=[]) ?_
   unfold zAK
   obtain⟨g1,hg1,vg1,gg1,ng1⟩:=box2 (h:=h) [.string (strOf p),.string (strOf q)]
   obtain⟨g2,hg2,vg2,gg2,ng2⟩:=box2 (h:=g1) [.string (strOf p'),.string (strOf q')]
   have wg1:=vg1.grow gg2
   have l1:∀sp,g2.load ⟨h.next,0,sp⟩=some (.string (strOf p)):=fun sp=>wg1.load
   have l2:∀sp,g2.load ⟨g1.next,0,sp⟩=some (.string (strOf p')):=fun sp=>vg2.load
   have c1:=zFQ T hp hn g2
   have c2:=zFQ T hp' hn g2
   obtain⟨g3,hg3,vg3,gg3,ng3⟩:=box2 (h:=g2) [.pointer none,.pointer none]
   have xg1:=wg1.grow gg3
   have xg2:=vg2.grow gg3
   have m1:∀sp,g3.loadN ⟨h.next,0,sp⟩ 2=some [.string (strOf p),.string (strOf q)]:=fun sp=>xg1.loadAll rfl
   have m2:∀sp,g3.loadN ⟨g1.next,0,sp⟩ 2=some [.string (strOf p'),.string (strOf q')]:=fun sp=>xg2.loadAll rfl
   have hw:IntKind.i64.wrap ((n:Int)+1)=((n+1:Nat):Int):=by rw[IntKind.wrap_i64];omega
   have i0:zBP 2 1 (.pointer (some ⟨g2.next,0,none⟩)) (.int .i64 ((bitP p n:Nat):Int))=some (.pointer (some ⟨g2.next,bitP p n,none⟩)):=zBY (zCC p n)
   have i1:zBP 2 1 (.pointer (some ⟨g2.next,0,none⟩)) (.int .i64 ((bitP p' n:Nat):Int))=some (.pointer (some ⟨g2.next,bitP p' n,none⟩)):=zBY (zCC p' n)
   have gg:=(gg1.trans gg2).trans gg3
   have ia0:zBP 2 1 (.pointer (some ⟨g2.next,0,none⟩)) (.int .i64 0)=some (.pointer (some ⟨g2.next,0,none⟩)):=zBQ (i:=0) (by decide)
   have ia1:zBP 2 1 (.pointer (some ⟨g2.next,0,none⟩)) (.int .i64 1)=some (.pointer (some ⟨g2.next,1,none⟩)):=zBQ (i:=1) (by decide)
   have fin:∀ (g5:Heap) (u0 u1:Value) (ta tb:Tr),IsT g5 S ta u0→IsT g5 S tb u1→WT ta (n+1) (updB P n 0)→WT tb (n+1) (updB P n 1)→Grows h g5 →
     ∃v g6,cfi pr 193 [u0,u1] g5=some (v,g6)∧IsT g6 S (zCj ta tb) v∧WT (zCj ta tb) n P∧Grows h g6:=by
    intro g5 u0 u1 ta tb h0 h1 w0 w1 k5
    obtain⟨v,g6,e,it,k6⟩:=zKl T (h:=g5) (fun A hA=>hlo A (Nat.le_trans k5.next hA)) h0 h1
    exact⟨v,g6,e,it,WT.inner hn w0 w1,k5.trans k6⟩
   (repeat (first|refine zP ?_|refine zL ?_|refine zO ?_|refine zC ?_|refine zB ?_|refine zJ ?_|refine zK ?_|refine zM ?_|refine zF ?_|refine zH ?_|refine zG ?_|refine zI (by decide) ?_|refine zN ?_|((first|refine zE ?_|refine zQ ?_|refine zS rfl rfl ?_|refine zR rfl ?_|refine zD ?_);simp only[yq192.down,zA,lemS.down,lemC.down,zap,zao,zam,reduceIte,zan,zaq,zar,zas,zat,zau,zav,zaw,zax,reduceCtorEq,lemH.down,zBi,hg1,hg2,l1,l2,c1,c2,hg3])))
   refine⟨fun he=>?_,fun hne2=>?_⟩
   ·have hxy:bitP p n=bitP p' n:=by omega
    obtain⟨t1,v1,g4,e4,it4,wt4,k4⟩:=ih (n+1) (updB P n (bitP p n)) g3 (fun A=>g3.next≤A) (by omega) (fun A hA=>hA) (zCY b1 rfl) (zCY b2 hxy.symm)
    obtain⟨a,rfl⟩:=it4.shape
    unfold zAK at e4
    have yg3:=vg3.grow k4
    have n4:=k4.next
    have st:=zEY yg3 (b:=bitP p n) (zCC p n) a
    obtain⟨g5,hg5⟩:∃g5,g4.wr g2.next ([Value.pointer none,.pointer none].set (bitP p n) (.pointer a))=g5:=⟨_,rfl⟩
    have zg3:Var g5 g2.next ([Value.pointer none,.pointer none].set (bitP p n) (.pointer a)):=by rw[←hg5];exact yg3.wr
    have kp:Keeps (fun B=>B=g2.next) g4 g5:=by rw[←hg5];exact Keeps.wr
    rw[hg5] at st
    have it5:IsT g5 S t1 (.pointer a):=(IsT.keep kp (fun A hA e=>by omega) it4).mono fun A hA=>hlo A (by omega)
    have k5:Grows h g5:=Grows.then (gg.trans k4) kp (fun A hA e=>by omega)
    obtain⟨u0,u1,ta,tb,hu,iu0,iu1,wu0,wu1⟩:∃u0 u1 ta tb,[Value.pointer none,.pointer none].set (bitP p n) (.pointer a)=[u0,u1]∧IsT g5 S ta u0∧IsT g5 S tb u1∧WT ta (n+1) (updB P n 0)∧WT tb (n+1) (updB P n 1):=by
     rcases zDi p n with hb|hb
     ·rw[hb] at wt4;exact⟨_,_,t1,.nil,by rw[hb];rfl,it5,rfl,wt4,trivial⟩
     ·rw[hb] at wt4;exact⟨_,_,.nil,t1,by rw[hb];rfl,rfl,it5,trivial,wt4⟩
    rw[hu] at zg3
    have z0:∀sp,g5.load ⟨g2.next,0,sp⟩=some u0:=fun sp=>zg3.load
    have z1:∀sp,g5.load ⟨g2.next,1,sp⟩=some u1:=fun sp=>zg3.load
    obtain⟨v,g6,e6,r⟩:=fin g5 u0 u1 ta tb iu0 iu1 wu0 wu1 k5
    (repeat (first|refine zP ?_|refine zL ?_|refine zO ?_|refine zC ?_|refine zB ?_|refine zJ ?_|refine zK ?_|refine zM ?_|refine zF ?_|refine zH ?_|refine zG ?_|refine zI (by decide) ?_|refine zN ?_|((first|refine zE ?_|refine zQ ?_|refine zS rfl rfl ?_|refine zR rfl ?_|refine zD ?_);simp only[yq192.down,zA,lemS.down,lemC.down,zap,zao,zam,reduceIte,zan,zaq,zar,zas,zat,zau,zav,zaw,zax,reduceCtorEq,lemH.down,m1,m2,hw,e4,i0,st,ia0,ia1,z0,z1,e6])))
    exact⟨.inr rfl,_,by simp only[yq192.down,zA,lemS.down,lemC.down,zap,zao,zam,reduceIte,zan,zaq,zar,zas,zat,zau,zav,zaw,zax,reduceCtorEq],_,r⟩
   ·have hxy:bitP p n≠bitP p' n:=by omega
    obtain⟨A4,g4,e4,it4,k4⟩:=zFs T (h:=g3) (p:=p) (q:=q) (by omega) (by omega)
    have n4:=k4.next
    have m2':∀sp,g4.loadN ⟨g1.next,0,sp⟩ 2=some [.string (strOf p'),.string (strOf q')]:=fun sp=>(xg2.grow k4).loadAll rfl
    obtain⟨A5,g5,e5,it5,k5⟩:=zFs T (h:=g4) (p:=p') (q:=q') (by omega) (by omega)
    have n5:=k5.next
    unfold zAK ptr at e4 e5
    unfold ptr at it4 it5
    have yg3:=(vg3.grow k4).grow k5
    have st:=zEY yg3 (b:=bitP p n) (zCC p n) (some ⟨A4,0,none⟩)
    obtain⟨g6,hg6⟩:∃g6,g5.wr g2.next ([Value.pointer none,.pointer none].set (bitP p n) (.pointer (some ⟨A4,0,none⟩)))=g6:=⟨_,rfl⟩
    have zg3:Var g6 g2.next ([Value.pointer none,.pointer none].set (bitP p n) (.pointer (some ⟨A4,0,none⟩))):=by rw[←hg6];exact yg3.wr
    have kp:Keeps (fun B=>B=g2.next) g5 g6:=by rw[←hg6];exact Keeps.wr
    rw[hg6] at st
    have st2:=zEY zg3 (b:=bitP p' n) (by rw[List.length_set];exact zCC p' n) (some ⟨A5,0,none⟩)
    obtain⟨g7,hg7⟩:∃g7,g6.wr g2.next (([Value.pointer none,.pointer none].set (bitP p n) (.pointer (some ⟨A4,0,none⟩))).set (bitP p' n) (.pointer (some ⟨A5,0,none⟩)))=g7:=⟨_,rfl⟩
    have yg7:Var g7 g2.next (([Value.pointer none,.pointer none].set (bitP p n) (.pointer (some ⟨A4,0,none⟩))).set (bitP p' n) (.pointer (some ⟨A5,0,none⟩))):=by rw[←hg7];exact zg3.wr
    have kp2:Keeps (fun B=>B=g2.next) g6 g7:=by rw[←hg7];exact Keeps.wr
    rw[hg7] at st2
    have i4:IsT g7 S (.leaf p q) (.pointer (some ⟨A4,0,none⟩)):=(IsT.keep kp2 (fun A hA e=>by omega) (IsT.keep kp (fun A hA e=>by omega) (it4.grow k5))).mono fun A hA=>hlo A (by omega)
    have i5:IsT g7 S (.leaf p' q') (.pointer (some ⟨A5,0,none⟩)):=(IsT.keep kp2 (fun A hA e=>by omega) (IsT.keep kp (fun A hA e=>by omega) it5)).mono fun A hA=>hlo A (by omega)
    have k7:Grows h g7:=Grows.then (Grows.then ((gg.trans k4).trans k5) kp (fun A hA e=>by omega)) kp2 (fun A hA e=>by omega)
    obtain⟨u0,u1,ta,tb,hu,iu0,iu1,wu0,wu1⟩:∃u0 u1 ta tb,(([Value.pointer none,.pointer none].set (bitP p n) (.pointer (some ⟨A4,0,none⟩))).set (bitP p' n) (.pointer (some ⟨A5,0,none⟩)))=[u0,u1]∧IsT g7 S ta u0∧IsT g7 S tb u1∧WT ta (n+1) (updB P n 0)∧WT tb (n+1) (updB P n 1):=by
     rcases zDi p n with hb|hb<;>rcases zDi p' n with hb'|hb'
     ·exact absurd (hb.trans hb'.symm) hxy
     ·exact⟨_,_,_,_,by rw[hb,hb'];rfl,i4,i5,WT.leaf hp hq (zCY b1 hb),WT.leaf hp' hq' (zCY b2 hb')⟩
     ·exact⟨_,_,_,_,by rw[hb,hb'];rfl,i5,i4,WT.leaf hp' hq' (zCY b2 hb'),WT.leaf hp hq (zCY b1 hb)⟩
     ·exact absurd (hb.trans hb'.symm) hxy
    rw[hu] at yg7
    have z0:∀sp,g7.load ⟨g2.next,0,sp⟩=some u0:=fun sp=>yg7.load
    have z1:∀sp,g7.load ⟨g2.next,1,sp⟩=some u1:=fun sp=>yg7.load
    obtain⟨v,g8,e8,r⟩:=fin g7 u0 u1 ta tb iu0 iu1 wu0 wu1 k7
    (repeat (first|refine zP ?_|refine zL ?_|refine zO ?_|refine zC ?_|refine zB ?_|refine zJ ?_|refine zK ?_|refine zM ?_|refine zF ?_|refine zH ?_|refine zG ?_|refine zI (by decide) ?_|refine zN ?_|((first|refine zE ?_|refine zQ ?_|refine zR rfl ?_|refine zD ?_);simp only[yq192.down,zA,lemS.down,lemC.down,zap,zao,zam,reduceIte,zan,zaq,zar,zas,zat,zau,zav,zaw,zax,reduceCtorEq,lemH.down,m1,m2,m2',e4,e5,i0,i1,st,st2,ia0,ia1,z0,z1,e8])))
    refine⟨?_,?_⟩
    ·(refine zAa rfl rfl rfl ?_ ?_<;>simp only[yq192.down,zA,lemS.down,lemC.down,zap,zao,zam,reduceIte,zan,zaq,zar,zas,zat,zau,zav,zaw,zax,reduceCtorEq,lemH.down,m2,m2',zAA,zz,zAB,z8,zw,Option.isSome_some])
    (repeat (first|refine zP ?_|refine zL ?_|refine zO ?_|refine zC ?_|refine zB ?_|refine zJ ?_|refine zK ?_|refine zM ?_|refine zF ?_|refine zH ?_|refine zG ?_|refine zI (by decide) ?_|refine zN ?_|((first|refine zE ?_|refine zQ ?_|refine zR rfl ?_|refine zD ?_);simp only[yq192.down,zA,lemS.down,lemC.down,zap,zao,zam,reduceIte,zan,zaq,zar,zas,zat,zau,zav,zaw,zax,reduceCtorEq,lemH.down,m1,m2,m2',e4,e5,i0,i1,st,st2,ia0,ia1,z0,z1,e8])))
    exact⟨.inr rfl,_,by simp only[yq192.down,zA,lemS.down,lemC.down,zap,zao,zam,reduceIte,zan,zaq,zar,zas,zat,zau,zav,zaw,zax,reduceCtorEq],_,r⟩
  obtain⟨v,h',e,t,r⟩:=this
  exact⟨t,v,h',e,r⟩
end Go.X
end
section
open Go Go.X Go.Proofs Go.RowKit
namespace Go.X
set_option linter.unusedVariables false
def wide (S:Nat→Prop) (h:Heap):Nat→Prop:=fun A=>S A∨h.next≤A
theorem put_run {pr:Prog} (T:STab pr) {p q:List UInt8} (hp:p.length=32) (hq:q.length=32) :
  ∀ (t:Tr) (n:Nat) (P:Nat→Nat) (h:Heap) (S:Nat→Prop) (v:Value),IsT h S t v→WT t n P→(∀i,i<n→bitP p i=P i)→n≤256 →
  ∃t' v' h',cfi pr 157 [v,zAK p q,.int .i64 (n:Int)] h=some (v',h')∧IsT h' (wide S h) t' v'∧WT t' n P∧Grows h h':=by
 intro t
 induction t with
 | nil =>
  intro n P h S v hv hw b1 hn
  obtain rfl:v=.pointer none:=hv
  have:∃v' h',cfi pr 157 [.pointer none,zAK p q,.int .i64 (n:Int)] h=some (v',h')∧∃t',IsT h' (wide S h) t' v'∧WT t' n P∧Grows h h':=by
   refine zj T.put T.putC rfl ?_
   unfold zE3
   dsimp only[zW]
   refine wpk.out (k:=[]) ?_
   unfold zAK
   obtain⟨g1,hg1,vg1,gg1,ng1⟩:=box2 (h:=h) [.string (strOf p),.string (strOf q)]
   have m1:∀sp,g1.loadN ⟨h.next,0,sp⟩ 2=some [.string (strOf p),.string (strOf q)]:=fun sp=>vg1.loadAll rfl
   obtain⟨A4,g4,e4,it4,k4⟩:=zFs T (h:=g1) (p:=p) (q:=q) (by omega) (by omega)
   unfold zAK at e4
   (repeat (first|refine zP ?_|refine zL ?_|refine zO ?_|refine zC ?_|refine zB ?_|refine zJ ?_|refine zK ?_|refine zM ?_|refine zF ?_|refine zH ?_|refine zG ?_|refine zI (by decide) ?_|refine zN ?_|((first|refine zE ?_|refine zQ ?_|refine zS rfl rfl ?_|refine zR rfl ?_|refine zD ?_);simp only[yq157.down,zA,lemS.down,lemC.down,zap,zao,zam,reduceIte,zan,zaq,zar,zas,zat,zau,zav,zaw,zax,reduceCtorEq,lemH.down,zBi,hg1,zBN,m1,e4])))
   exact⟨.inr rfl,_,by simp only[yq157.down,zA,lemS.down,lemC.down,zap,zao,zam,reduceIte,zan,zaq,zar,zas,zat,zau,zav,zaw,zax,reduceCtorEq],_,it4.mono fun A hA=>.inr (by have:g1.next≤A:=hA;omega),WT.leaf hp hq b1,gg1.trans k4⟩
  obtain⟨v',h',e,t',r⟩:=this
  exact⟨t',v',h',e,r⟩
 | leaf p0 q0 =>
  intro n P h S v hv hw b1 hn
  obtain⟨A,B,s,rfl,hA,hB,vA,vB,hs⟩:=hv
  have:∃v' h',cfi pr 157 [ptr A,zAK p q,.int .i64 (n:Int)] h=some (v',h')∧∃t',IsT h' (wide S h) t' v'∧WT t' n P∧Grows h h':=by
   refine zj T.put T.putC rfl ?_
   unfold zE3
   dsimp only[zW]
   refine wpk.out (k:=[]) ?_
   unfold zAK ptr
   obtain⟨g1,hg1,vg1,gg1,ng1⟩:=box2 (h:=h) [.string (strOf p),.string (strOf q)]
   have m1:∀sp,g1.loadN ⟨h.next,0,sp⟩ 2=some [.string (strOf p),.string (strOf q)]:=fun sp=>vg1.loadAll rfl
   have m0:∀sp,g1.load ⟨h.next,0,sp⟩=some (.string (strOf p)):=fun sp=>vg1.load
   have a2:∀sp,g1.load ⟨A,2,sp⟩=some (.pointer (some ⟨B,0,none⟩)):=fun sp=>(vA.grow gg1).load
   have b0:∀sp,g1.load ⟨B,0,sp⟩=some (.string (strOf p0)):=fun sp=>(vB.grow gg1).load
   have b2:∀sp,g1.loadN ⟨B,0,sp⟩ 2=some [.string (strOf p0),.string (strOf q0)]:=fun sp=>(vB.grow gg1).loadAll rfl
   (repeat (first|refine zP ?_|refine zL ?_|refine zO ?_|refine zC ?_|refine zB ?_|refine zJ ?_|refine zK ?_|refine zM ?_|refine zF ?_|refine zH ?_|refine zG ?_|refine zI (by decide) ?_|refine zN ?_|((first|refine zE ?_|refine zQ ?_|refine zS rfl rfl ?_|refine zR rfl ?_|refine zD ?_);simp only[yq157.down,zA,lemS.down,lemC.down,zap,zao,zam,reduceIte,zan,zaq,zar,zas,zat,zau,zav,zaw,zax,reduceCtorEq,lemH.down,zBi,hg1,zBN,zAH,a2,b0,m0,zo,zAX,zAU,zAW,zAV,m1])))
   refine⟨fun hpp=>?_,fun hpp=>?_⟩
   ·obtain⟨A4,g4,e4,it4,k4⟩:=zFs T (h:=g1) (p:=p) (q:=q) (by omega) (by omega)
    unfold zAK at e4
    (repeat (first|refine zP ?_|refine zL ?_|refine zO ?_|refine zC ?_|refine zB ?_|refine zJ ?_|refine zK ?_|refine zM ?_|refine zF ?_|refine zH ?_|refine zG ?_|refine zI (by decide) ?_|refine zN ?_|((first|refine zE ?_|refine zQ ?_|refine zS rfl rfl ?_|refine zR rfl ?_|refine zD ?_);simp only[yq157.down,zA,lemS.down,lemC.down,zap,zao,zam,reduceIte,zan,zaq,zar,zas,zat,zau,zav,zaw,zax,reduceCtorEq,lemH.down,m1,e4])))
    exact⟨.inr rfl,_,by simp only[yq157.down,zA,lemS.down,lemC.down,zap,zao,zam,reduceIte,zan,zaq,zar,zas,zat,zau,zav,zaw,zax,reduceCtorEq],_,it4.mono fun A hA=>.inr (by have:g1.next≤A:=hA;omega),WT.leaf hp hq b1,gg1.trans k4⟩
   ·obtain⟨t4,v4,g4,e4,it4,w4,k4⟩:=two_run T hw.1 hw.2.1 hp hq hpp _ n P g1 (fun A=>g1.next≤A) rfl (fun A hA=>hA) hw.2.2 b1
    unfold zAK at e4
    (repeat (first|refine zP ?_|refine zL ?_|refine zO ?_|refine zC ?_|refine zB ?_|refine zJ ?_|refine zK ?_|refine zM ?_|refine zF ?_|refine zH ?_|refine zG ?_|refine zI (by decide) ?_|refine zN ?_|((first|refine zE ?_|refine zQ ?_|refine zS rfl rfl ?_|refine zR rfl ?_|refine zD ?_);simp only[yq157.down,zA,lemS.down,lemC.down,zap,zao,zam,reduceIte,zan,zaq,zar,zas,zat,zau,zav,zaw,zax,reduceCtorEq,lemH.down,zBi,hg1,zBN,zAH,a2,b0,b2,m0,zo,zAX,zAU,zAW,zAV,m1,e4])))
    exact⟨.inr rfl,_,by simp only[yq157.down,zA,lemS.down,lemC.down,zap,zao,zam,reduceIte,zan,zaq,zar,zas,zat,zau,zav,zaw,zax,reduceCtorEq],_,it4.mono fun A hA=>.inr (by have:g1.next≤A:=hA;omega),w4,gg1.trans k4⟩
  obtain⟨v',h',e,t',r⟩:=this
  exact⟨t',v',h',e,r⟩
 | node a b iha ihb =>
  intro n P h S v hv hw b1 hn
  obtain⟨A,x,y,s,rfl,hA,vA,ha,hb,hs⟩:=hv
  obtain⟨hn2,wa,wb⟩:=hw
  have:∃v' h',cfi pr 157 [ptr A,zAK p q,.int .i64 (n:Int)] h=some (v',h')∧∃t',IsT h' (wide S h) t' v'∧WT t' n P∧Grows h h':=by
   refine zj T.put T.putC rfl ?_
   unfold zE3
   dsimp only[zW]
   refine wpk.out (k:=[]) ?_
   unfold zAK ptr
   obtain⟨g1,hg1,vg1,gg1,ng1⟩:=box2 (h:=h) [.string (strOf p),.string (strOf q)]
   obtain⟨g2,hg2,vg2,gg2,ng2⟩:=box2 (h:=g1) [.pointer none,.pointer none]
   obtain⟨ax,rfl⟩:=ha.shape
   obtain⟨ay,rfl⟩:=hb.shape
   have a2:∀sp,g1.load ⟨A,2,sp⟩=some (.pointer none):=fun sp=>(vA.grow gg1).load
   have aK:∀sp,g1.loadN ⟨A,0,sp⟩ 2=some [.pointer ax,.pointer ay]:=fun sp=>by rw[(vA.grow gg1).loadN];rfl
   have sK:zAG g2 2 (.pointer (some ⟨g1.next,0,none⟩)) (.agg [.pointer ax,.pointer ay].toArray)=some (.tuple #[],g2.wr g1.next [.pointer ax,.pointer ay]):=vg2.storeAll rfl rfl (by decide) rfl
   obtain⟨g3,hg3⟩:∃g3,g2.wr g1.next [.pointer ax,.pointer ay]=g3:=⟨_,rfl⟩
   have vg3:Var g3 g1.next [.pointer ax,.pointer ay]:=by rw[←hg3];exact vg2.wr
   have k3:Grows g1 g3:=by rw[←hg3];exact gg2.wr (Nat.le_refl _)
   have n3:g3.next=g1.next+1:=by rw[←hg3];exact ng2
   rw[hg3] at sK
   have vp3:=vg1.grow k3
   have m0:∀sp,g3.load ⟨h.next,0,sp⟩=some (.string (strOf p)):=fun sp=>vp3.load
   have m1:∀sp,g3.loadN ⟨h.next,0,sp⟩ 2=some [.string (strOf p),.string (strOf q)]:=fun sp=>vp3.loadAll rfl
   have c1:=zFQ T hp hn2 g3
   have hw:IntKind.i64.wrap ((n:Int)+1)=((n+1:Nat):Int):=by rw[IntKind.wrap_i64];omega
   have i0:zBP 2 1 (.pointer (some ⟨g1.next,0,none⟩)) (.int .i64 ((bitP p n:Nat):Int))=some (.pointer (some ⟨g1.next,bitP p n,none⟩)):=zBY (zCC p n)
   have ia0:zBP 2 1 (.pointer (some ⟨g1.next,0,none⟩)) (.int .i64 0)=some (.pointer (some ⟨g1.next,0,none⟩)):=zBQ (i:=0) (by decide)
   have ia1:zBP 2 1 (.pointer (some ⟨g1.next,0,none⟩)) (.int .i64 1)=some (.pointer (some ⟨g1.next,1,none⟩)):=zBQ (i:=1) (by decide)
   have kk:=gg1.trans k3
   have ha3:IsT g3 (fun B=>S B∧B<h.next) a (.pointer ax):=ha.bound.grow kk
   have hb3:IsT g3 (fun B=>S B∧B<h.next) b (.pointer ay):=hb.bound.grow kk
   obtain⟨z,tz,hz,t4,v4,g4,e4,it4,w4,k4⟩:∃z tz,[Value.pointer ax,.pointer ay][bitP p n]?=some z∧∃t4 v4 g4,cfi pr 157 [z,zAK p q,.int .i64 ((n+1:Nat):Int)] g3=some (v4,g4)∧IsT g4 (wide (fun B=>S B∧B<h.next) g3) t4 v4∧WT t4 (n+1) (updB P n (bitP p n))∧Grows g3 g4:=by
    rcases zDi p n with hb01|hb01
    ·obtain⟨t4,v4,g4,r⟩:=iha (n+1) (updB P n 0) g3 _ _ ha3 wa (zCY b1 hb01) (by omega)
     exact⟨_,a,by rw[hb01];rfl,t4,v4,g4,by rw[hb01];exact r⟩
    ·obtain⟨t4,v4,g4,r⟩:=ihb (n+1) (updB P n 1) g3 _ _ hb3 wb (zCY b1 hb01) (by omega)
     exact⟨_,b,by rw[hb01];rfl,t4,v4,g4,by rw[hb01];exact r⟩
   obtain⟨a4,rfl⟩:=it4.shape
   unfold zAK at e4
   have lz:∀sp,g3.load ⟨g1.next,bitP p n,sp⟩=some z:=fun sp=>by rw[vg3.load];exact hz
   have n4:=k4.next
   have vg4:=vg3.grow k4
   have st:=zEY vg4 (b:=bitP p n) (zCC p n) a4
   obtain⟨g5,hg5⟩:∃g5,g4.wr g1.next ([Value.pointer ax,.pointer ay].set (bitP p n) (.pointer a4))=g5:=⟨_,rfl⟩
   have vg5:Var g5 g1.next ([Value.pointer ax,.pointer ay].set (bitP p n) (.pointer a4)):=by rw[←hg5];exact vg4.wr
   have kp:Keeps (fun B=>B=g1.next) g4 g5:=by rw[←hg5];exact Keeps.wr
   rw[hg5] at st
   have old:∀ {t v},IsT g3 (fun B=>S B∧B<h.next) t v→IsT g5 (wide S h) t v:=fun ht=>(IsT.keep kp (fun B hB e=>by omega) (ht.grow k4)).mono fun B hB=>.inl hB.1
   have new:IsT g5 (wide S h) t4 (.pointer a4):=(IsT.keep kp (fun B hB e=>by rcases hB with hB|hB<;>omega) it4).mono fun B hB=>by
    rcases hB with hB|hB
    ·exact .inl hB.1
    ·exact .inr (by omega)
   have k5:Grows h g5:=Grows.then (kk.trans k4) kp (fun B hB e=>by omega)
   obtain⟨u0,u1,ta,tb,hu,iu0,iu1,wu0,wu1⟩:∃u0 u1 ta tb,[Value.pointer ax,.pointer ay].set (bitP p n) (.pointer a4)=[u0,u1]∧IsT g5 (wide S h) ta u0∧IsT g5 (wide S h) tb u1∧WT ta (n+1) (updB P n 0)∧WT tb (n+1) (updB P n 1):=by
    rcases zDi p n with hb01|hb01
    ·rw[hb01] at w4;exact⟨_,_,t4,b,by rw[hb01];rfl,new,old hb3,w4,wb⟩
    ·rw[hb01] at w4;exact⟨_,_,a,t4,by rw[hb01];rfl,old ha3,new,wa,w4⟩
   rw[hu] at vg5
   have z0:∀sp,g5.load ⟨g1.next,0,sp⟩=some u0:=fun sp=>vg5.load
   have z1:∀sp,g5.load ⟨g1.next,1,sp⟩=some u1:=fun sp=>vg5.load
   obtain⟨v6,g6,e6,it6,k6⟩:=zKl T (h:=g5) (S:=wide S h) (fun B hB=>.inr (Nat.le_trans k5.next hB)) iu0 iu1
   (repeat (first|refine zP ?_|refine zL ?_|refine zO ?_|refine zC ?_|refine zB ?_|refine zJ ?_|refine zK ?_|refine zM ?_|refine zF ?_|refine zH ?_|refine zG ?_|refine zI (by decide) ?_|refine zN ?_|((first|refine zE ?_|refine zQ ?_|refine zR rfl ?_|refine zD ?_);simp only[yq157.down,zA,lemS.down,lemC.down,zap,zao,zam,reduceIte,zan,zaq,zar,zas,zat,zau,zav,zaw,zax,reduceCtorEq,lemH.down,zBi,hg1,zBN,zAH,a2,aK,hg2,sK,m0,c1,zo,zAX,zAU,zAW,zAV,i0,ia0,ia1,lz,m1,hw,e4,st,z0,z1,e6])))
   exact⟨.inr rfl,_,by simp only[yq157.down,zA,lemS.down,lemC.down,zap,zao,zam,reduceIte,zan,zaq,zar,zas,zat,zau,zav,zaw,zax,reduceCtorEq],_,it6,WT.inner hn2 wu0 wu1,k5.trans k6⟩
  obtain⟨v',h',e,t',r⟩:=this
  exact⟨t',v',h',e,r⟩
end Go.X
end
section
open Go Go.X Go.Proofs Go.RowKit
namespace Go.X
set_option linter.unusedVariables false
theorem Get_run {pr:Prog} (T:STab pr) {h:Heap} {K:Nat} {rt nv:Value} (hv:Var h K [rt,nv]) {S:Nat→Prop} {t:Tr} (ht:IsT h S t rt) {P:Nat→Nat} (hw:WT t 0 P) {key:List UInt8} (hk:key.length+2000≤zU) :
  ∃s b h',cfi pr 156 [ptr K,.string (strOf key)] h=some (.tuple #[.string (strOf s),.bool b],h')∧Grows h h':=by
 have:∃w h',cfi pr 156 [ptr K,.string (strOf key)] h=some (w,h')∧∃s b,w=.tuple #[.string (strOf s),.bool b]∧Grows h h':=by
  refine zj T.get T.getC rfl ?_
  unfold xq156 ptr
  dsimp only[zW]
  refine wpk.out (k:=[]) ?_
  obtain⟨p,g1,e1,hp,k1⟩:=zJX T (h:=h) hk
  have l0:∀sp,g1.load ⟨K,0,sp⟩=some rt:=fun sp=>(hv.grow k1).load
  have t1:=ht.grow k1
  (repeat (first|refine zP ?_|refine zL ?_|refine zO ?_|refine zC ?_|refine zB ?_|refine zJ ?_|refine zK ?_|refine zM ?_|refine zF ?_|refine zH ?_|refine zG ?_|refine zI (by decide) ?_|refine zN ?_|((first|refine zE ?_|refine zQ ?_|refine zS rfl rfl ?_|refine zR rfl ?_|refine zD ?_);simp only[yq156.down,zA,lemS.down,lemC.down,zap,zao,zam,reduceIte,zan,zaq,zar,zas,zat,zau,zav,zaw,zax,reduceCtorEq,lemH.down,zAH,e1,l0])))
  refine zAY (fun m f g=>∃n P v tr,m=256 - n∧n≤256∧g=g1∧IsT g1 S tr v∧WT tr n P∧f.get 6=.string (strOf p)∧f.get 7=v∧f.get 8=.int .i64 (n:Int)) ?_ 256 _ _ ⟨0,P,rt,t,rfl,by omega,rfl,t1,hw,by simp only[yq156.down,zA,lemS.down,lemC.down,zap,zao,zam,reduceIte,zan,zaq,zar,zas,zat,zau,zav,zaw,zax,reduceCtorEq],by simp only[yq156.down,zA,lemS.down,lemC.down,zap,zao,zam,reduceIte,zan,zaq,zar,zas,zat,zau,zav,zaw,zax,reduceCtorEq],by (simp only[yq156.down,zA,lemS.down,lemC.down,zap,zao,zam,reduceIte,zan,zaq,zar,zas,zat,zau,zav,zaw,zax,reduceCtorEq])<;>rfl⟩
  rintro m f g ⟨n,P,v,tr,rfl,hn,rfl,it,wt,t6,t7,t8⟩ hnext
  refine xq156_9k ?_
  dsimp only[zIs]
  cases tr with
  | nil =>
   obtain rfl:v=.pointer none:=it
   (repeat (first|refine zP ?_|refine zL ?_|refine zO ?_|refine zC ?_|refine zB ?_|refine zJ ?_|refine zK ?_|refine zM ?_|refine zF ?_|refine zH ?_|refine zG ?_|refine zI (by decide) ?_|refine zN ?_|((first|refine zE ?_|refine zQ ?_|refine zS rfl rfl ?_|refine zR rfl ?_|refine zD ?_);simp only[yq156.down,zA,lemS.down,lemC.down,zap,zao,zam,reduceIte,zan,zaq,zar,zas,zat,zau,zav,zaw,zax,reduceCtorEq,lemH.down,t6,t7,t8,zBN,zo,zAX,zAU,zAW,zAV])))
   exact⟨.inr rfl,_,by simp only[yq156.down,zA,lemS.down,lemC.down,zap,zao,zam,reduceIte,zan,zaq,zar,zas,zat,zau,zav,zaw,zax,reduceCtorEq],[],false,rfl,k1⟩
  | leaf p0 q0 =>
   obtain⟨A,B,s,rfl,hA,hB,vA,vB,hs⟩:=it
   unfold ptr at t7 vA
   have a2:∀sp,g.load ⟨A,2,sp⟩=some (.pointer (some ⟨B,0,none⟩)):=fun sp=>vA.load
   have b0:∀sp,g.load ⟨B,0,sp⟩=some (.string (strOf p0)):=fun sp=>vB.load
   have b1:∀sp,g.load ⟨B,1,sp⟩=some (.string (strOf q0)):=fun sp=>vB.load
   (repeat (first|refine zP ?_|refine zL ?_|refine zO ?_|refine zC ?_|refine zB ?_|refine zJ ?_|refine zK ?_|refine zM ?_|refine zF ?_|refine zH ?_|refine zG ?_|refine zI (by decide) ?_|refine zN ?_|((first|refine zE ?_|refine zQ ?_|refine zS rfl rfl ?_|refine zR rfl ?_|refine zD ?_);simp only[yq156.down,zA,lemS.down,lemC.down,zap,zao,zam,reduceIte,zan,zaq,zar,zas,zat,zau,zav,zaw,zax,reduceCtorEq,lemH.down,t6,t7,t8,zAH,a2,b0,b1,zo,zAX,zAU,zAW,zAV])))
   refine⟨fun hpp=>?_,fun hpp=>?_⟩
   ·(repeat (first|refine zP ?_|refine zL ?_|refine zO ?_|refine zC ?_|refine zB ?_|refine zJ ?_|refine zK ?_|refine zM ?_|refine zF ?_|refine zH ?_|refine zG ?_|refine zI (by decide) ?_|refine zN ?_|((first|refine zE ?_|refine zQ ?_|refine zS rfl rfl ?_|refine zR rfl ?_|refine zD ?_);simp only[yq156.down,zA,lemS.down,lemC.down,zap,zao,zam,reduceIte,zan,zaq,zar,zas,zat,zau,zav,zaw,zax,reduceCtorEq,lemH.down,t6,t7,t8,zAH,a2,b0,b1,zo,zAX,zAU,zAW,zAV])))
    exact⟨.inr rfl,_,by simp only[yq156.down,zA,lemS.down,lemC.down,zap,zao,zam,reduceIte,zan,zaq,zar,zas,zat,zau,zav,zaw,zax,reduceCtorEq],[],false,rfl,k1⟩
   ·(repeat (first|refine zP ?_|refine zL ?_|refine zO ?_|refine zC ?_|refine zB ?_|refine zJ ?_|refine zK ?_|refine zM ?_|refine zF ?_|refine zH ?_|refine zG ?_|refine zI (by decide) ?_|refine zN ?_|((first|refine zE ?_|refine zQ ?_|refine zS rfl rfl ?_|refine zR rfl ?_|refine zD ?_);simp only[yq156.down,zA,lemS.down,lemC.down,zap,zao,zam,reduceIte,zan,zaq,zar,zas,zat,zau,zav,zaw,zax,reduceCtorEq,lemH.down,t6,t7,t8,zAH,a2,b0,b1,zo,zAX,zAU,zAW,zAV])))
    exact⟨.inr rfl,_,by simp only[yq156.down,zA,lemS.down,lemC.down,zap,zao,zam,reduceIte,zan,zaq,zar,zas,zat,zau,zav,zaw,zax,reduceCtorEq],q0,true,rfl,k1⟩
  | node a b =>
   obtain⟨A,x,y,s,rfl,hA,vA,ha,hb,hs⟩:=it
   obtain⟨hn2,wa,wb⟩:=wt
   unfold ptr at t7
   have a2:∀sp,g.load ⟨A,2,sp⟩=some (.pointer none):=fun sp=>vA.load
   have c1:=zFQ T hp hn2 g
   have i0:zBP 2 1 (.pointer (some ⟨A,0,none⟩)) (.int .i64 ((bitP p n:Nat):Int))=some (.pointer (some ⟨A,bitP p n,none⟩)):=zBY (by exact zCC p n)
   have hw1:IntKind.i64.wrap ((n:Int)+1)=((n+1:Nat):Int):=by rw[IntKind.wrap_i64];omega
   obtain⟨z,P2,tz,lz,iz,wz⟩:∃z P2 tz,(∀sp,g.load ⟨A,bitP p n,sp⟩=some z)∧IsT g S tz z∧WT tz (n+1) P2:=by
    rcases zDi p n with hb01|hb01
    ·exact⟨x,_,a,fun sp=>by rw[hb01,vA.load];rfl,ha,wa⟩
    ·exact⟨y,_,b,fun sp=>by rw[hb01,vA.load];rfl,hb,wb⟩
   (repeat (first|refine zP ?_|refine zL ?_|refine zO ?_|refine zC ?_|refine zB ?_|refine zJ ?_|refine zK ?_|refine zM ?_|refine zF ?_|refine zH ?_|refine zG ?_|refine zI (by decide) ?_|refine zN ?_|((first|refine zE ?_|refine zQ ?_|refine zS rfl rfl ?_|refine zR rfl ?_|refine zD ?_);simp only[yq156.down,zA,lemS.down,lemC.down,zap,zao,zam,reduceIte,zan,zaq,zar,zas,zat,zau,zav,zaw,zax,reduceCtorEq,lemH.down,t6,t7,t8,zAH,zBN,a2,c1,i0,lz,hw1,zo,zAX,zAU,zAW,zAV])))
   exact hnext (256 - (n+1)) _ _ (by omega) ⟨n+1,P2,z,tz,rfl,by omega,rfl,iz,wz,by simp only[yq156.down,zA,lemS.down,lemC.down,zap,zao,zam,reduceIte,zan,zaq,zar,zas,zat,zau,zav,zaw,zax,reduceCtorEq,t6],by simp only[yq156.down,zA,lemS.down,lemC.down,zap,zao,zam,reduceIte,zan,zaq,zar,zas,zat,zau,zav,zaw,zax,reduceCtorEq],by simp only[yq156.down,zA,lemS.down,lemC.down,zap,zao,zam,reduceIte,zan,zaq,zar,zas,zat,zau,zav,zaw,zax,reduceCtorEq]⟩
 obtain⟨w,h',e,s,b,rfl,r⟩:=this
 exact⟨s,b,h',e,r⟩
end Go.X
end
section
open Go Go.X Go.Proofs Go.RowKit
namespace Go.X
set_option linter.unusedVariables false
theorem Put_run {pr:Prog} (T:STab pr) {h:Heap} {K:Nat} {S:Nat→Prop} {rt:Value} {n:Int} {t:Tr} (hv:Var h K [rt,.int .i64 n]) (hS:∀A,S A→A≠K) (ht:IsT h S t rt) (hw:WT t 0 (fun _=>0)) (hn:0≤n∧n<4611686018427387904) {key val:List UInt8} (hk:key.length+2000≤zU) (hl:val.length+2000≤zU) :
  ∃rt' n' t' h',cfi pr 96 [ptr K,.string (strOf key),.string (strOf val)] h=some (.int .i64 0,h')∧Var h' K [rt',.int .i64 n']∧IsT h' (wide S h) t' rt'∧WT t' 0 (fun _=>0)∧(0≤n'∧n'≤n+1)∧Keeps (fun A=>A=K) h h':=by
 have:∃w h',cfi pr 96 [ptr K,.string (strOf key),.string (strOf val)] h=some (w,h')∧∃rt' n' t',w=.int .i64 0∧Var h' K [rt',.int .i64 n']∧IsT h' (wide S h) t' rt'∧WT t' 0 (fun _=>0)∧(0≤n'∧n'≤n+1)∧Keeps (fun A=>A=K) h h':=by
  refine zj T.tput T.tputC rfl ?_
  unfold xq96
  dsimp only[zW]
  refine wpk.out (k:=[]) ?_
  obtain⟨s,b,g1,e1,k1⟩:=Get_run T hv ht hw hk
  unfold ptr at e1 ⊢
  have v1:=hv.grow k1
  have t1:=ht.bound.grow k1
  have hK:K<h.next:=hv.1
  have hw1:IntKind.i64.wrap (n+1)=n+1:=by rw[IntKind.wrap_i64];omega
  have l1:∀sp,g1.load ⟨K,1,sp⟩=some (.int .i64 n):=fun sp=>v1.load
  have s1:zAG g1 1 (.pointer (some ⟨K,1,none⟩)) (.int .i64 (n+1))=some (.tuple #[],g1.wr K [rt,.int .i64 (n+1)]):=by rw[zY rfl,v1.store1 (by simp) rfl];rfl
  have tail:∀ (g:Heap) (n2:Int),Var g K [rt,.int .i64 n2]→IsT g (fun A=>S A∧A<h.next) t rt→h.next≤g.next→∃s1 g3 s2 g4 v5 t5 g5,cfi pr 158 [.string (strOf key)] g=some (.string (strOf s1),g3)∧cfi pr 159 [.string (strOf val)] g3=some (.string (strOf s2),g4)∧cfi pr 157 [rt,.agg [.string (strOf s1),.string (strOf s2)].toArray,.int .i64 0] g4=some (.pointer v5,g5) ∧
    (∀sp,g.load ⟨K,0,sp⟩=some rt)∧(∀sp,g3.load ⟨K,0,sp⟩=some rt)∧(∀sp,g4.load ⟨K,0,sp⟩=some rt)∧(∀sp,g5.load ⟨K,0,sp⟩=some rt)∧∃g6,zAG g5 1 (.pointer (some ⟨K,0,none⟩)) (.pointer v5)=some (.tuple #[],g6)∧Var g6 K [.pointer v5,.int .i64 n2]∧IsT g6 (wide S h) t5 (.pointer v5)∧WT t5 0 (fun _=>0)∧Keeps (fun A=>A=K) g g6:=by
   intro g n2 v it hnx
   obtain⟨s1,g3,e3,hs1,k3⟩:=zJX T (h:=g) hk
   obtain⟨s2,g4,e4,hs2,k4⟩:=zXE T (h:=g3) hl
   have k34:=k3.trans k4
   obtain⟨t5,v5,g5,e5,it5,w5,k5⟩:=put_run T hs1 hs2 t 0 (fun _=>0) g4 _ rt (it.grow k34) hw (fun i hi=>absurd hi (by omega)) (by omega)
   obtain⟨a5,rfl⟩:=it5.shape
   have v5:=v.grow (k34.trans k5)
   have n34:=k34.next
   have n5:=k5.next
   have st:zAG g5 1 (.pointer (some ⟨K,0,none⟩)) (.pointer a5)=some (.tuple #[],g5.wr K [.pointer a5,.int .i64 n2]):=by rw[zY rfl,v5.store1 (by simp) rfl];rfl
   refine⟨s1,g3,s2,g4,a5,t5,g5,e3,e4,e5,fun sp=>v.load,fun sp=>(v.grow k3).load,fun sp=>(v.grow k34).load,fun sp=>v5.load,_,st,v5.wr,?_,w5,Keeps.trans (k34.trans k5).keeps Keeps.wr fun _ _ e=>e⟩
   refine (IsT.keep Keeps.wr (fun A hA e=>?_) it5).mono fun A hA=>?_
   ·rcases hA with hA|hA
    ·exact hS A hA.1 e
    ·omega
   ·rcases hA with hA|hA
    ·exact .inl hA.1
    ·exact .inr (by omega)
  (repeat (first|refine zP ?_|refine zL ?_|refine zO ?_|refine zC ?_|refine zB ?_|refine zJ ?_|refine zK ?_|refine zM ?_|refine zF ?_|refine zH ?_|refine zG ?_|refine zI (by decide) ?_|refine zN ?_|((first|refine zE ?_|refine zQ ?_|refine zS rfl rfl ?_|refine zR rfl ?_|refine zD ?_);simp only[yq96.down,zA,lemS.down,lemC.down,zap,zao,zam,reduceIte,zan,zaq,zar,zas,zat,zau,zav,zaw,zax,reduceCtorEq,lemH.down,zAH,e1,l1,hw1,s1])))
  refine⟨fun hb=>?_,fun hb=>?_⟩
  ·have v2:Var (g1.wr K [rt,.int .i64 (n+1)]) K [rt,.int .i64 (n+1)]:=v1.wr
   have t2:IsT (g1.wr K [rt,.int .i64 (n+1)]) (fun A=>S A∧A<h.next) t rt:=IsT.keep Keeps.wr (fun A hA e=>hS A hA.1 e) t1
   have k2:Keeps (fun A=>A=K) h (g1.wr K [rt,.int .i64 (n+1)]):=Keeps.trans k1.keeps Keeps.wr fun _ _ e=>e
   generalize g1.wr K [rt,.int .i64 (n+1)]=g2 at *
   obtain⟨s1',g3,s2,g4,v5,t5,g5,c1,c2,c3,l0,l3,l4,l5,g6,st,v6,it6,w6,k6⟩:=tail g2 _ v2 t2 k2.next
   (repeat (first|refine zP ?_|refine zL ?_|refine zO ?_|refine zC ?_|refine zB ?_|refine zJ ?_|refine zK ?_|refine zM ?_|refine zF ?_|refine zH ?_|refine zG ?_|refine zI (by decide) ?_|refine zN ?_|((first|refine zE ?_|refine zQ ?_|refine zR rfl ?_|refine zD ?_);simp only[yq96.down,zA,lemS.down,lemC.down,zap,zao,zam,reduceIte,zan,zaq,zar,zas,zat,zau,zav,zaw,zax,reduceCtorEq,lemH.down,zAH,l1,hw1,s1,c1,c2,c3,l0,st,zFh])))
   refine⟨?_,?_,?_⟩
   ·(refine zAa rfl rfl rfl ?_ ?_<;>simp only[yq96.down,zA,lemS.down,lemC.down,zap,zao,zam,reduceIte,zan,zaq,zar,zas,zat,zau,zav,zaw,zax,reduceCtorEq,lemH.down,zAH,l0,l3,l4,l5,zAA,zz,zAB,z8,zw,Option.isSome_some])
   ·(refine zAa rfl rfl rfl ?_ ?_<;>simp only[yq96.down,zA,lemS.down,lemC.down,zap,zao,zam,reduceIte,zan,zaq,zar,zas,zat,zau,zav,zaw,zax,reduceCtorEq,lemH.down,zAH,l0,l3,l4,l5,zAA,zz,zAB,z8,zw,Option.isSome_some])
   (repeat (first|refine zP ?_|refine zL ?_|refine zO ?_|refine zC ?_|refine zB ?_|refine zJ ?_|refine zK ?_|refine zM ?_|refine zF ?_|refine zH ?_|refine zG ?_|refine zI (by decide) ?_|refine zN ?_|((first|refine zE ?_|refine zQ ?_|refine zR rfl ?_|refine zD ?_);simp only[yq96.down,zA,lemS.down,lemC.down,zap,zao,zam,reduceIte,zan,zaq,zar,zas,zat,zau,zav,zaw,zax,reduceCtorEq,lemH.down,zAH,l1,hw1,s1,c1,c2,c3,l0,st,zFh])))
   exact⟨.inr rfl,_,by simp only[yq96.down,zA,lemS.down,lemC.down,zap,zao,zam,reduceIte,zan,zaq,zar,zas,zat,zau,zav,zaw,zax,reduceCtorEq],_,_,t5,rfl,v6,it6,w6,by omega,k2.trans k6 fun _ _ e=>e⟩
  ·obtain⟨s1',g3,s2,g4,v5,t5,g5,c1,c2,c3,l0,l3,l4,l5,g6,st,v6,it6,w6,k6⟩:=tail g1 _ v1 t1 k1.next
   (repeat (first|refine zP ?_|refine zL ?_|refine zO ?_|refine zC ?_|refine zB ?_|refine zJ ?_|refine zK ?_|refine zM ?_|refine zF ?_|refine zH ?_|refine zG ?_|refine zI (by decide) ?_|refine zN ?_|((first|refine zE ?_|refine zQ ?_|refine zR rfl ?_|refine zD ?_);simp only[yq96.down,zA,lemS.down,lemC.down,zap,zao,zam,reduceIte,zan,zaq,zar,zas,zat,zau,zav,zaw,zax,reduceCtorEq,lemH.down,zAH,l1,hw1,s1,c1,c2,c3,l0,st,zFh])))
   refine⟨?_,?_,?_⟩
   ·(refine zAa rfl rfl rfl ?_ ?_<;>simp only[yq96.down,zA,lemS.down,lemC.down,zap,zao,zam,reduceIte,zan,zaq,zar,zas,zat,zau,zav,zaw,zax,reduceCtorEq,lemH.down,zAH,l0,l3,l4,l5,zAA,zz,zAB,z8,zw,Option.isSome_some])
   ·(refine zAa rfl rfl rfl ?_ ?_<;>simp only[yq96.down,zA,lemS.down,lemC.down,zap,zao,zam,reduceIte,zan,zaq,zar,zas,zat,zau,zav,zaw,zax,reduceCtorEq,lemH.down,zAH,l0,l3,l4,l5,zAA,zz,zAB,z8,zw,Option.isSome_some])
   (repeat (first|refine zP ?_|refine zL ?_|refine zO ?_|refine zC ?_|refine zB ?_|refine zJ ?_|refine zK ?_|refine zM ?_|refine zF ?_|refine zH ?_|refine zG ?_|refine zI (by decide) ?_|refine zN ?_|((first|refine zE ?_|refine zQ ?_|refine zR rfl ?_|refine zD ?_);simp only[yq96.down,zA,lemS.down,lemC.down,zap,zao,zam,reduceIte,zan,zaq,zar,zas,zat,zau,zav,zaw,zax,reduceCtorEq,lemH.down,zAH,l1,hw1,s1,c1,c2,c3,l0,st,zFh])))
   exact⟨.inr rfl,_,by simp only[yq96.down,zA,lemS.down,lemC.down,zap,zao,zam,reduceIte,zan,zaq,zar,zas,zat,zau,zav,zaw,zax,reduceCtorEq],_,_,t5,rfl,v6,it6,w6,by omega,Keeps.trans k1.keeps k6 fun _ _ e=>e⟩
 obtain⟨w,h',e,rt',n',t',rfl,r⟩:=this
 exact⟨rt',n',t',h',e,r⟩
end Go.X
end
