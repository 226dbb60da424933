/- Numbers and texts. -/
import Derived.Test.YtnppabpbdobaiaaGreatProg
import Derived.KernelRfl
import Derived.Test.YtnppabpbdobaiaaGreatXC
import Derived.Test.YtnppabpbdobaiaaGreatXH
set_option linter.unusedSimpArgs false
set_option linter.unusedVariables false
set_option maxHeartbeats 2000000
open Nat renaming reduceLeDiff → zeu, reduceEqDiff → zev, reduceAdd → zew
open Int renaming reduceBEq → zex, reduceLT → zey, reduceLE → zez, reduceGT → ze0, reduceGE → ze1, reduceEq → ze2, reduceAdd → ze3, reduceSub → ze4, reduceMul → ze5
section
namespace Go.X
open Go.Proofs
abbrev zQv:List XO:=[
 ⟨some 4,.p (.mov (C (.string (strOf [])))),none⟩]
def zQu:List XO:=zQv
theorem xq136_0e:E3 zQu zQv:=E3.rfl
abbrev zQx:List XO:=[
 ⟨some 5,.p (.mov (C (.slice none 0 0))),none⟩]
def zQw:List XO:=zQx
theorem xq136_1e:E3 zQw zQx:=E3.rfl
abbrev zQz:List XO:=[
 ⟨some 7,.p (.mov (T 1)),none⟩,
 ⟨some 8,.p (.minmax true (T 7) [(C (.int .i64 0))]),none⟩,
 ⟨some 9,.p (.minmax false (T 8) [(C (.int .i64 8))]),none⟩,
 ⟨some 10,.p (.mov (C (.int .i64 0))),none⟩]
def zQy:List XO:=zQz
theorem xq136_2e:E3 zQy zQz:=E3.rfl
abbrev zQ1:List XO:=[
 ⟨some 11,.p (.bin .lss (T 10) (T 9)),none⟩]
def zQ0:List XO:=zQ1
theorem xq136_3e:E3 zQ0 zQ1:=E3.rfl
abbrev zQ3:List XO:=[
 ⟨some 12,.p (.mov (T 10)),none⟩,
 ⟨some 6,.p (.mov (T 12)),none⟩]
def zQ2:List XO:=zQ3
theorem xq136_4e:E3 zQ2 zQ3:=E3.rfl
abbrev zQ5:List XO:=[
 ⟨some 13,.p (.mov (T 5)),none⟩,
 ⟨some 14,.p (.mov (T 0)),none⟩,
 ⟨some 15,.p (.mov (T 1)),none⟩,
 ⟨some 16,.p (.minmax false (T 15) [(C (.int .i64 8))]),none⟩,
 ⟨some 17,.p (.bin .sub (T 16) (C (.int .i64 1))),none⟩,
 ⟨some 18,.p (.mov (T 6)),none⟩,
 ⟨some 19,.p (.bin .sub (T 17) (T 18)),none⟩,
 ⟨some 20,.p (.bin .mul (C (.int .i64 8)) (T 19)),none⟩,
 ⟨some 21,.p (.bin .shr (T 14) (T 20)),none⟩,
 ⟨some 22,.p (.cint .u8 (T 21)),none⟩,
 ⟨some 23,.a (.bslice [(.int .u8 0)] 1 [(0,1,(T 22))]),none⟩,
 ⟨some 24,.e (.append 1 1 (T 13) (T 23)),none⟩,
 ⟨some 5,.p (.mov (T 24)),none⟩]
def zQ4:List XO:=zQ5
theorem xq136_5e:E3 zQ4 zQ5:=E3.rfl
abbrev zQ7:List XO:=[
 ⟨some 25,.p (.bin .add (T 10) (C (.int .i64 1))),none⟩,
 ⟨some 10,.p (.mov (T 25)),none⟩]
def zQ6:List XO:=zQ7
theorem xq136_6e:E3 zQ6 zQ7:=E3.rfl
def zJG:XC:=
 .seq (.ops zQ0) (.seq (.cond (T 11) (.skip) (.exit 0)) (.seq (.block 1 (.seq (.ops zQ2) (.ops zQ4))) (.ops zQ6)))
def zQ8:XC:=zJG
theorem xq136_7k {pr:Prog} {k:List KI} {Q:XE→Fr→Heap→Prop} {t:Fr} {h:Heap} (hw:wpk pr zJG k Q t h):wpk pr zQ8 k Q t h:=hw
abbrev zRA:List XO:=[
 ⟨some 26,.p (.mov (T 5)),none⟩,
 ⟨some 27,.r (.cb2s (T 26)),none⟩,
 ⟨some 4,.p (.mov (T 27)),none⟩]
def zQ9:List XO:=zRA
theorem xq136_8e:E3 zQ9 zRA:=E3.rfl
def xq136:XF:=⟨2,[.tmp 4],
 .seq (.ops zQu) (.seq (.ops zQw) (.seq (.seq (.ops zQy) (.block 0 (.loop zQ8))) (.seq (.ops zQ9) (.ret))))⟩
def yq136:=PLift.up (And.intro (And.intro (And.intro (@xq136_0e) (@xq136_1e)) (And.intro (@xq136_2e) (@xq136_3e))) (And.intro (And.intro (@xq136_4e) (@xq136_5e)) (And.intro (@xq136_6e) (@xq136_8e))))
theorem cq136:zg Tryz.prog Tryz.f136 = some xq136:=by kernel_rfl
abbrev zZe:List XO:=[
 ⟨some 0,.p (.mov (C (.pointer none))),none⟩]
def xq75_0:List XO:=zZe
theorem xq75_0e:E3 xq75_0 zZe:=E3.rfl
abbrev zZf:List XO:=[
 ⟨some 1,.p (.build [(.slice none 0 0)] []),none⟩,
 ⟨some 2,.a (.box (T 1)),none⟩,
 ⟨some 0,.p (.mov (T 2)),none⟩]
def xq75_1:List XO:=zZf
theorem xq75_1e:E3 xq75_1 zZf:=E3.rfl
def xq75:XF:=⟨0,[.tmp 0],
 .seq (.ops xq75_0) (.seq (.ops xq75_1) (.ret))⟩
def yq75:=PLift.up (And.intro (@xq75_0e) (@xq75_1e))
theorem cq75:zg Tryz.prog Tryz.f75 = some xq75:=by kernel_rfl
abbrev zRC:List XO:=[
 ⟨some 4,.p (.mov (T 0)),none⟩,
 ⟨some 5,.p (.eql true .nptr (T 4) (C (.pointer none))),none⟩]
def zRB:List XO:=zRC
theorem xq147_0e:E3 zRB zRC:=E3.rfl
abbrev zRE:List XO:=[
 ⟨some 6,.p (.mov (T 0)),none⟩,
 ⟨some 7,.p (.mov (T 0)),none⟩,
 ⟨some 8,.p (.nilc (T 7)),none⟩,
 ⟨some 9,.p (.faddr 0 (T 8)),none⟩,
 ⟨some 10,.r (.load1 (T 9)),none⟩,
 ⟨some 11,.p (.mov (T 1)),none⟩,
 ⟨some 12,.e (.append 1 1 (T 10) (T 11)),none⟩,
 ⟨some 13,.p (.nilc (T 6)),none⟩,
 ⟨some 14,.p (.faddr 0 (T 13)),none⟩,
 ⟨none,.e (.store 1 (T 14) (T 12)),none⟩]
def zRD:List XO:=zRE
theorem xq147_1e:E3 zRD zRE:=E3.rfl
def xq147:XF:=⟨2,[],
 .seq (.ops zRB) (.cond (T 5) (.ops zRD) (.skip))⟩
def yq147:=PLift.up (And.intro (@xq147_0e) (@xq147_1e))
theorem cq147:zg Tryz.prog Tryz.f147 = some xq147:=by kernel_rfl
abbrev zZo:List XO:=[
 ⟨some 6,.p (.mov (T 0)),none⟩,
 ⟨some 7,.p (.mov (T 1)),none⟩,
 ⟨some 8,.p (.mov (T 2)),none⟩,
 ⟨some 9,.call (.func 136) [(T 7),(T 8)],none⟩,
 ⟨some 10,.call (.func 147) [(T 6),(T 9)],none⟩]
def xq78_0:List XO:=zZo
theorem xq78_0e:E3 xq78_0 zZo:=E3.rfl
def xq78:XF:=⟨3,[],
 .ops xq78_0⟩
def yq78:=PLift.up (@xq78_0e)
theorem cq78:zg Tryz.prog Tryz.f78 = some xq78:=by kernel_rfl
abbrev zQt:List XO:=[
 ⟨some 4,.p (.mov (T 0)),none⟩,
 ⟨some 5,.p (.mov (T 1)),none⟩,
 ⟨some 6,.p (.minmax true (T 5) [(C (.int .i64 0))]),none⟩,
 ⟨some 7,.p (.cint .u64 (T 6)),none⟩,
 ⟨some 8,.call (.func 78) [(T 4),(T 7),(C (.int .i64 4))],none⟩]
def zQs:List XO:=zQt
theorem xq121_0e:E3 zQs zQt:=E3.rfl
def xq121:XF:=⟨2,[],
 .ops zQs⟩
def yq121:=PLift.up (@xq121_0e)
theorem cq121:zg Tryz.prog Tryz.f121 = some xq121:=by kernel_rfl
abbrev zZg:List XO:=[
 ⟨some 4,.p (.mov (T 0)),none⟩,
 ⟨some 5,.p (.mov (T 1)),none⟩,
 ⟨some 6,.p (.lenS (T 5)),none⟩,
 ⟨some 7,.call (.func 121) [(T 4),(T 6)],none⟩]
def xq76_0:List XO:=zZg
theorem xq76_0e:E3 xq76_0 zZg:=E3.rfl
abbrev zZh:List XO:=[
 ⟨some 8,.p (.mov (T 0)),none⟩,
 ⟨some 9,.p (.mov (T 1)),none⟩,
 ⟨some 10,.call (.func 147) [(T 8),(T 9)],none⟩]
def xq76_1:List XO:=zZh
theorem xq76_1e:E3 xq76_1 zZh:=E3.rfl
def xq76:XF:=⟨2,[],
 .seq (.ops xq76_0) (.ops xq76_1)⟩
def yq76:=PLift.up (And.intro (@xq76_0e) (@xq76_1e))
theorem cq76:zg Tryz.prog Tryz.f76 = some xq76:=by kernel_rfl
abbrev zZp:List XO:=[
 ⟨some 5,.a (.mkslice [(.int .u8 0)] 1 (C (.int .i64 32)) (C (.int .i64 32))),none⟩,
 ⟨some 4,.p (.mov (T 5)),none⟩]
def xq79_0:List XO:=zZp
theorem xq79_0e:E3 xq79_0 zZp:=E3.rfl
abbrev zZq:List XO:=[
 ⟨some 6,.p (.mov (T 4)),none⟩,
 ⟨some 7,.p (.mov (T 1)),none⟩,
 ⟨some 8,.e (.copy 1 (T 6) (T 7)),none⟩]
def xq79_1:List XO:=zZq
theorem xq79_1e:E3 xq79_1 zZq:=E3.rfl
abbrev zZr:List XO:=[
 ⟨some 9,.p (.mov (T 0)),none⟩,
 ⟨some 10,.p (.mov (T 4)),none⟩,
 ⟨some 11,.r (.cb2s (T 10)),none⟩,
 ⟨some 12,.call (.func 147) [(T 9),(T 11)],none⟩]
def xq79_2:List XO:=zZr
theorem xq79_2e:E3 xq79_2 zZr:=E3.rfl
def xq79:XF:=⟨2,[],
 .seq (.ops xq79_0) (.seq (.ops xq79_1) (.ops xq79_2))⟩
def yq79:=PLift.up (And.intro (@xq79_0e) (And.intro (@xq79_1e) (@xq79_2e)))
theorem cq79:zg Tryz.prog Tryz.f79 = some xq79:=by kernel_rfl
abbrev zZs:List XO:=[
 ⟨some 2,.p (.mov (C (.string (strOf [])))),none⟩]
def xq81_0:List XO:=zZs
theorem xq81_0e:E3 xq81_0 zZs:=E3.rfl
abbrev zZt:List XO:=[
 ⟨some 3,.p (.mov (T 0)),none⟩,
 ⟨some 4,.p (.eql false .nptr (T 3) (C (.pointer none))),none⟩]
def xq81_1:List XO:=zZt
theorem xq81_1e:E3 xq81_1 zZt:=E3.rfl
abbrev zZu:List XO:=[
 ⟨some 2,.p (.mov (C (.string (strOf [])))),none⟩]
def xq81_2:List XO:=zZu
theorem xq81_2e:E3 xq81_2 zZu:=E3.rfl
abbrev zZv:List XO:=[
 ⟨some 5,.p (.mov (T 0)),none⟩,
 ⟨some 6,.p (.nilc (T 5)),none⟩,
 ⟨some 7,.p (.faddr 0 (T 6)),none⟩,
 ⟨some 8,.r (.load1 (T 7)),none⟩,
 ⟨some 9,.r (.cb2s (T 8)),none⟩,
 ⟨some 2,.p (.mov (T 9)),none⟩]
def xq81_3:List XO:=zZv
theorem xq81_3e:E3 xq81_3 zZv:=E3.rfl
def xq81:XF:=⟨1,[.tmp 2],
 .seq (.ops xq81_0) (.seq (.seq (.ops xq81_1) (.cond (T 4) (.seq (.ops xq81_2) (.ret)) (.skip))) (.seq (.ops xq81_3) (.ret)))⟩
def yq81:=PLift.up (And.intro (And.intro (@xq81_0e) (@xq81_1e)) (And.intro (@xq81_2e) (@xq81_3e)))
theorem cq81:zg Tryz.prog Tryz.f81 = some xq81:=by kernel_rfl
abbrev zZw:List XO:=[
 ⟨some 2,.p (.mov (C (.pointer none))),none⟩]
def xq86_0:List XO:=zZw
theorem xq86_0e:E3 xq86_0 zZw:=E3.rfl
abbrev zZx:List XO:=[
 ⟨some 3,.p (.mov (T 0)),none⟩,
 ⟨some 4,.p (.build [(.string (strOf [])),(.int .i64 0),(.int .i64 0)] [(0,1,(T 3))]),none⟩,
 ⟨some 5,.a (.box (T 4)),none⟩,
 ⟨some 2,.p (.mov (T 5)),none⟩]
def xq86_1:List XO:=zZx
theorem xq86_1e:E3 xq86_1 zZx:=E3.rfl
def xq86:XF:=⟨1,[.tmp 2],
 .seq (.ops xq86_0) (.seq (.ops xq86_1) (.ret))⟩
def yq86:=PLift.up (And.intro (@xq86_0e) (@xq86_1e))
theorem cq86:zg Tryz.prog Tryz.f86 = some xq86:=by kernel_rfl
abbrev zaH:List XO:=[
 ⟨some 4,.p (.mov (C (.int .u64 0))),none⟩]
def xq89_0:List XO:=zaH
theorem xq89_0e:E3 xq89_0 zaH:=E3.rfl
abbrev zaJ:List XO:=[
 ⟨some 8,.p (.mov (T 0)),none⟩,
 ⟨some 9,.call (.func 109) [(T 8)],none⟩,
 ⟨some 10,.p (.eql false .int (T 9) (C (.int .i64 0))),none⟩,
 ⟨some 11,.p (.mov (T 10)),none⟩,
 ⟨some 12,.p (.mov (T 1)),some (11,true)⟩,
 ⟨some 13,.p (.bin .gtr (T 12) (C (.int .i64 8))),some (11,true)⟩,
 ⟨some 14,.p (.pick (T 11) (T 13) (C (.bool false))),none⟩]
def xq89_1:List XO:=zaJ
theorem xq89_1e:E3 xq89_1 zaJ:=E3.rfl
abbrev zaK:List XO:=[
 ⟨some 15,.p (.mov (T 0)),none⟩,
 ⟨some 16,.p (.nilc (T 15)),none⟩,
 ⟨some 17,.p (.faddr 2 (T 16)),none⟩,
 ⟨none,.e (.store 1 (T 17) (C (.int .i64 1))),none⟩]
def xq89_2:List XO:=zaK
theorem xq89_2e:E3 xq89_2 zaK:=E3.rfl
abbrev zaL:List XO:=[
 ⟨some 5,.p (.mov (C (.int .u64 0))),none⟩]
def xq89_3:List XO:=zaL
theorem xq89_3e:E3 xq89_3 zaL:=E3.rfl
abbrev zaM:List XO:=[
 ⟨some 18,.p (.mov (T 0)),none⟩,
 ⟨some 19,.p (.mov (T 1)),none⟩,
 ⟨some 20,.call (.func 150) [(T 18),(T 19)],none⟩,
 ⟨some 21,.a (.cs2b (T 20)),none⟩,
 ⟨some 22,.p (.lenV (T 21)),none⟩,
 ⟨some 23,.p (.mov (C (.int .i64 0))),none⟩]
def xq89_4:List XO:=zaM
theorem xq89_4e:E3 xq89_4 zaM:=E3.rfl
abbrev zaN:List XO:=[
 ⟨some 24,.p (.bin .lss (T 23) (T 22)),none⟩]
def xq89_5:List XO:=zaN
theorem xq89_5e:E3 xq89_5 zaN:=E3.rfl
abbrev zaO:List XO:=[
 ⟨some 25,.p (.iaddrS 1 (T 21) (T 23)),none⟩,
 ⟨some 26,.r (.load1 (T 25)),none⟩,
 ⟨some 7,.p (.mov (T 26)),none⟩]
def xq89_6:List XO:=zaO
theorem xq89_6e:E3 xq89_6 zaO:=E3.rfl
abbrev zaP:List XO:=[
 ⟨some 27,.p (.mov (T 5)),none⟩,
 ⟨some 28,.p (.bin .shl (T 27) (C (.int .u64 8))),none⟩,
 ⟨some 29,.p (.mov (T 7)),none⟩,
 ⟨some 30,.p (.cint .u64 (T 29)),none⟩,
 ⟨some 31,.p (.bin .or (T 28) (T 30)),none⟩,
 ⟨some 5,.p (.mov (T 31)),none⟩]
def xq89_7:List XO:=zaP
theorem xq89_7e:E3 xq89_7 zaP:=E3.rfl
abbrev zaQ:List XO:=[
 ⟨some 32,.p (.bin .add (T 23) (C (.int .i64 1))),none⟩,
 ⟨some 23,.p (.mov (T 32)),none⟩]
def xq89_8:List XO:=zaQ
theorem xq89_8e:E3 xq89_8 zaQ:=E3.rfl
def zJ6:XC:=
 .seq (.ops xq89_5) (.seq (.cond (T 24) (.skip) (.exit 0)) (.seq (.block 1 (.seq (.ops xq89_6) (.ops xq89_7))) (.ops xq89_8)))
def zJ5:XC:=zJ6
theorem xq89_9k {pr:Prog} {k:List KI} {Q:XE→Fr→Heap→Prop} {t:Fr} {h:Heap} (hw:wpk pr zJ6 k Q t h):wpk pr zJ5 k Q t h:=hw
abbrev zaI:List XO:=[
 ⟨some 33,.p (.mov (T 5)),none⟩,
 ⟨some 4,.p (.mov (T 33)),none⟩]
def zJ4:List XO:=zaI
theorem xq89_10e:E3 zJ4 zaI:=E3.rfl
def xq89:XF:=⟨2,[.tmp 4],
 .seq (.ops xq89_0) (.seq (.seq (.ops xq89_1) (.cond (T 14) (.ops xq89_2) (.skip))) (.seq (.ops xq89_3) (.seq (.seq (.ops xq89_4) (.block 0 (.loop zJ5))) (.seq (.ops zJ4) (.ret)))))⟩
def yq89:=PLift.up (And.intro (And.intro (And.intro (@xq89_0e) (@xq89_1e)) (And.intro (@xq89_2e) (And.intro (@xq89_3e) (@xq89_4e)))) (And.intro (And.intro (@xq89_5e) (@xq89_6e)) (And.intro (@xq89_7e) (And.intro (@xq89_8e) (@xq89_10e)))))
theorem cq89:zg Tryz.prog Tryz.f89 = some xq89:=by kernel_rfl
abbrev zRO:List XO:=[
 ⟨some 4,.p (.mov (C (.string (strOf [])))),none⟩]
def zRN:List XO:=zRO
theorem xq150_0e:E3 zRN zRO:=E3.rfl
abbrev zRS:List XO:=[
 ⟨some 6,.p (.mov (T 0)),none⟩,
 ⟨some 7,.call (.func 109) [(T 6)],none⟩,
 ⟨some 8,.p (.eql true .int (T 7) (C (.int .i64 0))),none⟩,
 ⟨some 5,.p (.mov (T 8)),none⟩]
def zRP:List XO:=zRS
theorem xq150_1e:E3 zRP zRS:=E3.rfl
abbrev zRU:List XO:=[
 ⟨some 4,.p (.mov (C (.string (strOf [])))),none⟩]
def zRT:List XO:=zRU
theorem xq150_2e:E3 zRT zRU:=E3.rfl
abbrev zRW:List XO:=[
 ⟨some 10,.p (.mov (T 1)),none⟩,
 ⟨some 11,.p (.bin .lss (T 10) (C (.int .i64 0))),none⟩,
 ⟨some 9,.p (.mov (T 11)),none⟩]
def zRV:List XO:=zRW
theorem xq150_3e:E3 zRV zRW:=E3.rfl
abbrev zRY:List XO:=[
 ⟨some 12,.p (.mov (T 0)),none⟩,
 ⟨some 13,.p (.nilc (T 12)),none⟩,
 ⟨some 14,.p (.faddr 2 (T 13)),none⟩,
 ⟨none,.e (.store 1 (T 14) (C (.int .i64 1))),none⟩]
def zRX:List XO:=zRY
theorem xq150_4e:E3 zRX zRY:=E3.rfl
abbrev zRa:List XO:=[
 ⟨some 4,.p (.mov (C (.string (strOf [])))),none⟩]
def zRZ:List XO:=zRa
theorem xq150_5e:E3 zRZ zRa:=E3.rfl
abbrev zRc:List XO:=[
 ⟨some 16,.p (.mov (T 1)),none⟩,
 ⟨some 17,.p (.mov (T 0)),none⟩,
 ⟨some 18,.p (.nilc (T 17)),none⟩,
 ⟨some 19,.p (.faddr 0 (T 18)),none⟩,
 ⟨some 20,.r (.load1 (T 19)),none⟩,
 ⟨some 21,.p (.lenS (T 20)),none⟩,
 ⟨some 22,.p (.mov (T 0)),none⟩,
 ⟨some 23,.p (.nilc (T 22)),none⟩,
 ⟨some 24,.p (.faddr 1 (T 23)),none⟩,
 ⟨some 25,.r (.load1 (T 24)),none⟩,
 ⟨some 26,.p (.bin .sub (T 21) (T 25)),none⟩,
 ⟨some 27,.p (.bin .gtr (T 16) (T 26)),none⟩,
 ⟨some 15,.p (.mov (T 27)),none⟩]
def zRb:List XO:=zRc
theorem xq150_6e:E3 zRb zRc:=E3.rfl
abbrev zRe:List XO:=[
 ⟨some 28,.p (.mov (T 0)),none⟩,
 ⟨some 29,.p (.nilc (T 28)),none⟩,
 ⟨some 30,.p (.faddr 2 (T 29)),none⟩,
 ⟨none,.e (.store 1 (T 30) (C (.int .i64 4))),none⟩]
def zRd:List XO:=zRe
theorem xq150_7e:E3 zRd zRe:=E3.rfl
abbrev zRg:List XO:=[
 ⟨some 4,.p (.mov (C (.string (strOf [])))),none⟩]
def zRf:List XO:=zRg
theorem xq150_8e:E3 zRf zRg:=E3.rfl
abbrev zRi:List XO:=[
 ⟨some 31,.p (.mov (T 0)),none⟩,
 ⟨some 32,.p (.nilc (T 31)),none⟩,
 ⟨some 33,.p (.faddr 1 (T 32)),none⟩,
 ⟨some 34,.r (.load1 (T 33)),none⟩,
 ⟨some 35,.p (.mov (T 1)),none⟩,
 ⟨some 36,.p (.bin .add (T 34) (T 35)),none⟩,
 ⟨some 37,.p (.nilc (T 31)),none⟩,
 ⟨some 38,.p (.faddr 1 (T 37)),none⟩,
 ⟨none,.e (.store 1 (T 38) (T 36)),none⟩]
def zRh:List XO:=zRi
theorem xq150_9e:E3 zRh zRi:=E3.rfl
abbrev zRR:List XO:=[
 ⟨some 39,.p (.mov (T 0)),none⟩,
 ⟨some 40,.p (.nilc (T 39)),none⟩,
 ⟨some 41,.p (.faddr 0 (T 40)),none⟩,
 ⟨some 42,.r (.load1 (T 41)),none⟩,
 ⟨some 43,.p (.mov (T 0)),none⟩,
 ⟨some 44,.p (.nilc (T 43)),none⟩,
 ⟨some 45,.p (.faddr 1 (T 44)),none⟩,
 ⟨some 46,.r (.load1 (T 45)),none⟩,
 ⟨some 47,.p (.mov (T 1)),none⟩,
 ⟨some 48,.p (.bin .sub (T 46) (T 47)),none⟩,
 ⟨some 49,.p (.mov (T 0)),none⟩,
 ⟨some 50,.p (.nilc (T 49)),none⟩,
 ⟨some 51,.p (.faddr 1 (T 50)),none⟩,
 ⟨some 52,.r (.load1 (T 51)),none⟩,
 ⟨some 53,.p (.slcS (T 42) (some (T 48)) (some (T 52))),none⟩,
 ⟨some 4,.p (.mov (T 53)),none⟩]
def zRQ:List XO:=zRR
theorem zdN:E3 zRQ zRR:=E3.rfl
def xq150:XF:=⟨2,[.tmp 4],
 .seq (.ops zRN) (.seq (.block 0 (.seq (.ops zRP) (.cond (T 5) (.seq (.ops zRT) (.ret)) (.seq (.ops zRV) (.cond (T 9) (.seq (.ops zRX) (.seq (.ops zRZ) (.ret))) (.seq (.draw zRb []) (.cond (T 15) (.seq (.ops zRd) (.seq (.ops zRf) (.ret))) (.skip)))))))) (.seq (.ops zRh) (.seq (.draw zRQ []) (.ret))))⟩
def yq150:=PLift.up (And.intro (And.intro (And.intro (@xq150_0e) (@xq150_1e)) (And.intro (@xq150_2e) (And.intro (@xq150_3e) (@xq150_4e)))) (And.intro (And.intro (@xq150_5e) (And.intro (@xq150_6e) (@xq150_7e))) (And.intro (@xq150_8e) (And.intro (@xq150_9e) (@zdN)))))
theorem cq150:zg Tryz.prog Tryz.f150 = some xq150:=by kernel_rfl
abbrev zO0:List XO:=[
 ⟨some 4,.p (.mov (C (.int .i64 0))),none⟩]
def zOz:List XO:=zO0
theorem xq108_0e:E3 zOz zO0:=E3.rfl
abbrev zO2:List XO:=[
 ⟨some 7,.p (.mov (T 0)),none⟩,
 ⟨some 8,.call (.func 149) [(T 7)],none⟩,
 ⟨some 5,.p (.mov (T 8)),none⟩]
def zO1:List XO:=zO2
theorem xq108_1e:E3 zO1 zO2:=E3.rfl
abbrev zO4:List XO:=[
 ⟨some 9,.p (.mov (T 0)),none⟩,
 ⟨some 10,.call (.func 89) [(T 9),(C (.int .i64 4))],none⟩,
 ⟨some 6,.p (.mov (T 10)),none⟩]
def zO3:List XO:=zO4
theorem xq108_2e:E3 zO3 zO4:=E3.rfl
abbrev zO6:List XO:=[
 ⟨some 11,.p (.mov (T 0)),none⟩,
 ⟨some 12,.call (.func 109) [(T 11)],none⟩,
 ⟨some 13,.p (.eql true .int (T 12) (C (.int .i64 0))),none⟩]
def zO5:List XO:=zO6
theorem xq108_3e:E3 zO5 zO6:=E3.rfl
abbrev zO8:List XO:=[
 ⟨some 4,.p (.mov (C (.int .i64 0))),none⟩]
def zO7:List XO:=zO8
theorem xq108_4e:E3 zO7 zO8:=E3.rfl
abbrev zPA:List XO:=[
 ⟨some 14,.p (.mov (T 1)),none⟩,
 ⟨some 15,.p (.bin .lss (T 14) (C (.int .i64 0))),none⟩,
 ⟨some 16,.p (.mov (T 15)),none⟩,
 ⟨some 17,.p (.mov (T 6)),some (16,false)⟩,
 ⟨some 18,.p (.mov (T 1)),some (16,false)⟩,
 ⟨some 19,.p (.cint .u64 (T 18)),some (16,false)⟩,
 ⟨some 20,.p (.bin .gtr (T 17) (T 19)),some (16,false)⟩,
 ⟨some 21,.p (.pick (T 16) (C (.bool true)) (T 20)),none⟩]
def zO9:List XO:=zPA
theorem xq108_5e:E3 zO9 zPA:=E3.rfl
abbrev zPC:List XO:=[
 ⟨some 22,.p (.mov (T 0)),none⟩,
 ⟨some 23,.p (.mov (T 0)),none⟩,
 ⟨some 24,.p (.mov (T 5)),none⟩,
 ⟨some 25,.p (.nilc (T 22)),none⟩,
 ⟨some 26,.p (.faddr 1 (T 25)),none⟩,
 ⟨none,.e (.store 1 (T 26) (T 24)),none⟩,
 ⟨some 27,.p (.nilc (T 23)),none⟩,
 ⟨some 28,.p (.faddr 2 (T 27)),none⟩,
 ⟨none,.e (.store 1 (T 28) (C (.int .i64 3))),none⟩]
def zPB:List XO:=zPC
theorem xq108_6e:E3 zPB zPC:=E3.rfl
abbrev zPE:List XO:=[
 ⟨some 4,.p (.mov (C (.int .i64 0))),none⟩]
def zPD:List XO:=zPE
theorem xq108_7e:E3 zPD zPE:=E3.rfl
abbrev zPG:List XO:=[
 ⟨some 29,.p (.mov (T 6)),none⟩,
 ⟨some 30,.p (.cint .i64 (T 29)),none⟩,
 ⟨some 4,.p (.mov (T 30)),none⟩]
def zPF:List XO:=zPG
theorem xq108_8e:E3 zPF zPG:=E3.rfl
def xq108:XF:=⟨2,[.tmp 4],
 .seq (.ops zOz) (.seq (.ops zO1) (.seq (.ops zO3) (.seq (.seq (.ops zO5) (.cond (T 13) (.seq (.ops zO7) (.ret)) (.skip))) (.seq (.seq (.ops zO9) (.cond (T 21) (.seq (.ops zPB) (.seq (.ops zPD) (.ret))) (.skip))) (.seq (.ops zPF) (.ret))))))⟩
def yq108:=PLift.up (And.intro (And.intro (And.intro (@xq108_0e) (@xq108_1e)) (And.intro (@xq108_2e) (@xq108_3e))) (And.intro (And.intro (@xq108_4e) (@xq108_5e)) (And.intro (@xq108_6e) (And.intro (@xq108_7e) (@xq108_8e)))))
theorem cq108:zg Tryz.prog Tryz.f108 = some xq108:=by kernel_rfl
abbrev zZy:List XO:=[
 ⟨some 4,.p (.mov (C (.string (strOf [])))),none⟩]
def xq87_0:List XO:=zZy
theorem xq87_0e:E3 xq87_0 zZy:=E3.rfl
abbrev zZz:List XO:=[
 ⟨some 7,.p (.mov (T 0)),none⟩,
 ⟨some 8,.call (.func 149) [(T 7)],none⟩,
 ⟨some 5,.p (.mov (T 8)),none⟩]
def xq87_1:List XO:=zZz
theorem xq87_1e:E3 xq87_1 zZz:=E3.rfl
abbrev zZ0:List XO:=[
 ⟨some 9,.p (.mov (T 0)),none⟩,
 ⟨some 10,.p (.mov (T 0)),none⟩,
 ⟨some 11,.p (.mov (T 1)),none⟩,
 ⟨some 12,.call (.func 108) [(T 10),(T 11)],none⟩,
 ⟨some 13,.call (.func 150) [(T 9),(T 12)],none⟩,
 ⟨some 6,.p (.mov (T 13)),none⟩]
def xq87_2:List XO:=zZ0
theorem xq87_2e:E3 xq87_2 zZ0:=E3.rfl
abbrev zZ1:List XO:=[
 ⟨some 14,.p (.mov (T 0)),none⟩,
 ⟨some 15,.call (.func 109) [(T 14)],none⟩,
 ⟨some 16,.p (.eql true .int (T 15) (C (.int .i64 0))),none⟩,
 ⟨some 17,.p (.mov (T 16)),none⟩,
 ⟨some 18,.p (.mov (T 0)),some (17,true)⟩,
 ⟨some 19,.p (.eql true .nptr (T 18) (C (.pointer none))),some (17,true)⟩,
 ⟨some 20,.p (.pick (T 17) (T 19) (C (.bool false))),none⟩]
def xq87_3:List XO:=zZ1
theorem xq87_3e:E3 xq87_3 zZ1:=E3.rfl
abbrev zZ2:List XO:=[
 ⟨some 21,.p (.mov (T 0)),none⟩,
 ⟨some 22,.p (.mov (T 5)),none⟩,
 ⟨some 23,.p (.nilc (T 21)),none⟩,
 ⟨some 24,.p (.faddr 1 (T 23)),none⟩,
 ⟨none,.e (.store 1 (T 24) (T 22)),none⟩]
def xq87_4:List XO:=zZ2
theorem xq87_4e:E3 xq87_4 zZ2:=E3.rfl
abbrev zZ3:List XO:=[
 ⟨some 25,.p (.mov (T 6)),none⟩,
 ⟨some 4,.p (.mov (T 25)),none⟩]
def xq87_5:List XO:=zZ3
theorem xq87_5e:E3 xq87_5 zZ3:=E3.rfl
def xq87:XF:=⟨2,[.tmp 4],
 .seq (.ops xq87_0) (.seq (.ops xq87_1) (.seq (.ops xq87_2) (.seq (.seq (.ops xq87_3) (.cond (T 20) (.ops xq87_4) (.skip))) (.seq (.ops xq87_5) (.ret)))))⟩
def yq87:=PLift.up (And.intro (And.intro (@xq87_0e) (And.intro (@xq87_1e) (@xq87_2e))) (And.intro (@xq87_3e) (And.intro (@xq87_4e) (@xq87_5e))))
theorem cq87:zg Tryz.prog Tryz.f87 = some xq87:=by kernel_rfl
abbrev zaU:List XO:=[
 ⟨some 2,.p (.mov (C (.string (strOf [])))),none⟩]
def xq90_0:List XO:=zaU
theorem xq90_0e:E3 xq90_0 zaU:=E3.rfl
abbrev zaV:List XO:=[
 ⟨some 3,.p (.mov (T 0)),none⟩,
 ⟨some 4,.call (.func 150) [(T 3),(C (.int .i64 32))],none⟩,
 ⟨some 2,.p (.mov (T 4)),none⟩]
def xq90_1:List XO:=zaV
theorem xq90_1e:E3 xq90_1 zaV:=E3.rfl
def xq90:XF:=⟨1,[.tmp 2],
 .seq (.ops xq90_0) (.seq (.ops xq90_1) (.ret))⟩
def yq90:=PLift.up (And.intro (@xq90_0e) (@xq90_1e))
theorem cq90:zg Tryz.prog Tryz.f90 = some xq90:=by kernel_rfl
abbrev zaW:List XO:=[
 ⟨some 2,.p (.mov (C (.int .i64 0))),none⟩]
def xq91_0:List XO:=zaW
theorem xq91_0e:E3 xq91_0 zaW:=E3.rfl
abbrev zaX:List XO:=[
 ⟨some 3,.p (.mov (T 0)),none⟩,
 ⟨some 4,.call (.func 152) [(T 3)],none⟩,
 ⟨some 5,.p (.bin .gtr (T 4) (C (.int .i64 0))),none⟩]
def xq91_1:List XO:=zaX
theorem xq91_1e:E3 xq91_1 zaX:=E3.rfl
abbrev zaY:List XO:=[
 ⟨some 6,.p (.mov (T 0)),none⟩,
 ⟨some 7,.call (.func 151) [(T 6),(C (.int .i64 5))],none⟩]
def xq91_2:List XO:=zaY
theorem xq91_2e:E3 xq91_2 zaY:=E3.rfl
abbrev zaZ:List XO:=[
 ⟨some 8,.p (.mov (T 0)),none⟩,
 ⟨some 9,.call (.func 109) [(T 8)],none⟩,
 ⟨some 2,.p (.mov (T 9)),none⟩]
def xq91_3:List XO:=zaZ
theorem xq91_3e:E3 xq91_3 zaZ:=E3.rfl
def xq91:XF:=⟨1,[.tmp 2],
 .seq (.ops xq91_0) (.seq (.seq (.ops xq91_1) (.cond (T 5) (.ops xq91_2) (.skip))) (.seq (.ops xq91_3) (.ret)))⟩
def yq91:=PLift.up (And.intro (And.intro (@xq91_0e) (@xq91_1e)) (And.intro (@xq91_2e) (@xq91_3e)))
theorem cq91:zg Tryz.prog Tryz.f91 = some xq91:=by kernel_rfl
abbrev zRk:List XO:=[
 ⟨some 4,.p (.mov (T 0)),none⟩,
 ⟨some 5,.p (.eql true .nptr (T 4) (C (.pointer none))),none⟩,
 ⟨some 6,.p (.mov (T 5)),none⟩,
 ⟨some 7,.p (.mov (T 0)),some (6,true)⟩,
 ⟨some 8,.p (.nilc (T 7)),some (6,true)⟩,
 ⟨some 9,.p (.faddr 2 (T 8)),some (6,true)⟩,
 ⟨some 10,.r (.load1 (T 9)),some (6,true)⟩,
 ⟨some 11,.p (.eql false .int (T 10) (C (.int .i64 0))),some (6,true)⟩,
 ⟨some 12,.p (.pick (T 6) (T 11) (C (.bool false))),none⟩]
def zRj:List XO:=zRk
theorem xq151_0e:E3 zRj zRk:=E3.rfl
abbrev zRm:List XO:=[
 ⟨some 13,.p (.mov (T 0)),none⟩,
 ⟨some 14,.p (.mov (T 1)),none⟩,
 ⟨some 15,.p (.nilc (T 13)),none⟩,
 ⟨some 16,.p (.faddr 2 (T 15)),none⟩,
 ⟨none,.e (.store 1 (T 16) (T 14)),none⟩]
def zRl:List XO:=zRm
theorem xq151_1e:E3 zRl zRm:=E3.rfl
def xq151:XF:=⟨2,[],
 .seq (.ops zRj) (.cond (T 12) (.ops zRl) (.skip))⟩
def yq151:=PLift.up (And.intro (@xq151_0e) (@xq151_1e))
theorem cq151:zg Tryz.prog Tryz.f151 = some xq151:=by kernel_rfl
abbrev zRo:List XO:=[
 ⟨some 2,.p (.mov (C (.int .i64 0))),none⟩]
def zRn:List XO:=zRo
theorem xq152_0e:E3 zRn zRo:=E3.rfl
abbrev zRq:List XO:=[
 ⟨some 3,.p (.mov (T 0)),none⟩,
 ⟨some 4,.p (.eql false .nptr (T 3) (C (.pointer none))),none⟩]
def zRp:List XO:=zRq
theorem xq152_1e:E3 zRp zRq:=E3.rfl
abbrev zRs:List XO:=[
 ⟨some 2,.p (.mov (C (.int .i64 0))),none⟩]
def zRr:List XO:=zRs
theorem xq152_2e:E3 zRr zRs:=E3.rfl
abbrev zRu:List XO:=[
 ⟨some 5,.p (.mov (T 0)),none⟩,
 ⟨some 6,.p (.nilc (T 5)),none⟩,
 ⟨some 7,.p (.faddr 0 (T 6)),none⟩,
 ⟨some 8,.r (.load1 (T 7)),none⟩,
 ⟨some 9,.p (.lenS (T 8)),none⟩,
 ⟨some 10,.p (.mov (T 0)),none⟩,
 ⟨some 11,.p (.nilc (T 10)),none⟩,
 ⟨some 12,.p (.faddr 1 (T 11)),none⟩,
 ⟨some 13,.r (.load1 (T 12)),none⟩,
 ⟨some 14,.p (.bin .sub (T 9) (T 13)),none⟩,
 ⟨some 2,.p (.mov (T 14)),none⟩]
def zRt:List XO:=zRu
theorem xq152_3e:E3 zRt zRu:=E3.rfl
def xq152:XF:=⟨1,[.tmp 2],
 .seq (.ops zRn) (.seq (.seq (.ops zRp) (.cond (T 4) (.seq (.ops zRr) (.ret)) (.skip))) (.seq (.draw zRt []) (.ret)))⟩
def yq152:=PLift.up (And.intro (And.intro (@xq152_0e) (@xq152_1e)) (And.intro (@xq152_2e) (@xq152_3e)))
theorem cq152:zg Tryz.prog Tryz.f152 = some xq152:=by kernel_rfl
abbrev zPI:List XO:=[
 ⟨some 2,.p (.mov (C (.int .i64 0))),none⟩]
def zPH:List XO:=zPI
theorem xq109_0e:E3 zPH zPI:=E3.rfl
abbrev zPK:List XO:=[
 ⟨some 3,.p (.mov (T 0)),none⟩,
 ⟨some 4,.p (.eql false .nptr (T 3) (C (.pointer none))),none⟩]
def zPJ:List XO:=zPK
theorem xq109_1e:E3 zPJ zPK:=E3.rfl
abbrev zPM:List XO:=[
 ⟨some 2,.p (.mov (C (.int .i64 1))),none⟩]
def zPL:List XO:=zPM
theorem xq109_2e:E3 zPL zPM:=E3.rfl
abbrev zPO:List XO:=[
 ⟨some 5,.p (.mov (T 0)),none⟩,
 ⟨some 6,.p (.nilc (T 5)),none⟩,
 ⟨some 7,.p (.faddr 2 (T 6)),none⟩,
 ⟨some 8,.r (.load1 (T 7)),none⟩,
 ⟨some 2,.p (.mov (T 8)),none⟩]
def zPN:List XO:=zPO
theorem xq109_3e:E3 zPN zPO:=E3.rfl
def xq109:XF:=⟨1,[.tmp 2],
 .seq (.ops zPH) (.seq (.seq (.ops zPJ) (.cond (T 4) (.seq (.ops zPL) (.ret)) (.skip))) (.seq (.ops zPN) (.ret)))⟩
def yq109:=PLift.up (And.intro (And.intro (@xq109_0e) (@xq109_1e)) (And.intro (@xq109_2e) (@xq109_3e)))
theorem cq109:zg Tryz.prog Tryz.f109 = some xq109:=by kernel_rfl
abbrev zRG:List XO:=[
 ⟨some 2,.p (.mov (C (.int .i64 0))),none⟩]
def zRF:List XO:=zRG
theorem xq149_0e:E3 zRF zRG:=E3.rfl
abbrev zRI:List XO:=[
 ⟨some 3,.p (.mov (T 0)),none⟩,
 ⟨some 4,.p (.eql false .nptr (T 3) (C (.pointer none))),none⟩]
def zRH:List XO:=zRI
theorem xq149_1e:E3 zRH zRI:=E3.rfl
abbrev zRK:List XO:=[
 ⟨some 2,.p (.mov (C (.int .i64 0))),none⟩]
def zRJ:List XO:=zRK
theorem xq149_2e:E3 zRJ zRK:=E3.rfl
abbrev zRM:List XO:=[
 ⟨some 5,.p (.mov (T 0)),none⟩,
 ⟨some 6,.p (.nilc (T 5)),none⟩,
 ⟨some 7,.p (.faddr 1 (T 6)),none⟩,
 ⟨some 8,.r (.load1 (T 7)),none⟩,
 ⟨some 2,.p (.mov (T 8)),none⟩]
def zRL:List XO:=zRM
theorem xq149_3e:E3 zRL zRM:=E3.rfl
def xq149:XF:=⟨1,[.tmp 2],
 .seq (.ops zRF) (.seq (.seq (.ops zRH) (.cond (T 4) (.seq (.ops zRJ) (.ret)) (.skip))) (.seq (.ops zRL) (.ret)))⟩
def yq149:=PLift.up (And.intro (And.intro (@xq149_0e) (@xq149_1e)) (And.intro (@xq149_2e) (@xq149_3e)))
theorem cq149:zg Tryz.prog Tryz.f149 = some xq149:=by kernel_rfl
end Go.X
end
section
open Go Go.X
namespace Go.X
set_option linter.unusedVariables false
def numB (n k:Nat):List UInt8:=(List.range k).map fun i=>UInt8.ofNat (n >>> (8 * (k - 1 - i)))
theorem zAH (n k:Nat):(numB n k).length = k:=by simp [numB]
def mmV (isMax:Bool) (x:Value):List Value→Option Value
 | []=>some x
 | y :: ys=>match mm isMax x y with|some z=>mmV isMax z ys|none=>none
theorem zIP {t:Fr} {b:Bool} {x:Operand} {xs:List Operand}:zV t (.minmax b x xs) = mmV b (t.eval x) (xs.map t.eval):=by
 simp only [zV]
 generalize t.eval x = v
 induction xs generalizing v with
 | nil=>rfl
 | cons y ys ih=>
  simp only [mms,List.map_cons,mmV]
  cases mm b v (t.eval y) with
  | none=>rfl
  | some z=>exact ih z
theorem mm_max {k:IntKind} {x y:Int}:mmV true (.int k x) [.int k y] = some (.int k (if y > x then y else x)):=by simp [mmV,mm]
theorem mm_min {k:IntKind} {x y:Int}:mmV false (.int k x) [.int k y] = some (.int k (if y < x then y else x)):=by simp [mmV,mm]
def zEg:List Value→Option Value
 | [.int .u64 n,.int .i64 k]=>if 0≤n∧n < 18446744073709551616∧0≤k∧k≤8 then some (.string (strOf (numB n.toNat k.toNat))) else none
 | _=>none
theorem wnum_ok (pr:Prog) (n k:Nat) (hn:n < 18446744073709551616) (hk:k≤8) (h:Heap):Comes pr xq136 [uw .u64 n,.int .i64 (k:Int)] h (.string (strOf (numB n k))):=by
 apply Comes.of
 unfold xq136
 dsimp only [zh]
 have m1:=mm_max (k:=.i64) (x:=(k:Int)) (y:=0)
 have m2:=mm_min (k:=.i64) (x:=(k:Int)) (y:=8)
 rw [if_neg (by omega)] at m1 m2
 (repeat (first|refine zS ?_|refine zK ?_|refine zR ?_|refine zD ?_|refine zB ?_|refine zI ?_|refine zJ ?_|refine zP ?_|refine zE ?_|refine zG ?_|refine zF ?_|refine zH (by decide) ?_|refine zQ ?_|((first|refine zC ?_|refine zM ?_|refine zO rfl rfl ?_|refine zN rfl ?_|refine zL ?_);simp only [yq136.down,zA,lemS.down,lemC.down,zex,zew,zeu,reduceIte,zev,zey,zez,ze0,ze1,ze2,ze3,ze4,ze5,reduceCtorEq,lemH.down,zIP,m1,m2])))
 have hl:∀ i,i≤k→((numB n k).take i).length = i:=fun i hi=>by rw [List.length_take,zAH];omega
 refine zAG (fun m t g=>∃ i v,m = k - i∧i≤k∧Own g (fun A=>h.next≤A) 1 v ((numB n k).take i).length (zW ((numB n k).take i))∧Grows h g∧t.get 0 = uw .u64 n∧t.get 1 = .int .i64 (k:Int)∧t.get 5 = v∧t.get 9 = .int .i64 (k:Int)∧t.get 10 = .int .i64 (i:Int)) ?_ k _ _ ⟨0,_,rfl,by omega,Own.nil,Grows.refl h,by simp only [yq136.down,zA,lemS.down,lemC.down,zex,zew,zeu,reduceIte,zev,zey,zez,ze0,ze1,ze2,ze3,ze4,ze5,reduceCtorEq],by simp only [yq136.down,zA,lemS.down,lemC.down,zex,zew,zeu,reduceIte,zev,zey,zez,ze0,ze1,ze2,ze3,ze4,ze5,reduceCtorEq],by simp only [yq136.down,zA,lemS.down,lemC.down,zex,zew,zeu,reduceIte,zev,zey,zez,ze0,ze1,ze2,ze3,ze4,ze5,reduceCtorEq],by simp only [yq136.down,zA,lemS.down,lemC.down,zex,zew,zeu,reduceIte,zev,zey,zez,ze0,ze1,ze2,ze3,ze4,ze5,reduceCtorEq],by (simp only [yq136.down,zA,lemS.down,lemC.down,zex,zew,zeu,reduceIte,zev,zey,zez,ze0,ze1,ze2,ze3,ze4,ze5,reduceCtorEq])<;>rfl⟩
 rintro m t g ⟨i,v,rfl,hi,gO,gg,t0,t1,t5,t9,t10⟩ hnext
 refine xq136_7k ?_
 dsimp only [zJG]
 (repeat (first|refine zS ?_|refine zK ?_|refine zR ?_|refine zD ?_|refine zB ?_|refine zI ?_|refine zJ ?_|refine zP ?_|refine zE ?_|refine zG ?_|refine zF ?_|refine zH (by decide) ?_|refine zQ ?_|((first|refine zC ?_|refine zM ?_|refine zO rfl rfl ?_|refine zN rfl ?_|refine zL ?_);simp only [yq136.down,zA,lemS.down,lemC.down,zex,zew,zeu,reduceIte,zev,zey,zez,ze0,ze1,ze2,ze3,ze4,ze5,reduceCtorEq,lemH.down,t0,t1,t5,t9,t10])))
 refine ⟨fun hlt=>?_,fun hge=>?_⟩
 ·have hi':i < k:=by omega
  have ww:IntKind.i64.wrap ((i:Int) + 1) = ((i + 1:Nat):Int):=by rw [wrap_i64 (by omega) (by omega)];omega
  have w1:IntKind.i64.wrap ((k:Int) - 1) = ((k - 1:Nat):Int):=by rw [wrap_i64 (by omega) (by omega)];omega
  have w2:IntKind.i64.wrap (((k - 1:Nat):Int) - (i:Int)) = ((k - 1 - i:Nat):Int):=by rw [wrap_i64 (by omega) (by omega)];omega
  have w3:IntKind.i64.wrap (8 * ((k - 1 - i:Nat):Int)) = ((8 * (k - 1 - i):Nat):Int):=by rw [wrap_i64 (by omega) (by omega)];omega
  have sh:=zIj (k':=.i64) (x:=n) (n:=8 * (k - 1 - i)) (by omega)
  rw [Nat.mod_eq_of_lt hn] at sh
  have hnx:=gg.next
  obtain⟨v',g2,e2,hO2,k2⟩:=gO.push (n >>> (8 * (k - 1 - i))) (by rw [hl i hi];unfold zU;omega) (fun A hA=>by show h.next≤A;omega)
  (repeat (first|refine zS ?_|refine zK ?_|refine zR ?_|refine zD ?_|refine zB ?_|refine zI ?_|refine zJ ?_|refine zP ?_|refine zE ?_|refine zG ?_|refine zF ?_|refine zH (by decide) ?_|refine zQ ?_|((first|refine zC ?_|refine zM ?_|refine zO rfl rfl ?_|refine zN rfl ?_|refine zL ?_);simp only [yq136.down,zA,lemS.down,lemC.down,zex,zew,zeu,reduceIte,zev,zey,zez,ze0,ze1,ze2,ze3,ze4,ze5,reduceCtorEq,lemH.down,lemW.down,t0,t1,t5,t9,t10,zIP,m2,w1,w2,w3,sh,e2,ww])))
  refine hnext (k - (i + 1)) _ _ (by omega) ⟨i + 1,v',rfl,by omega,?_,gg.then k2 (fun A hA=>by show ¬ (h.next≤A);omega),by simp only [yq136.down,zA,lemS.down,lemC.down,zex,zew,zeu,reduceIte,zev,zey,zez,ze0,ze1,ze2,ze3,ze4,ze5,reduceCtorEq,t0],by simp only [yq136.down,zA,lemS.down,lemC.down,zex,zew,zeu,reduceIte,zev,zey,zez,ze0,ze1,ze2,ze3,ze4,ze5,reduceCtorEq,t1],by simp only [yq136.down,zA,lemS.down,lemC.down,zex,zew,zeu,reduceIte,zev,zey,zez,ze0,ze1,ze2,ze3,ze4,ze5,reduceCtorEq],by simp only [yq136.down,zA,lemS.down,lemC.down,zex,zew,zeu,reduceIte,zev,zey,zez,ze0,ze1,ze2,ze3,ze4,ze5,reduceCtorEq,t9],by simp only [yq136.down,zA,lemS.down,lemC.down,zex,zew,zeu,reduceIte,zev,zey,zez,ze0,ze1,ze2,ze3,ze4,ze5,reduceCtorEq]⟩
  rw [List.take_succ_eq_append_getElem (by rw [zAH];exact hi')]
  have:(numB n k)[i]'(by rw [zAH];exact hi') = UInt8.ofNat (n >>> (8 * (k - 1 - i))):=by simp [numB]
  rw [this]
  exact hO2
 ·obtain rfl:i = k:=by omega
  rw [List.take_of_length_le (by rw [zAH];exact Nat.le_refl _)] at gO
  (repeat (first|refine zS ?_|refine zK ?_|refine zR ?_|refine zD ?_|refine zB ?_|refine zI ?_|refine zJ ?_|refine zP ?_|refine zE ?_|refine zG ?_|refine zF ?_|refine zH (by decide) ?_|refine zQ ?_|((first|refine zC ?_|refine zM ?_|refine zO rfl rfl ?_|refine zN rfl ?_|refine zL ?_);simp only [yq136.down,zA,lemS.down,lemC.down,zex,zew,zeu,reduceIte,zev,zey,zez,ze0,ze1,ze2,ze3,ze4,ze5,reduceCtorEq,lemH.down,t0,t1,t5,t9,t10,gO.cb2s])))
  exact⟨.inr rfl,by simp only [yq136.down,zA,lemS.down,lemC.down,zex,zew,zeu,reduceIte,zev,zey,zez,ze0,ze1,ze2,ze3,ze4,ze5,reduceCtorEq],gg⟩
end Go.X
end
section
open Go Go.X
namespace Go.X
set_option linter.unusedVariables false
def WrS (h:Heap) (W:Nat) (S:Nat→Prop) (b:List UInt8):Prop:=S W∧∃ v,Var h W [v]∧Own h (fun A=>S A∧A≠W) 1 v b.length (zW b)
def Wr (h:Heap) (W N:Nat) (b:List UInt8):Prop:=WrS h W (fun A=>N≤A) b
theorem WrS.keep {S K:Nat→Prop} {h h':Heap} {W:Nat} {b:List UInt8} (hw:WrS h W S b) (hk:Keeps K h h') (hK:∀ A,S A→¬ K A):WrS h' W S b:=by
 obtain⟨h1,v,h2,h3⟩:=hw
 exact⟨h1,v,h2.keep hk (hK W h1),h3.keep hk fun A hA=>hK A hA.1⟩
theorem WrS.grow {S:Nat→Prop} {h h':Heap} {W:Nat} {b:List UInt8} (hw:WrS h W S b) (hg:Grows h h'):WrS h' W S b:=hw.keep (K:=zER) hg.keeps (fun _ _=>id)
theorem WrS.mono {S S':Nat→Prop} {h:Heap} {W:Nat} {b:List UInt8} (hw:WrS h W S b) (hS:∀ A,A < h.next→S A→S' A):WrS h W S' b:=by
 obtain⟨h1,v,h2,h3⟩:=hw
 exact⟨hS W h2.1 h1,v,h2,h3.bound.mono fun A hA=>⟨hS A hA.2 hA.1.1,hA.1.2⟩⟩
theorem Wr.next {h:Heap} {W N:Nat} {b:List UInt8} (hw:Wr h W N b):∀ A,h.next≤A→N≤A:=fun A hA=>by
 obtain⟨h1,v,h2,h3⟩:=hw
 have:=h2.1
 show N≤A
 have:N≤W:=h1
 omega
theorem Wr.keep {K:Nat→Prop} {h h':Heap} {W N:Nat} {b:List UInt8} (hw:Wr h W N b) (hk:Keeps K h h') (hK:∀ A,N≤A→¬ K A):Wr h' W N b:=by
 obtain⟨h1,v,h2,h3⟩:=hw
 exact⟨h1,v,h2.keep hk (hK W h1),h3.keep hk fun A hA=>hK A hA.1⟩
theorem Wr.grow {h h':Heap} {W N:Nat} {b:List UInt8} (hw:Wr h W N b) (hg:Grows h h'):Wr h' W N b:=hw.keep (K:=zER) hg.keeps (fun _ _=>id)
theorem zI5 {args:List Value} {v:Value} (h:zEg args = some v):args.length = 2∧zAN v = true∧∀ pr h,Comes pr xq136 args h v:=by
 unfold zEg at h
 split at h
 ·rename_i n k
  split at h
  ·rename_i hc
   cases h
   refine ⟨rfl,rfl,fun pr h=>?_⟩
   have:=wnum_ok pr n.toNat k.toNat (by omega) (by omega) h
   rw [show (k.toNat:Int) = k by omega] at this
   have e:uw .u64 n.toNat = .int .u64 n:=by unfold uw;rw [zFX,Nat.mod_eq_of_lt (by omega)];congr 1;omega
   rw [e] at this
   exact this
  ·cases h
 ·cases h
theorem wnumS_at {n k:Nat} (hn:n < 18446744073709551616) (hk:k≤8):zEg [uw .u64 n,.int .i64 (OfNat.ofNat k)] = some (.string (strOf (numB n k))):=by
 have e:(OfNat.ofNat k:Int) = (k:Int):=rfl
 have e2:uw .u64 n = .int .u64 (n:Int):=(zBJ hn).symm
 rw [e2,e]
 simp only [zEg]
 rw [if_pos (by omega)]
 simp
structure zAL (pr:Prog):Prop where
 num:pr.prim 136 = some (zf zEg)
 newW:pr.prim 75 = none
 newWC:pr.code 75 = some xq75
 wb:pr.prim 147 = none
 wbC:pr.code 147 = some xq147
 wn:pr.prim 78 = none
 wnC:pr.code 78 = some xq78
 wc:pr.prim 121 = none
 wcC:pr.code 121 = some xq121
 wt:pr.prim 76 = none
 wtC:pr.code 76 = some xq76
 wh:pr.prim 79 = none
 whC:pr.code 79 = some xq79
 wa:pr.prim 81 = none
 waC:pr.code 81 = some xq81
 newR:pr.prim 86 = none
 newRC:pr.code 86 = some xq86
 rn:pr.prim 89 = none
 rnC:pr.code 89 = some xq89
 rb:pr.prim 150 = none
 rbC:pr.code 150 = some xq150
 rc:pr.prim 108 = none
 rcC:pr.code 108 = some xq108
 rt:pr.prim 87 = none
 rtC:pr.code 87 = some xq87
 rh:pr.prim 90 = none
 rhC:pr.code 90 = some xq90
 re:pr.prim 91 = none
 reC:pr.code 91 = some xq91
 rf:pr.prim 151 = none
 rfC:pr.code 151 = some xq151
 rl:pr.prim 152 = none
 rlC:pr.code 152 = some xq152
 rr:pr.prim 109 = none
 rrC:pr.code 109 = some xq109
 ra:pr.prim 149 = none
 raC:pr.code 149 = some xq149
theorem zJ8 {pr:Prog} (T:zAL pr) (h:Heap):∃ h',cfi pr 75 [] h = some (.pointer (some ⟨h.next,0,none⟩),h')∧Wr h' h.next h.next []∧Grows h h':=by
 have:∃ v h',cfi pr 75 [] h = some (v,h')∧v = .pointer (some ⟨h.next,0,none⟩)∧Wr h' h.next h.next []∧Grows h h':=by
  refine zAA T.newW T.newWC rfl ?_
  unfold xq75
  dsimp only [zh]
  refine wpk.out (k:=[]) ?_
  have hz:aggV (zAB [.slice none 0 0] []) = some (.agg [Value.slice none 0 0].toArray):=rfl
  (repeat (first|refine zS ?_|refine zK ?_|refine zR ?_|refine zD ?_|refine zB ?_|refine zI ?_|refine zJ ?_|refine zP ?_|refine zE ?_|refine zG ?_|refine zF ?_|refine zH (by decide) ?_|refine zQ ?_|((first|refine zC ?_|refine zM ?_|refine zO rfl rfl ?_|refine zN rfl ?_|refine zL ?_);simp only [yq75.down,zA,lemS.down,lemC.down,zex,zew,zeu,reduceIte,zev,zey,zez,ze0,ze1,ze2,ze3,ze4,ze5,reduceCtorEq,lemH.down,hz])))
  exact⟨.inr rfl,_,rfl,by simp only [yq75.down,zA,lemS.down,lemC.down,zex,zew,zeu,reduceIte,zev,zey,zez,ze0,ze1,ze2,ze3,ze4,ze5,reduceCtorEq],⟨Nat.le_refl _,_,Var.new_self,Own.nil⟩,Grows.new⟩
 obtain⟨v,h',e,rfl,r⟩:=this
 exact⟨h',e,r⟩
theorem zG1 {pr:Prog} (T:zAL pr) {h:Heap} {W:Nat} {S:Nat→Prop} {b:List UInt8} (hw:WrS h W S b) (hS:∀ A,h.next≤A→S A) (s:List UInt8) (hroom:b.length + s.length≤zU) :
  ∃ h',cfi pr 147 [.pointer (some ⟨W,0,none⟩),.string (strOf s)] h = some (.tuple #[],h')∧WrS h' W S (b ++ s)∧Keeps S h h':=by
 have:∃ v h',cfi pr 147 [.pointer (some ⟨W,0,none⟩),.string (strOf s)] h = some (v,h')∧v = .tuple #[]∧WrS h' W S (b ++ s)∧Keeps S h h':=by
  refine zAA T.wb T.wbC rfl ?_
  unfold xq147
  dsimp only [zh]
  refine wpk.out (k:=[]) ?_
  obtain⟨hN,v,hV,hO⟩:=hw
  have hlt:=hV.1
  obtain⟨v2,h2,e2,hO2,k2⟩:=hO.append (bytes:=1) (m:=s.length) (new:=zW s) (by simp [zCF]) zEt (by decide) (by decide) (by omega)
  have hV2:=hV.keep k2 (fun e=>e.2 rfl)
  have st:=hO2.store (i:=0) hV2 (by simp)
  simp only [List.set_cons_zero] at st
  (repeat (first|refine zS ?_|refine zK ?_|refine zR ?_|refine zD ?_|refine zB ?_|refine zI ?_|refine zJ ?_|refine zP ?_|refine zE ?_|refine zG ?_|refine zF ?_|refine zH (by decide) ?_|refine zQ ?_|((first|refine zC ?_|refine zM ?_|refine zO rfl rfl ?_|refine zN rfl ?_|refine zL ?_);simp only [yq147.down,zA,lemS.down,lemC.down,zex,zew,zeu,reduceIte,zev,zey,zez,ze0,ze1,ze2,ze3,ze4,ze5,reduceCtorEq,lemH.down,zCG,hV.load,List.getElem?_cons_zero,e2,st])))
  refine ⟨.inl rfl,_,rfl,rfl,⟨hN,v2,hV2.wr,?_⟩,(k2.mono fun A _ e=>e.1).trans Keeps.wr (fun A _ e=>e ▸ hN)⟩
  rw [List.length_append,zCu]
  refine (hO2.mono fun A hA=>?_).keep Keeps.wr (fun A hA=>hA.2)
  rcases hA with hA|hA
  ·exact hA
  ·exact⟨hS A (by omega),by omega⟩
 obtain⟨v,h',e,rfl,r⟩:=this
 exact⟨h',e,r⟩
theorem zCB {pr:Prog} (T:zAL pr) {h:Heap} {W:Nat} {S:Nat→Prop} {b:List UInt8} (hw:WrS h W S b) (hS:∀ A,h.next≤A→S A) (n k:Nat) (hn:n < 18446744073709551616) (hk:k≤8) (hroom:b.length + 8≤zU) :
  ∃ h',cfi pr 78 [.pointer (some ⟨W,0,none⟩),uw .u64 n,.int .i64 (OfNat.ofNat k)] h = some (.tuple #[],h')∧WrS h' W S (b ++ numB n k)∧Keeps S h h':=by
 have:∃ v h',cfi pr 78 [.pointer (some ⟨W,0,none⟩),uw .u64 n,.int .i64 (OfNat.ofNat k)] h = some (v,h')∧v = .tuple #[]∧WrS h' W S (b ++ numB n k)∧Keeps S h h':=by
  refine zAA T.wn T.wnC rfl ?_
  unfold xq78
  dsimp only [zh]
  refine wpk.out (k:=[]) ?_
  have c1:=zAD (h:=h) T.num (wnumS_at hn hk)
  obtain⟨h2,e2,w2,k2⟩:=zG1 T hw hS (numB n k) (by rw [zAH];omega)
  (repeat (first|refine zS ?_|refine zK ?_|refine zR ?_|refine zD ?_|refine zB ?_|refine zI ?_|refine zJ ?_|refine zP ?_|refine zE ?_|refine zG ?_|refine zF ?_|refine zH (by decide) ?_|refine zQ ?_|((first|refine zC ?_|refine zM ?_|refine zO rfl rfl ?_|refine zN rfl ?_|refine zL ?_);simp only [yq78.down,zA,lemS.down,lemC.down,zex,zew,zeu,reduceIte,zev,zey,zez,ze0,ze1,ze2,ze3,ze4,ze5,reduceCtorEq,lemH.down,c1,e2])))
  exact⟨.inl rfl,_,rfl,rfl,w2,k2⟩
 obtain⟨v,h',e,rfl,r⟩:=this
 exact⟨h',e,r⟩
theorem zD4 {pr:Prog} (T:zAL pr) {h:Heap} {W:Nat} {S:Nat→Prop} {b:List UInt8} (hw:WrS h W S b) (hS:∀ A,h.next≤A→S A) (n:Nat) (hn:n < 9223372036854775808) (hroom:b.length + 8≤zU) :
  ∃ h',cfi pr 121 [.pointer (some ⟨W,0,none⟩),.int .i64 (n:Int)] h = some (.tuple #[],h')∧WrS h' W S (b ++ numB n 4)∧Keeps S h h':=by
 have:∃ v h',cfi pr 121 [.pointer (some ⟨W,0,none⟩),.int .i64 (n:Int)] h = some (v,h')∧v = .tuple #[]∧WrS h' W S (b ++ numB n 4)∧Keeps S h h':=by
  refine zAA T.wc T.wcC rfl ?_
  unfold xq121
  dsimp only [zh]
  refine wpk.out (k:=[]) ?_
  have m1:=mm_max (k:=.i64) (x:=(n:Int)) (y:=0)
  rw [if_neg (by omega)] at m1
  have c:=zCl (k:=.u64) (k':=.i64) zDv (n:=n)
  obtain⟨h2,e2,w2,k2⟩:=zCB T hw hS n 4 (by omega) (by decide) hroom
  have e2:cfi pr 78 [.pointer (some ⟨W,0,none⟩),uw .u64 n,.int .i64 4] h = some (.tuple #[],h2):=e2
  (repeat (first|refine zS ?_|refine zK ?_|refine zR ?_|refine zD ?_|refine zB ?_|refine zI ?_|refine zJ ?_|refine zP ?_|refine zE ?_|refine zG ?_|refine zF ?_|refine zH (by decide) ?_|refine zQ ?_|((first|refine zC ?_|refine zM ?_|refine zO rfl rfl ?_|refine zN rfl ?_|refine zL ?_);simp only [yq121.down,zA,lemS.down,lemC.down,zex,zew,zeu,reduceIte,zev,zey,zez,ze0,ze1,ze2,ze3,ze4,ze5,reduceCtorEq,lemH.down,zIP,m1,c,e2])))
  exact⟨.inl rfl,_,rfl,rfl,w2,k2⟩
 obtain⟨v,h',e,rfl,r⟩:=this
 exact⟨h',e,r⟩
theorem zFd {pr:Prog} (T:zAL pr) {h:Heap} {W:Nat} {S:Nat→Prop} {b:List UInt8} (hw:WrS h W S b) (hS:∀ A,h.next≤A→S A) (s:List UInt8) (hroom:b.length + s.length + 8≤zU) :
  ∃ h',cfi pr 76 [.pointer (some ⟨W,0,none⟩),.string (strOf s)] h = some (.tuple #[],h')∧WrS h' W S (b ++ numB s.length 4 ++ s)∧Keeps S h h':=by
 have:∃ v h',cfi pr 76 [.pointer (some ⟨W,0,none⟩),.string (strOf s)] h = some (v,h')∧v = .tuple #[]∧WrS h' W S (b ++ numB s.length 4 ++ s)∧Keeps S h h':=by
  refine zAA T.wt T.wtC rfl ?_
  unfold xq76
  dsimp only [zh]
  refine wpk.out (k:=[]) ?_
  have hr64:zU = 140737488355328:=rfl
  obtain⟨h2,e2,w2,k2⟩:=zD4 T hw hS s.length (by omega) (by omega)
  obtain⟨h3,e3,w3,k3⟩:=zG1 T w2 (fun A hA=>hS A (Nat.le_trans k2.next hA)) s (by rw [List.length_append,zAH];omega)
  (repeat (first|refine zS ?_|refine zK ?_|refine zR ?_|refine zD ?_|refine zB ?_|refine zI ?_|refine zJ ?_|refine zP ?_|refine zE ?_|refine zG ?_|refine zF ?_|refine zH (by decide) ?_|refine zQ ?_|((first|refine zC ?_|refine zM ?_|refine zO rfl rfl ?_|refine zN rfl ?_|refine zL ?_);simp only [yq76.down,zA,lemS.down,lemC.down,zex,zew,zeu,reduceIte,zev,zey,zez,ze0,ze1,ze2,ze3,ze4,ze5,reduceCtorEq,lemH.down,e2,e3])))
  exact⟨.inl rfl,_,rfl,rfl,w3,k2.trans k3 (fun _ _ e=>e)⟩
 obtain⟨v,h',e,rfl,r⟩:=this
 exact⟨h',e,r⟩
theorem zKF {pr:Prog} (T:zAL pr) {h:Heap} {W N:Nat} {b:List UInt8} (hw:Wr h W N b):cfi pr 81 [.pointer (some ⟨W,0,none⟩)] h = some (.string (strOf b),h):=by
 refine zDX T.wa T.waC rfl ?_
 unfold xq81
 dsimp only [zh]
 refine wpk.out (k:=[]) ?_
 obtain⟨hN,v,hV,hO⟩:=hw
 (repeat (first|refine zS ?_|refine zK ?_|refine zR ?_|refine zD ?_|refine zB ?_|refine zI ?_|refine zJ ?_|refine zP ?_|refine zE ?_|refine zG ?_|refine zF ?_|refine zH (by decide) ?_|refine zQ ?_|((first|refine zC ?_|refine zM ?_|refine zO rfl rfl ?_|refine zN rfl ?_|refine zL ?_);simp only [yq81.down,zA,lemS.down,lemC.down,zex,zew,zeu,reduceIte,zev,zey,zez,ze0,ze1,ze2,ze3,ze4,ze5,reduceCtorEq,lemH.down,zCG,hV.load,List.getElem?_cons_zero,hO.cb2s])))
 exact⟨.inr rfl,by simp only [yq81.down,zA,lemS.down,lemC.down,zex,zew,zeu,reduceIte,zev,zey,zez,ze0,ze1,ze2,ze3,ze4,ze5,reduceCtorEq],rfl⟩
end Go.X
end
section
open Go Go.X
namespace Go.X
set_option linter.unusedVariables false
def zGA (zero:List Value) (bytes:Nat) (l c:Value):Option (NBlk×Mk):=match l,c with
 | .int _ l,.int _ c=>if 0≤l∧l≤c∧c.toNat * bytes≤zU∧c < 140737488355328 then some (.cells (List.replicate c.toNat zero).flatten,.slice l.toNat c.toNat none) else none
 | _,_=>none
theorem zag {t:Fr} {z:List Value} {b:Nat} {l c:Operand}:zAi t (.mkslice z b l c) = zGA z b (t.eval l) (t.eval c):=by
 simp only [zAi,zGA]
 cases t.eval l<;>try rfl
def srcV (h:Heap) (esz:Nat):Value→Option (Nat×List Value)
 | .string str=>if esz = 1 then some (str.data.toList.length,zW str.data.toList) else none
 | .slice none n _=>if n = 0 then some (0,[]) else none
 | .slice (some a) n _=>if n = 0 then some (0,[]) else match h.loadN a (n * esz) with|some l=>some (n,l)|none=>none
 | _=>none
def copyV (h:Heap) (esz:Nat) (d:Value) (s:Option (Nat×List Value)):Option (Value×Heap):=match d,s with
 | .slice base dl _,some (n,l)=>
  if min n dl = 0 then some (.int .i64 0,h) else
  (match base with
  | some a=>(match h.store ⟨a.block,a.off,none⟩ (l.take (min n dl * esz)) with|some h=>some (.int .i64 ((min n dl:Nat):Int),h)|none=>none)
  | none=>none)
 | _,_=>none
theorem e_copyV {t:Fr} {h:Heap} {esz:Nat} {d s:Operand}:effX t h (.copy esz d s) = copyV h esz (t.eval d) (srcV h esz (t.eval s)):=by
 have e:srcX t h esz s = srcV h esz (t.eval s):=by
  simp only [srcX,srcV]
  cases t.eval s with
  | slice a n c=>
   cases a with
   | none=>rfl
   | some a=>
    dsimp only
    cases h.loadN a (n * esz)<;>rfl
  | _=>rfl
 simp only [effX,copyV,e]
 cases t.eval d with
 | slice a n c=>
  cases srcV h esz (t.eval s) with
  | none=>rfl
  | some q=>
   obtain⟨m,l⟩:=q
   dsimp only
   split
   ·rfl
   ·cases a with
    | none=>rfl
    | some a=>dsimp only;cases h.store ⟨a.block,a.off,none⟩ (l.take (min m n * esz))<;>rfl
 | _=>rfl
theorem Var.cb2s {h:Heap} {A n c:Nat} {sp:Option Nat} {b:List UInt8} (hv:Var h A (zW b)) (hn:b.length = n):zCt h (.slice (some ⟨A,0,sp⟩) n c) = some (.string (strOf b)):=by
 simp only [zCt]
 by_cases h0:n = 0
 ·rw [if_pos h0]
  obtain rfl:b = []:=List.eq_nil_of_length_eq_zero (by omega)
  rfl
 ·rw [if_neg h0,hv.loadAll (by rw [zCF];exact hn)]
  simp only [zHD]
def zAY (s:List UInt8):List UInt8:=(s ++ List.replicate 32 0).take 32
theorem zCb (s:List UInt8):(zAY s).length = 32:=by simp [zAY]
theorem zLR {s:List UInt8} (h:s.length = 32):zAY s = s:=by simp [zAY,← h]
theorem zCo {pr:Prog} (T:zAL pr) {h:Heap} {W:Nat} {S:Nat→Prop} {b:List UInt8} (hw:WrS h W S b) (hS:∀ A,h.next≤A→S A) (s:List UInt8) (hroom:b.length + 40≤zU) :
  ∃ h',cfi pr 79 [.pointer (some ⟨W,0,none⟩),.string (strOf s)] h = some (.tuple #[],h')∧WrS h' W S (b ++ zAY s)∧Keeps S h h':=by
 have:∃ v h',cfi pr 79 [.pointer (some ⟨W,0,none⟩),.string (strOf s)] h = some (v,h')∧v = .tuple #[]∧WrS h' W S (b ++ zAY s)∧Keeps S h h':=by
  refine zAA T.wh T.whC rfl ?_
  unfold xq79
  dsimp only [zh]
  refine wpk.out (k:=[]) ?_
  have hWlt:W < h.next:=by obtain⟨_,v,h2,_⟩:=hw;exact h2.1
  have mk:zGA [.int .u8 0] 1 (.int .i64 32) (.int .i64 32) = some (.cells (zW (List.replicate 32 0)),.slice 32 32 none):=by
   simp only [zGA]
   rw [if_pos (by decide)]
   rfl
  have hV:Var (h.new (zW (List.replicate 32 0))) h.next (zW (List.replicate 32 0)):=Var.new_self
  have cp:∃ h2 r,copyV (h.new (zW (List.replicate 32 0))) 1 (.slice (some ⟨h.next,0,none⟩) 32 32) (srcV (h.new (zW (List.replicate 32 0))) 1 (.string (strOf s))) = some (r,h2)∧Var h2 h.next (zW (zAY s))∧Grows h h2:=by
   simp only [srcV,zBd,if_true,copyV]
   by_cases h0:min s.length 32 = 0
   ·rw [if_pos h0]
    obtain rfl:s = []:=List.eq_nil_of_length_eq_zero (by omega)
    exact⟨_,_,rfl,hV,Grows.new⟩
   ·rw [if_neg h0,hV.store (by simp [zCF];omega) (by rw [zEu];exact zEt)]
    refine ⟨_,_,rfl,?_,Grows.new.wr (Nat.le_refl _)⟩
    have e:putN (zW (List.replicate 32 0)) 0 (List.take (min s.length 32 * 1) (zW s)) = zW (zAY s):=by
     simp only [putN,zEu,List.take_zero,List.nil_append,Nat.mul_one,Nat.zero_add,zCF,zFs,← zCu]
     congr 1
     unfold zAY
     rw [List.take_append,List.length_take,List.drop_replicate]
     by_cases hs:s.length≤32
     ·rw [List.take_of_length_le (l:=s) (by omega),List.take_of_length_le (l:=s) (by omega),List.take_replicate]
      congr 2;omega
     ·have e1:min s.length 32 = 32:=by omega
      rw [e1,show (32:Nat) - s.length = 0 by omega,show min 32 s.length = 32 by omega]
      simp
    rw [e]
    exact hV.wr
  obtain⟨h2,r,e2,hV2,g2⟩:=cp
  obtain⟨h3,e3,w3,k3⟩:=zG1 T (hw.grow g2) (fun A hA=>hS A (Nat.le_trans g2.next hA)) (zAY s) (by rw [zCb];omega)
  (repeat (first|refine zS ?_|refine zK ?_|refine zR ?_|refine zD ?_|refine zB ?_|refine zI ?_|refine zJ ?_|refine zP ?_|refine zE ?_|refine zG ?_|refine zF ?_|refine zH (by decide) ?_|refine zQ ?_|((first|refine zC ?_|refine zM ?_|refine zO rfl rfl ?_|refine zN rfl ?_|refine zL ?_);simp only [yq79.down,zA,lemS.down,lemC.down,zex,zew,zeu,reduceIte,zev,zey,zez,ze0,ze1,ze2,ze3,ze4,ze5,reduceCtorEq,lemH.down,zag,mk,e_copyV,e2,hV2.cb2s (zCb s),e3])))
  exact⟨.inl rfl,_,rfl,rfl,w3,Keeps.trans g2.keeps k3 (fun _ _ e=>e)⟩
 obtain⟨v,h',e,rfl,r⟩:=this
 exact⟨h',e,r⟩
end Go.X
end
section
open Go Go.X
namespace Go.X
set_option linter.unusedVariables false
structure RS where
 s:List UInt8
 pos:Nat
 err:Nat
def RS.ok (r:RS):Prop:=r.pos≤r.s.length∧r.s.length≤9223372036854775807
def zX (r:RS) (n:Int):RS×List UInt8:=
 if r.err≠0 then (r,[]) else if n < 0 then (⟨r.s,r.pos,1⟩,[]) else if (r.s.length:Int) - r.pos < n then (⟨r.s,r.pos,4⟩,[]) else (⟨r.s,r.pos + n.toNat,r.err⟩,(r.s.drop r.pos).take n.toNat)
theorem zFq (r:RS) (n:Int):(zX r n).1.s = r.s:=by
 unfold zX
 split
 ·rfl
 ·split
  ·rfl
  ·split<;>rfl
def zB4 (r:RS):List Value:=[.string (strOf r.s),.int .i64 (r.pos:Int),.int .i64 (r.err:Int)]
def Rd (h:Heap) (R:Nat) (r:RS):Prop:=r.ok∧Var h R (zB4 r)
theorem Rd.keep {K:Nat→Prop} {h h':Heap} {R:Nat} {r:RS} (hw:Rd h R r) (hk:Keeps K h h') (hK:¬ K R):Rd h' R r:=⟨hw.1,hw.2.keep hk hK⟩
theorem Rd.grow {h h':Heap} {R:Nat} {r:RS} (hw:Rd h R r) (hg:Grows h h'):Rd h' R r:=⟨hw.1,hw.2.grow hg⟩
section
variable {h:Heap} {R:Nat} {r:RS}
theorem Rd.l0 (hr:Rd h R r):∀ sp,h.load ⟨R,0,sp⟩ = some (.string (strOf r.s)):=fun sp=>hr.2.load
theorem Rd.l1 (hr:Rd h R r):∀ sp,h.load ⟨R,1,sp⟩ = some (.int .i64 (r.pos:Int)):=fun sp=>hr.2.load
theorem Rd.l2 (hr:Rd h R r):∀ sp,h.load ⟨R,2,sp⟩ = some (.int .i64 (r.err:Int)):=fun sp=>hr.2.load
theorem Rd.s1 (hr:Rd h R r) (n:Nat):zn h 1 (.pointer (some ⟨R,1,none⟩)) (.int .i64 (n:Int)) = some (.tuple #[],h.wr R (zB4 ⟨r.s,n,r.err⟩)):=by
 rw [zY rfl,hr.2.store1 (by simp [zB4]) rfl];rfl
theorem Rd.s2 (hr:Rd h R r) (n:Nat):zn h 1 (.pointer (some ⟨R,2,none⟩)) (.int .i64 (n:Int)) = some (.tuple #[],h.wr R (zB4 ⟨r.s,r.pos,n⟩)):=by
 rw [zY rfl,hr.2.store1 (by simp [zB4]) rfl];rfl
theorem Rd.s2L (hr:Rd h R r) (n:Nat):zn h 1 (.pointer (some ⟨R,2,none⟩)) (.int .i64 (OfNat.ofNat n)) = some (.tuple #[],h.wr R (zB4 ⟨r.s,r.pos,n⟩)):=hr.s2 n
theorem Rd.wr (hr:Rd h R r) {q:RS} (hq:q.ok):Rd (h.wr R (zB4 q)) R q:=⟨hq,hr.2.wr⟩
theorem zJ7 {pr:Prog} (T:zAL pr) (h:Heap) (s:List UInt8) (hs:s.length≤9223372036854775807):∃ h',cfi pr 86 [.string (strOf s)] h = some (.pointer (some ⟨h.next,0,none⟩),h')∧Rd h' h.next ⟨s,0,0⟩∧Grows h h':=by
 have:∃ v h',cfi pr 86 [.string (strOf s)] h = some (v,h')∧v = .pointer (some ⟨h.next,0,none⟩)∧Rd h' h.next ⟨s,0,0⟩∧Grows h h':=by
  refine zAA T.newR T.newRC rfl ?_
  unfold xq86
  dsimp only [zh]
  refine wpk.out (k:=[]) ?_
  have hz:aggV (zAB [.string (strOf []),.int .i64 0,.int .i64 0] [(0,1,.string (strOf s))]) = some (.agg (zB4 ⟨s,0,0⟩).toArray):=by
   simp [zAB,zKu,putN,zB4,aggV]
  (repeat (first|refine zS ?_|refine zK ?_|refine zR ?_|refine zD ?_|refine zB ?_|refine zI ?_|refine zJ ?_|refine zP ?_|refine zE ?_|refine zG ?_|refine zF ?_|refine zH (by decide) ?_|refine zQ ?_|((first|refine zC ?_|refine zM ?_|refine zO rfl rfl ?_|refine zN rfl ?_|refine zL ?_);simp only [yq86.down,zA,lemS.down,lemC.down,zex,zew,zeu,reduceIte,zev,zey,zez,ze0,ze1,ze2,ze3,ze4,ze5,reduceCtorEq,lemH.down,hz])))
  exact⟨.inr rfl,_,rfl,by simp only [yq86.down,zA,lemS.down,lemC.down,zex,zew,zeu,reduceIte,zev,zey,zez,ze0,ze1,ze2,ze3,ze4,ze5,reduceCtorEq],⟨⟨Nat.zero_le _,hs⟩,Var.new_self⟩,Grows.new⟩
 obtain⟨v,h',e,rfl,r⟩:=this
 exact⟨h',e,r⟩
theorem zAb {pr:Prog} (T:zAL pr) (hr:Rd h R r):cfi pr 109 [.pointer (some ⟨R,0,none⟩)] h = some (.int .i64 (r.err:Int),h):=by
 refine zDX T.rr T.rrC rfl ?_
 unfold xq109
 dsimp only [zh]
 refine wpk.out (k:=[]) ?_
 (repeat (first|refine zS ?_|refine zK ?_|refine zR ?_|refine zD ?_|refine zB ?_|refine zI ?_|refine zJ ?_|refine zP ?_|refine zE ?_|refine zG ?_|refine zF ?_|refine zH (by decide) ?_|refine zQ ?_|((first|refine zC ?_|refine zM ?_|refine zO rfl rfl ?_|refine zN rfl ?_|refine zL ?_);simp only [yq109.down,zA,lemS.down,lemC.down,zex,zew,zeu,reduceIte,zev,zey,zez,ze0,ze1,ze2,ze3,ze4,ze5,reduceCtorEq,lemH.down,zCG,hr.l2])))
 exact⟨.inr rfl,by simp only [yq109.down,zA,lemS.down,lemC.down,zex,zew,zeu,reduceIte,zev,zey,zez,ze0,ze1,ze2,ze3,ze4,ze5,reduceCtorEq],rfl⟩
theorem zGx {pr:Prog} (T:zAL pr) (hr:Rd h R r):cfi pr 149 [.pointer (some ⟨R,0,none⟩)] h = some (.int .i64 (r.pos:Int),h):=by
 refine zDX T.ra T.raC rfl ?_
 unfold xq149
 dsimp only [zh]
 refine wpk.out (k:=[]) ?_
 (repeat (first|refine zS ?_|refine zK ?_|refine zR ?_|refine zD ?_|refine zB ?_|refine zI ?_|refine zJ ?_|refine zP ?_|refine zE ?_|refine zG ?_|refine zF ?_|refine zH (by decide) ?_|refine zQ ?_|((first|refine zC ?_|refine zM ?_|refine zO rfl rfl ?_|refine zN rfl ?_|refine zL ?_);simp only [yq149.down,zA,lemS.down,lemC.down,zex,zew,zeu,reduceIte,zev,zey,zez,ze0,ze1,ze2,ze3,ze4,ze5,reduceCtorEq,lemH.down,zCG,hr.l1])))
 exact⟨.inr rfl,by simp only [yq149.down,zA,lemS.down,lemC.down,zex,zew,zeu,reduceIte,zev,zey,zez,ze0,ze1,ze2,ze3,ze4,ze5,reduceCtorEq],rfl⟩
theorem zad {pr:Prog} (T:zAL pr) (hr:Rd h R r):cfi pr 152 [.pointer (some ⟨R,0,none⟩)] h = some (.int .i64 ((r.s.length:Int) - r.pos),h):=by
 refine zDX T.rl T.rlC rfl ?_
 unfold xq152
 dsimp only [zh]
 refine wpk.out (k:=[]) ?_
 have hr64:zU = 140737488355328:=rfl
 have ok:=hr.1
 unfold RS.ok at ok
 have w:IntKind.i64.wrap ((r.s.length:Int) - r.pos) = (r.s.length:Int) - r.pos:=wrap_i64 (by omega) (by omega)
 (repeat (first|refine zS ?_|refine zK ?_|refine zR ?_|refine zD ?_|refine zB ?_|refine zI ?_|refine zJ ?_|refine zP ?_|refine zE ?_|refine zG ?_|refine zF ?_|refine zH (by decide) ?_|refine zQ ?_|((first|refine zC ?_|refine zM ?_|refine zO rfl rfl ?_|refine zN rfl ?_|refine zL ?_);simp only [yq152.down,zA,lemS.down,lemC.down,zex,zew,zeu,reduceIte,zev,zey,zez,ze0,ze1,ze2,ze3,ze4,ze5,reduceCtorEq,lemH.down,zCG,hr.l0,hr.l1,w])))
 exact⟨.inr rfl,by simp only [yq152.down,zA,lemS.down,lemC.down,zex,zew,zeu,reduceIte,zev,zey,zez,ze0,ze1,ze2,ze3,ze4,ze5,reduceCtorEq],rfl⟩
theorem zGz {pr:Prog} (T:zAL pr) (hr:Rd h R r) (n:Int) (hn : -9223372036854775808≤n∧n < 9223372036854775808) :
  ∃ h',cfi pr 150 [.pointer (some ⟨R,0,none⟩),.int .i64 n] h = some (.string (strOf (zX r n).2),h')∧Rd h' R (zX r n).1∧Keeps (fun A=>A = R) h h':=by
 have:∃ v h',cfi pr 150 [.pointer (some ⟨R,0,none⟩),.int .i64 n] h = some (v,h')∧v = .string (strOf (zX r n).2)∧Rd h' R (zX r n).1∧Keeps (fun A=>A = R) h h':=by
  refine zAA T.rb T.rbC rfl ?_
  unfold xq150
  dsimp only [zh]
  refine wpk.out (k:=[]) ?_
  have hr64:zU = 140737488355328:=rfl
  have ok:=hr.1
  unfold RS.ok at ok
  have er:=zAb T hr
  have w:IntKind.i64.wrap ((r.s.length:Int) - r.pos) = (r.s.length:Int) - r.pos:=wrap_i64 (by omega) (by omega)
  by_cases h0:r.err = 0
  ·have b0:((r.err:Int) == 0) = true:=by rw [h0];rfl
   by_cases h1:n < 0
   ·have d1:decide (n < 0) = true:=by simpa using h1
    (repeat (first|refine zS ?_|refine zK ?_|refine zR ?_|refine zD ?_|refine zB ?_|refine zI ?_|refine zJ ?_|refine zP ?_|refine zE ?_|refine zG ?_|refine zF ?_|refine zH (by decide) ?_|refine zQ ?_|((first|refine zC ?_|refine zM ?_|refine zO rfl rfl ?_|refine zN rfl ?_|refine zL ?_);simp only [yq150.down,zA,lemS.down,lemC.down,zex,zew,zeu,reduceIte,zev,zey,zez,ze0,ze1,ze2,ze3,ze4,ze5,reduceCtorEq,lemH.down,er,b0,d1,hr.s2L])))
    refine ⟨.inr rfl,_,rfl,?_,?_,Keeps.wr⟩
    ·simp only [yq150.down,zA,lemS.down,lemC.down,zex,zew,zeu,reduceIte,zev,zey,zez,ze0,ze1,ze2,ze3,ze4,ze5,reduceCtorEq]
     unfold zX
     rw [if_neg (by omega),if_pos h1]
    ·unfold zX
     rw [if_neg (by omega),if_pos h1]
     exact hr.wr ok
   ·have d1:decide (n < 0) = false:=by simpa using h1
    by_cases h2:(r.s.length:Int) - r.pos < n
    ·have d2:decide (n > (r.s.length:Int) - r.pos) = true:=by simpa using h2
     (repeat (first|refine zS ?_|refine zK ?_|refine zR ?_|refine zD ?_|refine zB ?_|refine zI ?_|refine zJ ?_|refine zP ?_|refine zE ?_|refine zG ?_|refine zF ?_|refine zH (by decide) ?_|refine zQ ?_|((first|refine zC ?_|refine zM ?_|refine zO rfl rfl ?_|refine zN rfl ?_|refine zL ?_);simp only [yq150.down,zA,lemS.down,lemC.down,zex,zew,zeu,reduceIte,zev,zey,zez,ze0,ze1,ze2,ze3,ze4,ze5,reduceCtorEq,lemH.down,er,b0,d1,hr.l0,hr.l1,w,d2,hr.s2L])))
     refine ⟨.inr rfl,_,rfl,?_,?_,Keeps.wr⟩
     ·simp only [yq150.down,zA,lemS.down,lemC.down,zex,zew,zeu,reduceIte,zev,zey,zez,ze0,ze1,ze2,ze3,ze4,ze5,reduceCtorEq]
      unfold zX
      rw [if_neg (by omega),if_neg h1,if_pos h2]
     ·unfold zX
      rw [if_neg (by omega),if_neg h1,if_pos h2]
      exact hr.wr ok
    ·have d2:decide (n > (r.s.length:Int) - r.pos) = false:=by simp only [gt_iff_lt,decide_eq_false_iff_not];exact h2
     obtain⟨m,rfl⟩:∃ m:Nat,n = (m:Int):=⟨n.toNat,by omega⟩
     have w2:IntKind.i64.wrap ((r.pos:Int) + (m:Int)) = ((r.pos + m:Nat):Int):=by rw [wrap_i64 (by omega) (by omega)];omega
     have w3:IntKind.i64.wrap (((r.pos + m:Nat):Int) - (m:Int)) = (r.pos:Int):=by rw [wrap_i64 (by omega) (by omega)];omega
     have hr2:Rd (h.wr R (zB4 ⟨r.s,r.pos + m,r.err⟩)) R ⟨r.s,r.pos + m,r.err⟩:=hr.wr ⟨by show r.pos + m≤r.s.length;omega,ok.2⟩
     have ct:=cut_both (s:=r.s) (n:=r.pos) (m:=r.pos + m) (k:=.i64) (k':=.i64) (by omega) (by omega)
     (repeat (first|refine zS ?_|refine zK ?_|refine zR ?_|refine zD ?_|refine zB ?_|refine zI ?_|refine zJ ?_|refine zP ?_|refine zE ?_|refine zG ?_|refine zF ?_|refine zH (by decide) ?_|refine zQ ?_|((first|refine zC ?_|refine zM ?_|refine zO rfl rfl ?_|refine zN rfl ?_|refine zL ?_);simp only [yq150.down,zA,lemS.down,lemC.down,zex,zew,zeu,reduceIte,zev,zey,zez,ze0,ze1,ze2,ze3,ze4,ze5,reduceCtorEq,lemH.down,er,b0,d1,hr.l0,hr.l1,w,d2,w2,hr.s1,hr2.l0,hr2.l1,w3,ct])))
     refine ⟨.inr rfl,_,rfl,?_,?_,Keeps.wr⟩
     ·simp only [yq150.down,zA,lemS.down,lemC.down,zex,zew,zeu,reduceIte,zev,zey,zez,ze0,ze1,ze2,ze3,ze4,ze5,reduceCtorEq]
      unfold zX
      rw [if_neg (by omega),if_neg h1,if_neg h2]
      simp
     ·unfold zX
      rw [if_neg (by omega),if_neg h1,if_neg h2]
      exact hr2
  ·have b0:((r.err:Int) == 0) = false:=by rw [beq_eq_false_iff_ne];omega
   (repeat (first|refine zS ?_|refine zK ?_|refine zR ?_|refine zD ?_|refine zB ?_|refine zI ?_|refine zJ ?_|refine zP ?_|refine zE ?_|refine zG ?_|refine zF ?_|refine zH (by decide) ?_|refine zQ ?_|((first|refine zC ?_|refine zM ?_|refine zO rfl rfl ?_|refine zN rfl ?_|refine zL ?_);simp only [yq150.down,zA,lemS.down,lemC.down,zex,zew,zeu,reduceIte,zev,zey,zez,ze0,ze1,ze2,ze3,ze4,ze5,reduceCtorEq,lemH.down,er,b0])))
   refine ⟨.inr rfl,_,rfl,?_,?_,Keeps.refl⟩
   ·simp only [yq150.down,zA,lemS.down,lemC.down,zex,zew,zeu,reduceIte,zev,zey,zez,ze0,ze1,ze2,ze3,ze4,ze5,reduceCtorEq]
    unfold zX
    rw [if_pos h0]
   ·unfold zX
    rw [if_pos h0]
    exact hr
 obtain⟨v,h',e,rfl,r⟩:=this
 exact⟨h',e,r⟩
end
end Go.X
end
section
open Go Go.X
namespace Go.X
set_option linter.unusedVariables false
def numV (b:List UInt8):Nat:=b.foldl (fun n b=>n * 256 + b.toNat) 0
theorem zL1 (b:List UInt8) (x:UInt8):numV (b ++ [x]) = numV b * 256 + x.toNat:=by simp [numV]
theorem numV_lt:∀ (b:List UInt8),numV b < 256 ^ b.length:=by
 intro b
 have key:∀ (b:List UInt8) (n m:Nat),n < 256 ^ m→b.foldl (fun n b=>n * 256 + b.toNat) n < 256 ^ (m + b.length):=by
  intro b
  induction b with
  | nil=>intro n m h;simpa using h
  | cons x b ih=>
   intro n m h
   have hx:=x.toNat_lt
   have:=ih (n * 256 + x.toNat) (m + 1) (by rw [Nat.pow_succ];omega)
   simp only [List.foldl_cons,List.length_cons]
   rw [show m + (b.length + 1) = m + 1 + b.length by omega]
   exact this
 have:=key b 0 0 (by decide)
 rw [Nat.zero_add] at this
 exact this
def zT (r:RS) (k:Nat):RS×Nat:=((zX r k).1,numV (zX r k).2)
theorem zFp (r:RS) (k:Nat):(zX r k).2.length≤k:=by
 unfold zX
 split
 ·simp
 ·split
  ·simp
  ·split
   ·simp
   ·simp;omega
theorem zC8 (r:RS) {k:Nat} (hk:k≤8):(zT r k).2 < 256 ^ k:=by
 refine Nat.lt_of_lt_of_le (numV_lt _) (Nat.pow_le_pow_right (by decide) (zFp r k))
section
variable {h:Heap} {R:Nat} {r:RS}
theorem zCA {pr:Prog} (T:zAL pr) (hr:Rd h R r) (k:Nat) (hk:k≤8) :
  ∃ h',cfi pr 89 [.pointer (some ⟨R,0,none⟩),.int .i64 (OfNat.ofNat k)] h = some (uw .u64 (zT r k).2,h')∧Rd h' R (zT r k).1∧Keeps (fun A=>A = R) h h':=by
 have:∃ v h',cfi pr 89 [.pointer (some ⟨R,0,none⟩),.int .i64 (OfNat.ofNat k)] h = some (v,h')∧v = uw .u64 (zT r k).2∧Rd h' R (zT r k).1∧Keeps (fun A=>A = R) h h':=by
  refine zAA T.rn T.rnC rfl ?_
  unfold xq89
  dsimp only [zh]
  refine wpk.out (k:=[]) ?_
  have hRlt:=hr.2.1
  have er:=zAb T hr
  have ek:(OfNat.ofNat k:Int) = (k:Int):=rfl
  have d1:decide ((OfNat.ofNat k:Int) > 8) = false:=by rw [ek];simp;omega
  obtain⟨h2,e2,r2,k2⟩:=zGz T hr (k:Int) (by omega)
  have e2:cfi pr 150 [.pointer (some ⟨R,0,none⟩),.int .i64 (OfNat.ofNat k)] h = some (.string (strOf (zX r (k:Int)).2),h2):=e2
  have hb:=zFp r k
  have tail:∀ t:Fr,t.get 5 = uw .u64 0→t.get 21 = .slice (some ⟨h2.next,0,some 1⟩) (zX r (k:Int)).2.length (zX r (k:Int)).2.length→t.get 22 = .int .i64 ((zX r (k:Int)).2.length:Int)→t.get 23 = .int .i64 0 →
    wpk pr (.loop zJ5) [KI.blk 0,KI.code ((XC.ops zJ4).seq XC.ret)] (fun e t' h1=>(e = XE.normal∨e = XE.ret)∧∃ v,t'.get 4 = v∧v = uw .u64 (zT r k).2∧Rd h1 R (zT r k).1∧Keeps (fun A=>A = R) h h1) t (h2.newB (zW (zX r (k:Int)).2)):=by
   intro t t5 t21 t22 t23
   have r3:=r2.grow (Grows.newB (l:=zW (zX r (k:Int)).2))
   have hO:=Own.newB (h:=h2) (l:=zW (zX r (k:Int)).2) (n:=(zX r (k:Int)).2.length) (esz:=1) (sp:=some 1) (by simp [zCF]) (.inr rfl)
   have k3:Keeps (fun A=>A = R) h (h2.newB (zW (zX r (k:Int)).2)):=k2.trans Keeps.newB (fun _ _ e=>e)
   have hnum:zT r k = ((zX r (k:Int)).1,numV (zX r (k:Int)).2):=rfl
   rw [hnum]
   generalize (zX r (k:Int)).2 = b at *
   generalize (zX r (k:Int)).1 = r' at *
   generalize h2.newB (zW b) = h3 at *
   refine zAG (fun m t g=>∃ i,m = b.length - i∧i≤b.length∧g = h3∧t.get 5 = uw .u64 (numV (b.take i))∧t.get 21 = .slice (some ⟨h2.next,0,some 1⟩) b.length b.length∧t.get 22 = .int .i64 (b.length:Int)∧t.get 23 = .int .i64 (i:Int)) ?_ b.length _ _ ⟨0,rfl,by omega,rfl,t5,t21,t22,t23⟩
   rintro m t _ ⟨i,rfl,hi,rfl,t5,t21,t22,t23⟩ hnext
   refine xq89_9k ?_
   dsimp only [zJ6]
   (repeat (first|refine zS ?_|refine zK ?_|refine zR ?_|refine zD ?_|refine zB ?_|refine zI ?_|refine zJ ?_|refine zP ?_|refine zE ?_|refine zG ?_|refine zF ?_|refine zH (by decide) ?_|refine zQ ?_|((first|refine zC ?_|refine zM ?_|refine zO rfl rfl ?_|refine zN rfl ?_|refine zL ?_);simp only [yq89.down,zA,lemS.down,lemC.down,zex,zew,zeu,reduceIte,zev,zey,zez,ze0,ze1,ze2,ze3,ze4,ze5,reduceCtorEq,lemH.down,lemW.down,t5,t21,t22,t23])))
   refine ⟨fun hlt=>?_,fun hge=>?_⟩
   ·have hi':i < b.length:=by omega
    have ww:IntKind.i64.wrap ((i:Int) + 1) = ((i + 1:Nat):Int):=by rw [wrap_i64 (by omega) (by omega)];omega
    obtain⟨B,o,ia,ld⟩:=hO.addr1 hi' (k:=.i64)
    rw [zFt hi'] at ld
    (repeat (first|refine zS ?_|refine zK ?_|refine zR ?_|refine zD ?_|refine zB ?_|refine zI ?_|refine zJ ?_|refine zP ?_|refine zE ?_|refine zG ?_|refine zF ?_|refine zH (by decide) ?_|refine zQ ?_|((first|refine zC ?_|refine zM ?_|refine zO rfl rfl ?_|refine zN rfl ?_|refine zL ?_);simp only [yq89.down,zA,lemS.down,lemC.down,zex,zew,zeu,reduceIte,zev,zey,zez,ze0,ze1,ze2,ze3,ze4,ze5,reduceCtorEq,lemH.down,lemW.down,t5,t21,t22,t23,zAs,ia,ld,zMt (n:=8) (by decide),ww])))
    refine hnext (b.length - (i + 1)) _ _ (by omega) ⟨i + 1,rfl,by omega,rfl,?_,by simp only [yq89.down,zA,lemS.down,lemC.down,zex,zew,zeu,reduceIte,zev,zey,zez,ze0,ze1,ze2,ze3,ze4,ze5,reduceCtorEq,t21],by simp only [yq89.down,zA,lemS.down,lemC.down,zex,zew,zeu,reduceIte,zev,zey,zez,ze0,ze1,ze2,ze3,ze4,ze5,reduceCtorEq,t22],by simp only [yq89.down,zA,lemS.down,lemC.down,zex,zew,zeu,reduceIte,zev,zey,zez,ze0,ze1,ze2,ze3,ze4,ze5,reduceCtorEq]⟩
    simp only [yq89.down,zA,lemS.down,lemC.down,zex,zew,zeu,reduceIte,zev,zey,zez,ze0,ze1,ze2,ze3,ze4,ze5,reduceCtorEq]
    rw [List.take_succ_eq_append_getElem hi',zL1]
    have hx:=(b[i]).toNat_lt
    have e1:b.getD i 0 = b[i]:=by simp [List.getD_eq_getElem?_getD,List.getElem?_eq_getElem hi']
    rw [e1,Nat.mod_eq_of_lt (by simpa using hx),← Nat.shiftLeft_add_eq_or_of_lt (i:=8) (by simpa using hx),Nat.shiftLeft_eq]
   ·obtain rfl:i = b.length:=by omega
    rw [List.take_length] at t5
    (repeat (first|refine zS ?_|refine zK ?_|refine zR ?_|refine zD ?_|refine zB ?_|refine zI ?_|refine zJ ?_|refine zP ?_|refine zE ?_|refine zG ?_|refine zF ?_|refine zH (by decide) ?_|refine zQ ?_|((first|refine zC ?_|refine zM ?_|refine zO rfl rfl ?_|refine zN rfl ?_|refine zL ?_);simp only [yq89.down,zA,lemS.down,lemC.down,zex,zew,zeu,reduceIte,zev,zey,zez,ze0,ze1,ze2,ze3,ze4,ze5,reduceCtorEq,lemH.down,lemW.down,t5,t21,t22,t23])))
    exact⟨.inr rfl,_,rfl,by simp only [yq89.down,zA,lemS.down,lemC.down,zex,zew,zeu,reduceIte,zev,zey,zez,ze0,ze1,ze2,ze3,ze4,ze5,reduceCtorEq],r3,k3⟩
  by_cases h0:r.err = 0
  ·have b0:((r.err:Int) == 0) = true:=by rw [h0];rfl
   (repeat (first|refine zS ?_|refine zK ?_|refine zR ?_|refine zD ?_|refine zB ?_|refine zI ?_|refine zJ ?_|refine zP ?_|refine zE ?_|refine zG ?_|refine zF ?_|refine zH (by decide) ?_|refine zQ ?_|((first|refine zC ?_|refine zM ?_|refine zO rfl rfl ?_|refine zN rfl ?_|refine zL ?_);simp only [yq89.down,zA,lemS.down,lemC.down,zex,zew,zeu,reduceIte,zev,zey,zez,ze0,ze1,ze2,ze3,ze4,ze5,reduceCtorEq,lemH.down,er,b0,d1,e2,zEz])))
   exact tail _ (by (simp only [yq89.down,zA,lemS.down,lemC.down,zex,zew,zeu,reduceIte,zev,zey,zez,ze0,ze1,ze2,ze3,ze4,ze5,reduceCtorEq])<;>rfl) (by simp only [yq89.down,zA,lemS.down,lemC.down,zex,zew,zeu,reduceIte,zev,zey,zez,ze0,ze1,ze2,ze3,ze4,ze5,reduceCtorEq]) (by simp only [yq89.down,zA,lemS.down,lemC.down,zex,zew,zeu,reduceIte,zev,zey,zez,ze0,ze1,ze2,ze3,ze4,ze5,reduceCtorEq]) (by simp only [yq89.down,zA,lemS.down,lemC.down,zex,zew,zeu,reduceIte,zev,zey,zez,ze0,ze1,ze2,ze3,ze4,ze5,reduceCtorEq])
  ·have b0:((r.err:Int) == 0) = false:=by rw [beq_eq_false_iff_ne];omega
   (repeat (first|refine zS ?_|refine zK ?_|refine zR ?_|refine zD ?_|refine zB ?_|refine zI ?_|refine zJ ?_|refine zP ?_|refine zE ?_|refine zG ?_|refine zF ?_|refine zH (by decide) ?_|refine zQ ?_|((first|refine zC ?_|refine zM ?_|refine zO rfl rfl ?_|refine zN rfl ?_|refine zL ?_);simp only [yq89.down,zA,lemS.down,lemC.down,zex,zew,zeu,reduceIte,zev,zey,zez,ze0,ze1,ze2,ze3,ze4,ze5,reduceCtorEq,lemH.down,er,b0,d1,e2,zEz])))
   exact tail _ (by (simp only [yq89.down,zA,lemS.down,lemC.down,zex,zew,zeu,reduceIte,zev,zey,zez,ze0,ze1,ze2,ze3,ze4,ze5,reduceCtorEq])<;>rfl) (by simp only [yq89.down,zA,lemS.down,lemC.down,zex,zew,zeu,reduceIte,zev,zey,zez,ze0,ze1,ze2,ze3,ze4,ze5,reduceCtorEq]) (by simp only [yq89.down,zA,lemS.down,lemC.down,zex,zew,zeu,reduceIte,zev,zey,zez,ze0,ze1,ze2,ze3,ze4,ze5,reduceCtorEq]) (by simp only [yq89.down,zA,lemS.down,lemC.down,zex,zew,zeu,reduceIte,zev,zey,zez,ze0,ze1,ze2,ze3,ze4,ze5,reduceCtorEq])
 obtain⟨v,h',e,rfl,r⟩:=this
 exact⟨h',e,r⟩
end
end Go.X
end
section
open Go Go.X
namespace Go.X
set_option linter.unusedVariables false
def zc (r:RS) (most:Nat):RS×Nat:=
 if (zT r 4).1.err≠0 then ((zT r 4).1,0) else if most < (zT r 4).2 then (⟨r.s,r.pos,3⟩,0) else zT r 4
def z8 (r:RS) (most:Nat):RS×List UInt8:=
 let q:=zX (zc r most).1 (zc r most).2
 (if q.1.err≠0 then ⟨q.1.s,r.pos,q.1.err⟩ else q.1,q.2)
def endR (r:RS):RS:=if 0 < r.s.length - r.pos∧r.err = 0 then ⟨r.s,r.pos,5⟩ else r
theorem zBi (r:RS) (k:Nat):(zT r k).1.s = r.s:=zFq r _
theorem countR_s (r:RS) (m:Nat):(zc r m).1.s = r.s:=by
 unfold zc
 split
 ·exact zBi r 4
 ·split
  ·rfl
  ·exact zBi r 4
theorem zbM (r:RS) (m:Nat):(zc r m).2 < 4294967296:=by
 unfold zc
 split
 ·exact Nat.zero_lt_succ _
 ·split
  ·exact Nat.zero_lt_succ _
  ·exact zC8 r (by decide)
section
variable {h:Heap} {R:Nat} {r:RS}
theorem zD3 {pr:Prog} (T:zAL pr) (hr:Rd h R r) (m:Nat) (hm:m < 9223372036854775808) :
  ∃ h',cfi pr 108 [.pointer (some ⟨R,0,none⟩),.int .i64 (OfNat.ofNat m)] h = some (.int .i64 ((zc r m).2:Int),h')∧Rd h' R (zc r m).1∧Keeps (fun A=>A = R) h h':=by
 have:∃ v h',cfi pr 108 [.pointer (some ⟨R,0,none⟩),.int .i64 (OfNat.ofNat m)] h = some (v,h')∧v = .int .i64 ((zc r m).2:Int)∧Rd h' R (zc r m).1∧Keeps (fun A=>A = R) h h':=by
  refine zAA T.rc T.rcC rfl ?_
  unfold xq108
  dsimp only [zh]
  refine wpk.out (k:=[]) ?_
  have em:(OfNat.ofNat m:Int) = (m:Int):=rfl
  rw [em]
  have at0:=zGx T hr
  obtain⟨h2,e2,r2,k2⟩:=zCA T hr 4 (by decide)
  have e2:cfi pr 89 [.pointer (some ⟨R,0,none⟩),.int .i64 4] h = some (uw .u64 (zT r 4).2,h2):=e2
  have er:=zAb T r2
  have hlt:=zC8 r (k:=4) (by decide)
  have e4:uw .u64 (zT r 4).2 = .int .u64 ((zT r 4).2:Int):=(zBJ (by omega)).symm
  rw [e4] at e2
  have c:=zCl (k:=.u64) (k':=.i64) zDv (n:=m)
  rw [← zBJ (by omega)] at c
  have d1:decide ((m:Int) < 0) = false:=by simp
  have ci:IntKind.i64.wrap ((zT r 4).2:Int) = ((zT r 4).2:Int):=wrap_i64 (by omega) (by omega)
  unfold zc
  by_cases h0:(zT r 4).1.err = 0
  ·have b0:(((zT r 4).1.err:Int) == 0) = true:=by rw [h0];rfl
   rw [if_neg (by omega)]
   by_cases h1:m < (zT r 4).2
   ·rw [if_pos h1]
    have d2:decide (((zT r 4).2:Int) > (m:Int)) = true:=by simp;omega
    have r3:Rd (h2.wr R (zB4 ⟨(zT r 4).1.s,r.pos,(zT r 4).1.err⟩)) R ⟨(zT r 4).1.s,r.pos,(zT r 4).1.err⟩:=r2.wr ⟨by rw [zBi];exact hr.1.1,by rw [zBi];exact hr.1.2⟩
    (repeat (first|refine zS ?_|refine zK ?_|refine zR ?_|refine zD ?_|refine zB ?_|refine zI ?_|refine zJ ?_|refine zP ?_|refine zE ?_|refine zG ?_|refine zF ?_|refine zH (by decide) ?_|refine zQ ?_|((first|refine zC ?_|refine zM ?_|refine zO rfl rfl ?_|refine zN rfl ?_|refine zL ?_);simp only [yq108.down,zA,lemS.down,lemC.down,zex,zew,zeu,reduceIte,zev,zey,zez,ze0,ze1,ze2,ze3,ze4,ze5,reduceCtorEq,lemH.down,at0,e2,er,b0,d1,c,d2,r2.s1,r3.s2L])))
    refine ⟨.inr rfl,_,rfl,by (simp only [yq108.down,zA,lemS.down,lemC.down,zex,zew,zeu,reduceIte,zev,zey,zez,ze0,ze1,ze2,ze3,ze4,ze5,reduceCtorEq])<;>rfl,?_,?_⟩
    ·have:=r3.wr (q:=⟨r.s,r.pos,3⟩) hr.1
     rw [zBi]
     rw [zBi] at this
     exact this
    ·exact (k2.trans Keeps.wr (fun _ _ e=>e)).trans Keeps.wr (fun _ _ e=>e)
   ·rw [if_neg h1]
    have d2:decide (((zT r 4).2:Int) > (m:Int)) = false:=by simp;omega
    (repeat (first|refine zS ?_|refine zK ?_|refine zR ?_|refine zD ?_|refine zB ?_|refine zI ?_|refine zJ ?_|refine zP ?_|refine zE ?_|refine zG ?_|refine zF ?_|refine zH (by decide) ?_|refine zQ ?_|((first|refine zC ?_|refine zM ?_|refine zO rfl rfl ?_|refine zN rfl ?_|refine zL ?_);simp only [yq108.down,zA,lemS.down,lemC.down,zex,zew,zeu,reduceIte,zev,zey,zez,ze0,ze1,ze2,ze3,ze4,ze5,reduceCtorEq,lemH.down,at0,e2,er,b0,d1,c,d2,ci])))
    exact⟨.inr rfl,_,rfl,by simp only [yq108.down,zA,lemS.down,lemC.down,zex,zew,zeu,reduceIte,zev,zey,zez,ze0,ze1,ze2,ze3,ze4,ze5,reduceCtorEq],r2,k2⟩
  ·have b0:(((zT r 4).1.err:Int) == 0) = false:=by rw [beq_eq_false_iff_ne];omega
   rw [if_pos h0]
   (repeat (first|refine zS ?_|refine zK ?_|refine zR ?_|refine zD ?_|refine zB ?_|refine zI ?_|refine zJ ?_|refine zP ?_|refine zE ?_|refine zG ?_|refine zF ?_|refine zH (by decide) ?_|refine zQ ?_|((first|refine zC ?_|refine zM ?_|refine zO rfl rfl ?_|refine zN rfl ?_|refine zL ?_);simp only [yq108.down,zA,lemS.down,lemC.down,zex,zew,zeu,reduceIte,zev,zey,zez,ze0,ze1,ze2,ze3,ze4,ze5,reduceCtorEq,lemH.down,at0,e2,er,b0])))
   exact⟨.inr rfl,_,rfl,by (simp only [yq108.down,zA,lemS.down,lemC.down,zex,zew,zeu,reduceIte,zev,zey,zez,ze0,ze1,ze2,ze3,ze4,ze5,reduceCtorEq])<;>rfl,r2,k2⟩
 obtain⟨v,h',e,rfl,r⟩:=this
 exact⟨h',e,r⟩
theorem zFc {pr:Prog} (T:zAL pr) (hr:Rd h R r) (m:Nat) (hm:m < 9223372036854775808) :
  ∃ h',cfi pr 87 [.pointer (some ⟨R,0,none⟩),.int .i64 (OfNat.ofNat m)] h = some (.string (strOf (z8 r m).2),h')∧Rd h' R (z8 r m).1∧Keeps (fun A=>A = R) h h':=by
 have:∃ v h',cfi pr 87 [.pointer (some ⟨R,0,none⟩),.int .i64 (OfNat.ofNat m)] h = some (v,h')∧v = .string (strOf (z8 r m).2)∧Rd h' R (z8 r m).1∧Keeps (fun A=>A = R) h h':=by
  refine zAA T.rt T.rtC rfl ?_
  unfold xq87
  dsimp only [zh]
  refine wpk.out (k:=[]) ?_
  have at0:=zGx T hr
  obtain⟨h2,e2,r2,k2⟩:=zD3 T hr m hm
  have hc:=zbM r m
  obtain⟨h3,e3,r3,k3⟩:=zGz T r2 ((zc r m).2:Int) (by omega)
  have er:=zAb T r3
  have hs3:(zX (zc r m).1 ((zc r m).2:Int)).1.s = r.s:=by rw [zFq,countR_s]
  unfold z8
  dsimp only
  by_cases h0:(zX (zc r m).1 ((zc r m).2:Int)).1.err = 0
  ·have b0:(((zX (zc r m).1 ((zc r m).2:Int)).1.err:Int) == 0) = true:=by rw [h0];rfl
   rw [if_neg (by omega)]
   (repeat (first|refine zS ?_|refine zK ?_|refine zR ?_|refine zD ?_|refine zB ?_|refine zI ?_|refine zJ ?_|refine zP ?_|refine zE ?_|refine zG ?_|refine zF ?_|refine zH (by decide) ?_|refine zQ ?_|((first|refine zC ?_|refine zM ?_|refine zO rfl rfl ?_|refine zN rfl ?_|refine zL ?_);simp only [yq87.down,zA,lemS.down,lemC.down,zex,zew,zeu,reduceIte,zev,zey,zez,ze0,ze1,ze2,ze3,ze4,ze5,reduceCtorEq,lemH.down,at0,e2,e3,er,b0])))
   exact⟨.inr rfl,_,rfl,by simp only [yq87.down,zA,lemS.down,lemC.down,zex,zew,zeu,reduceIte,zev,zey,zez,ze0,ze1,ze2,ze3,ze4,ze5,reduceCtorEq],r3,k2.trans k3 (fun _ _ e=>e)⟩
  ·have b0:(((zX (zc r m).1 ((zc r m).2:Int)).1.err:Int) == 0) = false:=by rw [beq_eq_false_iff_ne];omega
   rw [if_pos h0]
   (repeat (first|refine zS ?_|refine zK ?_|refine zR ?_|refine zD ?_|refine zB ?_|refine zI ?_|refine zJ ?_|refine zP ?_|refine zE ?_|refine zG ?_|refine zF ?_|refine zH (by decide) ?_|refine zQ ?_|((first|refine zC ?_|refine zM ?_|refine zO rfl rfl ?_|refine zN rfl ?_|refine zL ?_);simp only [yq87.down,zA,lemS.down,lemC.down,zex,zew,zeu,reduceIte,zev,zey,zez,ze0,ze1,ze2,ze3,ze4,ze5,reduceCtorEq,lemH.down,at0,e2,e3,er,b0,zCG,r3.s1])))
   refine ⟨.inr rfl,_,rfl,by simp only [yq87.down,zA,lemS.down,lemC.down,zex,zew,zeu,reduceIte,zev,zey,zez,ze0,ze1,ze2,ze3,ze4,ze5,reduceCtorEq],r3.wr ⟨by rw [hs3];exact hr.1.1,by rw [hs3];exact hr.1.2⟩,(k2.trans k3 (fun _ _ e=>e)).trans Keeps.wr (fun _ _ e=>e)⟩
 obtain⟨v,h',e,rfl,r⟩:=this
 exact⟨h',e,r⟩
theorem zB9 {pr:Prog} (T:zAL pr) (hr:Rd h R r) :
  ∃ h',cfi pr 90 [.pointer (some ⟨R,0,none⟩)] h = some (.string (strOf (zX r 32).2),h')∧Rd h' R (zX r 32).1∧Keeps (fun A=>A = R) h h':=by
 have:∃ v h',cfi pr 90 [.pointer (some ⟨R,0,none⟩)] h = some (v,h')∧v = .string (strOf (zX r 32).2)∧Rd h' R (zX r 32).1∧Keeps (fun A=>A = R) h h':=by
  refine zAA T.rh T.rhC rfl ?_
  unfold xq90
  dsimp only [zh]
  refine wpk.out (k:=[]) ?_
  obtain⟨h3,e3,r3,k3⟩:=zGz T hr 32 (by decide)
  (repeat (first|refine zS ?_|refine zK ?_|refine zR ?_|refine zD ?_|refine zB ?_|refine zI ?_|refine zJ ?_|refine zP ?_|refine zE ?_|refine zG ?_|refine zF ?_|refine zH (by decide) ?_|refine zQ ?_|((first|refine zC ?_|refine zM ?_|refine zO rfl rfl ?_|refine zN rfl ?_|refine zL ?_);simp only [yq90.down,zA,lemS.down,lemC.down,zex,zew,zeu,reduceIte,zev,zey,zez,ze0,ze1,ze2,ze3,ze4,ze5,reduceCtorEq,lemH.down,e3])))
  exact⟨.inr rfl,_,rfl,by simp only [yq90.down,zA,lemS.down,lemC.down,zex,zew,zeu,reduceIte,zev,zey,zez,ze0,ze1,ze2,ze3,ze4,ze5,reduceCtorEq],r3,k3⟩
 obtain⟨v,h',e,rfl,r⟩:=this
 exact⟨h',e,r⟩
theorem zDP {pr:Prog} (T:zAL pr) (hr:Rd h R r) (m:Nat) :
  ∃ h',cfi pr 151 [.pointer (some ⟨R,0,none⟩),.int .i64 (OfNat.ofNat m)] h = some (.tuple #[],h')∧Rd h' R (if r.err = 0 then ⟨r.s,r.pos,m⟩ else r)∧Keeps (fun A=>A = R) h h':=by
 have:∃ v h',cfi pr 151 [.pointer (some ⟨R,0,none⟩),.int .i64 (OfNat.ofNat m)] h = some (v,h')∧v = .tuple #[]∧Rd h' R (if r.err = 0 then ⟨r.s,r.pos,m⟩ else r)∧Keeps (fun A=>A = R) h h':=by
  refine zAA T.rf T.rfC rfl ?_
  unfold xq151
  dsimp only [zh]
  refine wpk.out (k:=[]) ?_
  by_cases h0:r.err = 0
  ·have b0:((r.err:Int) == 0) = true:=by rw [h0];rfl
   rw [if_pos h0]
   (repeat (first|refine zS ?_|refine zK ?_|refine zR ?_|refine zD ?_|refine zB ?_|refine zI ?_|refine zJ ?_|refine zP ?_|refine zE ?_|refine zG ?_|refine zF ?_|refine zH (by decide) ?_|refine zQ ?_|((first|refine zC ?_|refine zM ?_|refine zO rfl rfl ?_|refine zN rfl ?_|refine zL ?_);simp only [yq151.down,zA,lemS.down,lemC.down,zex,zew,zeu,reduceIte,zev,zey,zez,ze0,ze1,ze2,ze3,ze4,ze5,reduceCtorEq,lemH.down,zCG,hr.l2,b0,hr.s2L])))
   exact⟨.inl rfl,_,rfl,rfl,hr.wr hr.1,Keeps.wr⟩
  ·have b0:((r.err:Int) == 0) = false:=by rw [beq_eq_false_iff_ne];omega
   rw [if_neg h0]
   (repeat (first|refine zS ?_|refine zK ?_|refine zR ?_|refine zD ?_|refine zB ?_|refine zI ?_|refine zJ ?_|refine zP ?_|refine zE ?_|refine zG ?_|refine zF ?_|refine zH (by decide) ?_|refine zQ ?_|((first|refine zC ?_|refine zM ?_|refine zO rfl rfl ?_|refine zN rfl ?_|refine zL ?_);simp only [yq151.down,zA,lemS.down,lemC.down,zex,zew,zeu,reduceIte,zev,zey,zez,ze0,ze1,ze2,ze3,ze4,ze5,reduceCtorEq,lemH.down,zCG,hr.l2,b0])))
   exact⟨.inl rfl,_,rfl,rfl,hr,Keeps.refl⟩
 obtain⟨v,h',e,rfl,r⟩:=this
 exact⟨h',e,r⟩
theorem zKB {pr:Prog} (T:zAL pr) (hr:Rd h R r) :
  ∃ h',cfi pr 91 [.pointer (some ⟨R,0,none⟩)] h = some (.int .i64 ((endR r).err:Int),h')∧Rd h' R (endR r)∧Keeps (fun A=>A = R) h h':=by
 have:∃ v h',cfi pr 91 [.pointer (some ⟨R,0,none⟩)] h = some (v,h')∧v = .int .i64 ((endR r).err:Int)∧Rd h' R (endR r)∧Keeps (fun A=>A = R) h h':=by
  refine zAA T.re T.reC rfl ?_
  unfold xq91
  dsimp only [zh]
  refine wpk.out (k:=[]) ?_
  have lf:=zad T hr
  have ok:=hr.1
  unfold RS.ok at ok
  unfold endR
  by_cases h1:0 < r.s.length - r.pos
  ·have d1:decide ((r.s.length:Int) - r.pos > 0) = true:=by simp;omega
   obtain⟨h2,e2,r2,k2⟩:=zDP T hr 5
   have e2:cfi pr 151 [.pointer (some ⟨R,0,none⟩),.int .i64 5] h = some (.tuple #[],h2):=e2
   have er:=zAb T r2
   have eq:(if r.err = 0 then (⟨r.s,r.pos,5⟩:RS) else r) = if 0 < r.s.length - r.pos∧r.err = 0 then ⟨r.s,r.pos,5⟩ else r:=by
    by_cases h0:r.err = 0
    ·rw [if_pos h0,if_pos ⟨h1,h0⟩]
    ·rw [if_neg h0,if_neg (fun h=>h0 h.2)]
   rw [eq] at r2 er
   (repeat (first|refine zS ?_|refine zK ?_|refine zR ?_|refine zD ?_|refine zB ?_|refine zI ?_|refine zJ ?_|refine zP ?_|refine zE ?_|refine zG ?_|refine zF ?_|refine zH (by decide) ?_|refine zQ ?_|((first|refine zC ?_|refine zM ?_|refine zO rfl rfl ?_|refine zN rfl ?_|refine zL ?_);simp only [yq91.down,zA,lemS.down,lemC.down,zex,zew,zeu,reduceIte,zev,zey,zez,ze0,ze1,ze2,ze3,ze4,ze5,reduceCtorEq,lemH.down,lf,d1,e2,er])))
   exact⟨.inr rfl,_,rfl,by simp only [yq91.down,zA,lemS.down,lemC.down,zex,zew,zeu,reduceIte,zev,zey,zez,ze0,ze1,ze2,ze3,ze4,ze5,reduceCtorEq],r2,k2⟩
  ·have d1:decide ((r.s.length:Int) - r.pos > 0) = false:=by simp;omega
   have er:=zAb T hr
   rw [if_neg (fun h=>h1 h.1)]
   (repeat (first|refine zS ?_|refine zK ?_|refine zR ?_|refine zD ?_|refine zB ?_|refine zI ?_|refine zJ ?_|refine zP ?_|refine zE ?_|refine zG ?_|refine zF ?_|refine zH (by decide) ?_|refine zQ ?_|((first|refine zC ?_|refine zM ?_|refine zO rfl rfl ?_|refine zN rfl ?_|refine zL ?_);simp only [yq91.down,zA,lemS.down,lemC.down,zex,zew,zeu,reduceIte,zev,zey,zez,ze0,ze1,ze2,ze3,ze4,ze5,reduceCtorEq,lemH.down,lf,d1,er])))
   exact⟨.inr rfl,_,rfl,by simp only [yq91.down,zA,lemS.down,lemC.down,zex,zew,zeu,reduceIte,zev,zey,zez,ze0,ze1,ze2,ze3,ze4,ze5,reduceCtorEq],hr,Keeps.refl⟩
 obtain⟨v,h',e,rfl,r⟩:=this
 exact⟨h',e,r⟩
end
end Go.X
end
