/- Headers and certificates. -/
import Derived.Test.YtnppabpbdobaiaaGreatProg
import Derived.KernelRfl
import Derived.Test.YtnppabpbdobaiaaGreatXC
import Derived.Test.YtnppabpbdobaiaaGreatXH
import Derived.Test.YtnppabpbdobaiaaGreatXL
set_option linter.unusedSimpArgs false
set_option linter.unusedVariables false
set_option maxHeartbeats 2000000
open Nat renaming reduceLeDiff → zeu, reduceEqDiff → zev, reduceAdd → zew
open Int renaming reduceBEq → zex, reduceLT → zey, reduceLE → zez, reduceGT → ze0, reduceGE → ze1, reduceEq → ze2, reduceAdd → ze3, reduceSub → ze4, reduceMul → ze5
section
open Go Go.X
namespace Go.X
set_option linter.unusedVariables false
theorem zi {b:Bool}:zFZ (.tuple #[]) b = false:=rfl
theorem zcC (n k:Nat):numB n (k + 1) = numB (n / 256) k ++ [UInt8.ofNat n]:=by
 unfold numB
 rw [List.range_succ,List.map_append]
 congr 1
 ·apply List.map_congr_left
  intro i hi
  have hi:i < k:=by simpa using hi
  congr 1
  rw [Nat.shiftRight_eq_div_pow,Nat.shiftRight_eq_div_pow,Nat.div_div_eq_div_mul]
  congr 1
  have:8 * (k + 1 - 1 - i) = 8 + 8 * (k - 1 - i):=by omega
  rw [this,Nat.pow_add]
 ·simp
theorem za5 {pr:Prog} {f:Nat} {F:XF} {args:List Value} {h:Heap} {v:Value} (hp:pr.prim f = none) (hF:pr.code f = some F) (hn:args.length = F.nargs) (hc:Comes pr F args h v):∃ h1,cfi pr f args h = some (v,h1)∧Grows h h1:=by
 obtain⟨e,t',h1,hr,he,hres,hg⟩:=hc
 exact⟨h1,zDX hp hF hn ⟨e,t',h1,hr,he,hres,rfl⟩,hg⟩
theorem zL0 (b:List UInt8):numB (numV b) b.length = b:=by
 induction h:b.length generalizing b with
 | zero=>simp at h;subst h;rfl
 | succ n ih=>
  obtain⟨c,x,rfl⟩:∃ c x,b = c ++ [x]:=by
   rcases List.eq_nil_or_concat b with rfl|⟨c,x,e⟩
   ·simp at h
   ·exact⟨c,x,by simpa using e⟩
  have hc:c.length = n:=by simpa using h
  have hx:=x.toNat_lt
  rw [zcC,zL1,show (numV c * 256 + x.toNat) / 256 = numV c by omega,ih c hc]
  congr 2
  apply UInt8.toNat.inj
  simp
theorem zLV {a:Addr} {n c i e:Nat} {k:IntKind} (hi:i < n):zA0 e (.slice (some a) n c) (.int k (i:Int)) = some (.pointer (some ⟨a.block,a.off + i * e,none⟩)):=by
 simp only [zA0]
 rw [if_pos (by omega),Int.toNat_natCast]
theorem zH0 {h:Heap} {a:Addr} {n:Nat} {l:List Value} (hl:h.loadN a n = some l) {i k:Nat} (hik:i + k≤n) {sp:Option Nat}:h.loadN ⟨a.block,a.off + i,sp⟩ k = some ((l.drop i).take k):=by
 unfold Heap.loadN at hl ⊢
 split at hl
 ·rename_i c hc
  simp only [hc]
  unfold zAm at hl ⊢
  cases hb:(a.off + n).ble c.cells.length with
  | false=>rw [hb] at hl;cases hl
  | true=>
   rw [hb] at hl
   cases hl
   have:=Nat.le_of_ble_eq_true hb
   rw [Nat.ble_eq_true_of_le (by omega)]
   simp only [cond_true]
   rw [List.drop_take,List.drop_drop,List.take_take,Nat.min_eq_left (by omega)]
 ·cases hl
theorem box1 {h:Heap} {v:Value} (hc:zq v = [v]):∃ g,h.new [v] = g∧Var g h.next [v]∧Grows h g∧g.next = h.next + 1:=⟨_,rfl,Var.new_self,Grows.new,rfl⟩
theorem ci64 {n:Nat} (hn:n < 9223372036854775808):zA4 .i64 (uw .u64 n) = some (.int .i64 (n:Int)):=by
 rw [← zBJ (by omega),zA,wrap_i64 (by omega) (by omega)]
theorem zBO {z:List Value}:zAB z [] = some z:=rfl
theorem zA1 {t:Fr} {h:Heap} {i n:Nat} {a:Addr} {vs:List Value} (ht:t.get i = .pointer (some a)) (hl:h.loadN a n = some vs):zw t h [.cellN i n] = some (.agg vs.toArray):=by
 simp [zw,zAO,resX,ht,hl,zAX]
end Go.X
end
section
namespace Go.X
open Go.Proofs
abbrev zZS:List XO:=[
 ⟨some 2,.p (.mov (C (.bool false))),none⟩]
def xq56_0:List XO:=zZS
theorem xq56_0e:E3 xq56_0 zZS:=E3.rfl
abbrev zZT:List XO:=[
 ⟨some 5,.p (.mov (T 0)),none⟩,
 ⟨some 6,.p (.lenV (T 5)),none⟩,
 ⟨some 7,.p (.mov (C (.int .i64 0))),none⟩]
def xq56_1:List XO:=zZT
theorem xq56_1e:E3 xq56_1 zZT:=E3.rfl
abbrev zZU:List XO:=[
 ⟨some 8,.p (.bin .lss (T 7) (T 6)),none⟩]
def xq56_2:List XO:=zZU
theorem xq56_2e:E3 xq56_2 zZU:=E3.rfl
abbrev zZV:List XO:=[
 ⟨some 9,.p (.mov (T 7)),none⟩,
 ⟨some 10,.p (.iaddrS 1 (T 5) (T 7)),none⟩,
 ⟨some 11,.r (.load1 (T 10)),none⟩,
 ⟨some 3,.p (.mov (T 9)),none⟩,
 ⟨some 4,.p (.mov (T 11)),none⟩]
def xq56_3:List XO:=zZV
theorem xq56_3e:E3 xq56_3 zZV:=E3.rfl
abbrev zZW:List XO:=[
 ⟨some 12,.p (.mov (T 4)),none⟩,
 ⟨some 13,.p (.bin .lss (T 12) (C (.int .i64 0))),none⟩,
 ⟨some 14,.p (.mov (T 13)),none⟩,
 ⟨some 15,.p (.mov (T 4)),some (14,false)⟩,
 ⟨some 16,.p (.bin .geq (T 15) (C (.int .i64 16))),some (14,false)⟩,
 ⟨some 17,.p (.pick (T 14) (C (.bool true)) (T 16)),none⟩,
 ⟨some 18,.p (.mov (T 17)),none⟩,
 ⟨some 19,.p (.mov (T 3)),some (18,false)⟩,
 ⟨some 20,.p (.bin .gtr (T 19) (C (.int .i64 0))),some (18,false)⟩,
 ⟨some 21,.p (.mov (T 20)),some (18,false)⟩,
 ⟨some 22,.p (.mov (T 0)),some (21,true)⟩,
 ⟨some 23,.p (.mov (T 3)),some (21,true)⟩,
 ⟨some 24,.p (.bin .sub (T 23) (C (.int .i64 1))),some (21,true)⟩,
 ⟨some 25,.p (.iaddrS 1 (T 22) (T 24)),some (21,true)⟩,
 ⟨some 26,.r (.load1 (T 25)),some (21,true)⟩,
 ⟨some 27,.p (.mov (T 4)),some (21,true)⟩,
 ⟨some 28,.p (.bin .geq (T 26) (T 27)),some (21,true)⟩,
 ⟨some 29,.p (.pick (T 21) (T 28) (C (.bool false))),some (18,false)⟩,
 ⟨some 30,.p (.pick (T 18) (C (.bool true)) (T 29)),none⟩]
def xq56_4:List XO:=zZW
theorem xq56_4e:E3 xq56_4 zZW:=E3.rfl
abbrev zZX:List XO:=[
 ⟨some 2,.p (.mov (C (.bool false))),none⟩]
def xq56_5:List XO:=zZX
theorem xq56_5e:E3 xq56_5 zZX:=E3.rfl
abbrev zZY:List XO:=[
 ⟨some 31,.p (.bin .add (T 7) (C (.int .i64 1))),none⟩,
 ⟨some 7,.p (.mov (T 31)),none⟩]
def xq56_6:List XO:=zZY
theorem xq56_6e:E3 xq56_6 zZY:=E3.rfl
def zJ1:XC:=
 .seq (.ops xq56_2) (.seq (.cond (T 8) (.skip) (.exit 0)) (.seq (.block 1 (.seq (.ops xq56_3) (.seq (.ops xq56_4) (.cond (T 30) (.seq (.ops xq56_5) (.ret)) (.skip))))) (.ops xq56_6)))
def xq56_7:XC:=zJ1
theorem xq56_7k {pr:Prog} {k:List KI} {Q:XE→Fr→Heap→Prop} {t:Fr} {h:Heap} (hw:wpk pr zJ1 k Q t h):wpk pr xq56_7 k Q t h:=hw
abbrev zZZ:List XO:=[
 ⟨some 32,.p (.mov (T 0)),none⟩,
 ⟨some 33,.p (.lenV (T 32)),none⟩,
 ⟨some 34,.p (.bin .geq (T 33) (C (.int .i64 1))),none⟩,
 ⟨some 2,.p (.mov (T 34)),none⟩]
def xq56_8:List XO:=zZZ
theorem xq56_8e:E3 xq56_8 zZZ:=E3.rfl
def xq56:XF:=⟨1,[.tmp 2],
 .seq (.ops xq56_0) (.seq (.seq (.ops xq56_1) (.block 0 (.loop xq56_7))) (.seq (.ops xq56_8) (.ret)))⟩
def yq56:=PLift.up (And.intro (And.intro (And.intro (@xq56_0e) (@xq56_1e)) (And.intro (@xq56_2e) (@xq56_3e))) (And.intro (And.intro (@xq56_4e) (@xq56_5e)) (And.intro (@xq56_6e) (@xq56_8e))))
theorem cq56:zg Tryz.prog Tryz.f56 = some xq56:=by kernel_rfl
abbrev zZa:List XO:=[
 ⟨some 1,.a (.box (T 0)),none⟩,
 ⟨some 2,.p (.mov (C (.int .i64 0))),none⟩]
def xq64_0:List XO:=zZa
theorem xq64_0e:E3 xq64_0 zZa:=E3.rfl
abbrev zZb:List XO:=[
 ⟨some 3,.p (.faddr 0 (T 1)),none⟩,
 ⟨some 4,.r (.load1 (T 3)),none⟩,
 ⟨some 5,.p (.bin .lss (T 4) (C (.int .u64 1))),none⟩,
 ⟨some 6,.p (.mov (T 5)),none⟩,
 ⟨some 7,.p (.faddr 1 (T 1)),some (6,false)⟩,
 ⟨some 8,.r (.load1 (T 7)),some (6,false)⟩,
 ⟨some 9,.p (.lenS (T 8)),some (6,false)⟩,
 ⟨some 10,.p (.eql true .int (T 9) (C (.int .i64 32))),some (6,false)⟩,
 ⟨some 11,.p (.pick (T 6) (C (.bool true)) (T 10)),none⟩,
 ⟨some 12,.p (.mov (T 11)),none⟩,
 ⟨some 13,.p (.faddr 2 (T 1)),some (12,false)⟩,
 ⟨some 14,.r (.load1 (T 13)),some (12,false)⟩,
 ⟨some 15,.p (.lenS (T 14)),some (12,false)⟩,
 ⟨some 16,.p (.eql true .int (T 15) (C (.int .i64 32))),some (12,false)⟩,
 ⟨some 17,.p (.pick (T 12) (C (.bool true)) (T 16)),none⟩,
 ⟨some 18,.p (.mov (T 17)),none⟩,
 ⟨some 19,.p (.faddr 3 (T 1)),some (18,false)⟩,
 ⟨some 20,.r (.load1 (T 19)),some (18,false)⟩,
 ⟨some 21,.p (.lenS (T 20)),some (18,false)⟩,
 ⟨some 22,.p (.eql true .int (T 21) (C (.int .i64 32))),some (18,false)⟩,
 ⟨some 23,.p (.pick (T 18) (C (.bool true)) (T 22)),none⟩,
 ⟨some 24,.p (.mov (T 23)),none⟩,
 ⟨some 25,.p (.faddr 4 (T 1)),some (24,false)⟩,
 ⟨some 26,.r (.load1 (T 25)),some (24,false)⟩,
 ⟨some 27,.call (.func 56) [(T 26)],some (24,false)⟩,
 ⟨some 28,.p (.un .not (T 27)),some (24,false)⟩,
 ⟨some 29,.p (.pick (T 24) (C (.bool true)) (T 28)),none⟩]
def xq64_1:List XO:=zZb
theorem xq64_1e:E3 xq64_1 zZb:=E3.rfl
abbrev zZc:List XO:=[
 ⟨some 2,.p (.mov (C (.int .i64 80))),none⟩]
def xq64_2:List XO:=zZc
theorem xq64_2e:E3 xq64_2 zZc:=E3.rfl
abbrev zZd:List XO:=[
 ⟨some 2,.p (.mov (C (.int .i64 0))),none⟩]
def xq64_3:List XO:=zZd
theorem xq64_3e:E3 xq64_3 zZd:=E3.rfl
def xq64:XF:=⟨1,[.tmp 2],
 .seq (.ops xq64_0) (.seq (.seq (.ops xq64_1) (.cond (T 29) (.seq (.ops xq64_2) (.ret)) (.skip))) (.seq (.ops xq64_3) (.ret)))⟩
def yq64:=PLift.up (And.intro (And.intro (@xq64_0e) (@xq64_1e)) (And.intro (@xq64_2e) (@xq64_3e)))
theorem cq64:zg Tryz.prog Tryz.f64 = some xq64:=by kernel_rfl
abbrev zZi:List XO:=[
 ⟨some 6,.p (.mov (T 0)),none⟩,
 ⟨some 7,.p (.mov (T 1)),none⟩,
 ⟨some 8,.p (.lenV (T 7)),none⟩,
 ⟨some 9,.p (.cint .u64 (T 8)),none⟩,
 ⟨some 10,.call (.func 78) [(T 6),(T 9),(C (.int .i64 1))],none⟩]
def xq77_0:List XO:=zZi
theorem xq77_0e:E3 xq77_0 zZi:=E3.rfl
abbrev zZj:List XO:=[
 ⟨some 11,.p (.mov (T 1)),none⟩,
 ⟨some 12,.p (.lenV (T 11)),none⟩,
 ⟨some 13,.p (.mov (C (.int .i64 0))),none⟩]
def xq77_1:List XO:=zZj
theorem xq77_1e:E3 xq77_1 zZj:=E3.rfl
abbrev zZk:List XO:=[
 ⟨some 14,.p (.bin .lss (T 13) (T 12)),none⟩]
def xq77_2:List XO:=zZk
theorem xq77_2e:E3 xq77_2 zZk:=E3.rfl
abbrev zZl:List XO:=[
 ⟨some 15,.p (.iaddrS 1 (T 11) (T 13)),none⟩,
 ⟨some 16,.r (.load1 (T 15)),none⟩,
 ⟨some 5,.p (.mov (T 16)),none⟩]
def xq77_3:List XO:=zZl
theorem xq77_3e:E3 xq77_3 zZl:=E3.rfl
abbrev zZm:List XO:=[
 ⟨some 17,.p (.mov (T 0)),none⟩,
 ⟨some 18,.p (.mov (T 5)),none⟩,
 ⟨some 19,.p (.cint .u64 (T 18)),none⟩,
 ⟨some 20,.call (.func 78) [(T 17),(T 19),(C (.int .i64 1))],none⟩]
def xq77_4:List XO:=zZm
theorem xq77_4e:E3 xq77_4 zZm:=E3.rfl
abbrev zZn:List XO:=[
 ⟨some 21,.p (.bin .add (T 13) (C (.int .i64 1))),none⟩,
 ⟨some 13,.p (.mov (T 21)),none⟩]
def xq77_5:List XO:=zZn
theorem xq77_5e:E3 xq77_5 zZn:=E3.rfl
def zJ2:XC:=
 .seq (.ops xq77_2) (.seq (.cond (T 14) (.skip) (.exit 0)) (.seq (.block 1 (.seq (.ops xq77_3) (.ops xq77_4))) (.ops xq77_5)))
def xq77_6:XC:=zJ2
theorem xq77_6k {pr:Prog} {k:List KI} {Q:XE→Fr→Heap→Prop} {t:Fr} {h:Heap} (hw:wpk pr zJ2 k Q t h):wpk pr xq77_6 k Q t h:=hw
def xq77:XF:=⟨2,[],
 .seq (.ops xq77_0) (.seq (.ops xq77_1) (.block 0 (.loop xq77_6)))⟩
def yq77:=PLift.up (And.intro (And.intro (@xq77_0e) (And.intro (@xq77_1e) (@xq77_2e))) (And.intro (@xq77_3e) (And.intro (@xq77_4e) (@xq77_5e))))
theorem cq77:zg Tryz.prog Tryz.f77 = some xq77:=by kernel_rfl
abbrev zPQ:List XO:=[
 ⟨some 3,.a (.box (T 1)),none⟩]
def zPP:List XO:=zPQ
theorem xq115_0e:E3 zPP zPQ:=E3.rfl
abbrev zPS:List XO:=[
 ⟨some 4,.p (.mov (T 0)),none⟩,
 ⟨some 5,.p (.faddr 0 (T 3)),none⟩,
 ⟨some 6,.r (.load1 (T 5)),none⟩,
 ⟨some 7,.call (.func 78) [(T 4),(T 6),(C (.int .i64 8))],none⟩]
def zPR:List XO:=zPS
theorem xq115_1e:E3 zPR zPS:=E3.rfl
abbrev zPU:List XO:=[
 ⟨some 8,.p (.mov (T 0)),none⟩,
 ⟨some 9,.p (.faddr 1 (T 3)),none⟩,
 ⟨some 10,.r (.load1 (T 9)),none⟩,
 ⟨some 11,.call (.func 79) [(T 8),(T 10)],none⟩]
def zPT:List XO:=zPU
theorem xq115_2e:E3 zPT zPU:=E3.rfl
abbrev zPW:List XO:=[
 ⟨some 12,.p (.mov (T 0)),none⟩,
 ⟨some 13,.p (.faddr 2 (T 3)),none⟩,
 ⟨some 14,.r (.load1 (T 13)),none⟩,
 ⟨some 15,.call (.func 79) [(T 12),(T 14)],none⟩]
def zPV:List XO:=zPW
theorem xq115_3e:E3 zPV zPW:=E3.rfl
abbrev zPY:List XO:=[
 ⟨some 16,.p (.mov (T 0)),none⟩,
 ⟨some 17,.p (.faddr 3 (T 3)),none⟩,
 ⟨some 18,.r (.load1 (T 17)),none⟩,
 ⟨some 19,.call (.func 79) [(T 16),(T 18)],none⟩]
def zPX:List XO:=zPY
theorem xq115_4e:E3 zPX zPY:=E3.rfl
abbrev zPa:List XO:=[
 ⟨some 20,.p (.mov (T 0)),none⟩,
 ⟨some 21,.p (.faddr 4 (T 3)),none⟩,
 ⟨some 22,.r (.load1 (T 21)),none⟩,
 ⟨some 23,.call (.func 77) [(T 20),(T 22)],none⟩]
def zPZ:List XO:=zPa
theorem xq115_5e:E3 zPZ zPa:=E3.rfl
def xq115:XF:=⟨2,[],
 .seq (.ops zPP) (.seq (.ops zPR) (.seq (.ops zPT) (.seq (.ops zPV) (.seq (.ops zPX) (.ops zPZ)))))⟩
def yq115:=PLift.up (And.intro (And.intro (@xq115_0e) (And.intro (@xq115_1e) (@xq115_2e))) (And.intro (@xq115_3e) (And.intro (@xq115_4e) (@xq115_5e))))
theorem cq115:zg Tryz.prog Tryz.f115 = some xq115:=by kernel_rfl
abbrev zPc:List XO:=[
 ⟨some 3,.a (.box (T 1)),none⟩]
def zPb:List XO:=zPc
theorem xq116_0e:E3 zPb zPc:=E3.rfl
abbrev zPe:List XO:=[
 ⟨some 6,.p (.mov (T 0)),none⟩,
 ⟨some 7,.p (.faddr 0 (T 3)),none⟩,
 ⟨some 8,.r (.load1 (T 7)),none⟩,
 ⟨some 9,.p (.lenV (T 8)),none⟩,
 ⟨some 10,.p (.cint .u64 (T 9)),none⟩,
 ⟨some 11,.call (.func 78) [(T 6),(T 10),(C (.int .i64 1))],none⟩]
def zPd:List XO:=zPe
theorem xq116_1e:E3 zPd zPe:=E3.rfl
abbrev zPg:List XO:=[
 ⟨some 12,.p (.faddr 0 (T 3)),none⟩,
 ⟨some 13,.r (.load1 (T 12)),none⟩,
 ⟨some 14,.p (.lenV (T 13)),none⟩,
 ⟨some 15,.p (.mov (C (.int .i64 0))),none⟩]
def zPf:List XO:=zPg
theorem xq116_2e:E3 zPf zPg:=E3.rfl
abbrev zPi:List XO:=[
 ⟨some 16,.p (.bin .lss (T 15) (T 14)),none⟩]
def zPh:List XO:=zPi
theorem xq116_3e:E3 zPh zPi:=E3.rfl
abbrev zPk:List XO:=[
 ⟨some 17,.p (.iaddrS 2 (T 13) (T 15)),none⟩,
 ⟨some 18,.r (.loadN 2 (T 17)),none⟩,
 ⟨some 5,.a (.alloc [(.int .i64 0),(.string (strOf []))]),none⟩,
 ⟨none,.e (.store 2 (T 5) (T 18)),none⟩]
def zPj:List XO:=zPk
theorem xq116_4e:E3 zPj zPk:=E3.rfl
abbrev zPm:List XO:=[
 ⟨some 19,.p (.mov (T 0)),none⟩,
 ⟨some 20,.p (.faddr 0 (T 5)),none⟩,
 ⟨some 21,.r (.load1 (T 20)),none⟩,
 ⟨some 22,.p (.cint .u64 (T 21)),none⟩,
 ⟨some 23,.call (.func 78) [(T 19),(T 22),(C (.int .i64 1))],none⟩]
def zPl:List XO:=zPm
theorem xq116_5e:E3 zPl zPm:=E3.rfl
abbrev zPo:List XO:=[
 ⟨some 24,.p (.mov (T 0)),none⟩,
 ⟨some 25,.p (.faddr 1 (T 5)),none⟩,
 ⟨some 26,.r (.load1 (T 25)),none⟩,
 ⟨some 27,.call (.func 79) [(T 24),(T 26)],none⟩]
def zPn:List XO:=zPo
theorem xq116_6e:E3 zPn zPo:=E3.rfl
abbrev zPq:List XO:=[
 ⟨some 28,.p (.bin .add (T 15) (C (.int .i64 1))),none⟩,
 ⟨some 15,.p (.mov (T 28)),none⟩]
def zPp:List XO:=zPq
theorem xq116_7e:E3 zPp zPq:=E3.rfl
def zJD:XC:=
 .seq (.ops zPh) (.seq (.cond (T 16) (.skip) (.exit 0)) (.seq (.block 1 (.seq (.ops zPj) (.seq (.ops zPl) (.ops zPn)))) (.ops zPp)))
def zPr:XC:=zJD
theorem xq116_8k {pr:Prog} {k:List KI} {Q:XE→Fr→Heap→Prop} {t:Fr} {h:Heap} (hw:wpk pr zJD k Q t h):wpk pr zPr k Q t h:=hw
def xq116:XF:=⟨2,[],
 .seq (.ops zPb) (.seq (.ops zPd) (.seq (.ops zPf) (.block 0 (.loop zPr))))⟩
def yq116:=PLift.up (And.intro (And.intro (And.intro (@xq116_0e) (@xq116_1e)) (And.intro (@xq116_2e) (@xq116_3e))) (And.intro (And.intro (@xq116_4e) (@xq116_5e)) (And.intro (@xq116_6e) (@xq116_7e))))
theorem cq116:zg Tryz.prog Tryz.f116 = some xq116:=by kernel_rfl
abbrev zNh:List XO:=[
 ⟨some 2,.a (.alloc [(.slice none 0 0)]),none⟩]
def zNg:List XO:=zNh
theorem xq104_0e:E3 zNg zNh:=E3.rfl
abbrev zNm:List XO:=[
 ⟨some 3,.a (.alloc [(.slice none 0 0)]),none⟩]
def zNi:List XO:=zNm
theorem xq104_1e:E3 zNi zNm:=E3.rfl
abbrev zNo:List XO:=[
 ⟨some 6,.p (.mov (T 0)),none⟩,
 ⟨some 7,.call (.func 89) [(T 6),(C (.int .i64 1))],none⟩,
 ⟨some 4,.p (.mov (T 7)),none⟩]
def zNn:List XO:=zNo
theorem xq104_2e:E3 zNn zNo:=E3.rfl
abbrev zNq:List XO:=[
 ⟨some 8,.p (.mov (T 4)),none⟩,
 ⟨some 9,.p (.bin .gtr (T 8) (C (.int .u64 0))),none⟩,
 ⟨some 10,.p (.mov (T 9)),none⟩,
 ⟨some 11,.p (.mov (T 0)),some (10,true)⟩,
 ⟨some 12,.call (.func 109) [(T 11)],some (10,true)⟩,
 ⟨some 13,.p (.eql false .int (T 12) (C (.int .i64 0))),some (10,true)⟩,
 ⟨some 14,.p (.pick (T 10) (T 13) (C (.bool false))),none⟩]
def zNp:List XO:=zNq
theorem xq104_3e:E3 zNp zNq:=E3.rfl
abbrev zNs:List XO:=[
 ⟨some 17,.p (.mov (T 0)),none⟩,
 ⟨some 18,.call (.func 89) [(T 17),(C (.int .i64 1))],none⟩,
 ⟨some 19,.p (.cint .i64 (T 18)),none⟩,
 ⟨some 20,.p (.mov (T 0)),none⟩,
 ⟨some 21,.call (.func 90) [(T 20)],none⟩,
 ⟨some 22,.p (.build [(.int .i64 0),(.string (strOf []))] [(0,1,(T 19)),(1,1,(T 21))]),none⟩,
 ⟨some 5,.a (.alloc [(.int .i64 0),(.string (strOf []))]),none⟩,
 ⟨none,.e (.store 2 (T 5) (T 22)),none⟩]
def zNr:List XO:=zNs
theorem xq104_4e:E3 zNr zNs:=E3.rfl
abbrev zNu:List XO:=[
 ⟨some 23,.p (.mov (T 0)),none⟩,
 ⟨some 24,.call (.func 109) [(T 23)],none⟩,
 ⟨some 25,.p (.eql false .int (T 24) (C (.int .i64 0))),none⟩,
 ⟨some 26,.p (.mov (T 25)),none⟩,
 ⟨some 27,.p (.faddr 0 (T 5)),some (26,true)⟩,
 ⟨some 28,.r (.load1 (T 27)),some (26,true)⟩,
 ⟨some 29,.p (.bin .geq (T 28) (C (.int .i64 16))),some (26,true)⟩,
 ⟨some 30,.p (.mov (T 29)),some (26,true)⟩,
 ⟨some 31,.p (.faddr 0 (T 3)),some (30,false)⟩,
 ⟨some 32,.r (.load1 (T 31)),some (30,false)⟩,
 ⟨some 33,.p (.lenV (T 32)),some (30,false)⟩,
 ⟨some 34,.p (.bin .gtr (T 33) (C (.int .i64 0))),some (30,false)⟩,
 ⟨some 35,.p (.mov (T 34)),some (30,false)⟩,
 ⟨some 36,.p (.faddr 0 (T 3)),some (35,true)⟩,
 ⟨some 37,.r (.load1 (T 36)),some (35,true)⟩,
 ⟨some 38,.p (.faddr 0 (T 3)),some (35,true)⟩,
 ⟨some 39,.r (.load1 (T 38)),some (35,true)⟩,
 ⟨some 40,.p (.lenV (T 39)),some (35,true)⟩,
 ⟨some 41,.p (.bin .sub (T 40) (C (.int .i64 1))),some (35,true)⟩,
 ⟨some 42,.p (.iaddrS 2 (T 37) (T 41)),some (35,true)⟩,
 ⟨some 43,.p (.faddr 0 (T 42)),some (35,true)⟩,
 ⟨some 44,.r (.load1 (T 43)),some (35,true)⟩,
 ⟨some 45,.p (.faddr 0 (T 5)),some (35,true)⟩,
 ⟨some 46,.r (.load1 (T 45)),some (35,true)⟩,
 ⟨some 47,.p (.bin .geq (T 44) (T 46)),some (35,true)⟩,
 ⟨some 48,.p (.pick (T 35) (T 47) (C (.bool false))),some (30,false)⟩,
 ⟨some 49,.p (.pick (T 30) (C (.bool true)) (T 48)),some (26,true)⟩,
 ⟨some 50,.p (.pick (T 26) (T 49) (C (.bool false))),none⟩]
def zNt:List XO:=zNu
theorem xq104_5e:E3 zNt zNu:=E3.rfl
abbrev zNw:List XO:=[
 ⟨some 51,.p (.mov (T 0)),none⟩,
 ⟨some 52,.call (.func 151) [(T 51),(C (.int .i64 6))],none⟩]
def zNv:List XO:=zNw
theorem xq104_6e:E3 zNv zNw:=E3.rfl
abbrev zNy:List XO:=[
 ⟨some 53,.p (.faddr 0 (T 3)),none⟩,
 ⟨some 54,.r (.load1 (T 53)),none⟩,
 ⟨some 55,.r (.loadN 2 (T 5)),none⟩,
 ⟨some 56,.a (.bslice [(.int .i64 0),(.string (strOf []))] 1 [(0,2,(T 55))]),none⟩,
 ⟨some 57,.e (.append 2 24 (T 54) (T 56)),none⟩,
 ⟨some 58,.p (.faddr 0 (T 3)),none⟩,
 ⟨none,.e (.store 1 (T 58) (T 57)),none⟩]
def zNx:List XO:=zNy
theorem xq104_7e:E3 zNx zNy:=E3.rfl
abbrev zN0:List XO:=[
 ⟨some 15,.p (.mov (T 4)),none⟩,
 ⟨some 16,.p (.bin .sub (T 15) (C (.int .u64 1))),none⟩,
 ⟨some 4,.p (.mov (T 16)),none⟩]
def zNz:List XO:=zN0
theorem xq104_8e:E3 zNz zN0:=E3.rfl
def zJA:XC:=
 .seq (.seq (.ops zNp) (.cond (T 14) (.skip) (.exit 0))) (.seq (.block 1 (.seq (.ops zNr) (.seq (.seq (.draw zNt []) (.cond (T 50) (.ops zNv) (.skip))) (.ops zNx)))) (.ops zNz))
def zI9:XC:=zJA
theorem xq104_9k {pr:Prog} {k:List KI} {Q:XE→Fr→Heap→Prop} {t:Fr} {h:Heap} (hw:wpk pr zJA k Q t h):wpk pr zI9 k Q t h:=hw
abbrev zNj:List XO:=[
 ⟨some 59,.p (.mov (T 0)),none⟩,
 ⟨some 60,.call (.func 109) [(T 59)],none⟩,
 ⟨some 61,.p (.eql true .int (T 60) (C (.int .i64 0))),none⟩]
def zI6:List XO:=zNj
theorem zdB:E3 zI6 zNj:=E3.rfl
abbrev zNk:List XO:=[
 ⟨some 62,.p (.build [(.slice none 0 0)] []),none⟩,
 ⟨none,.e (.store 1 (T 2) (T 62)),none⟩]
def zI7:List XO:=zNk
theorem zdC:E3 zI7 zNk:=E3.rfl
abbrev zNl:List XO:=[
 ⟨some 63,.r (.loadN 1 (T 3)),none⟩,
 ⟨none,.e (.store 1 (T 2) (T 63)),none⟩]
def zI8:List XO:=zNl
theorem zdD:E3 zI8 zNl:=E3.rfl
def xq104:XF:=⟨1,[.cellN 2 1],
 .seq (.ops zNg) (.seq (.ops zNi) (.seq (.seq (.ops zNn) (.block 0 (.loop zI9))) (.seq (.seq (.ops zI6) (.cond (T 61) (.seq (.ops zI7) (.ret)) (.skip))) (.seq (.ops zI8) (.ret)))))⟩
def yq104:=PLift.up (And.intro (And.intro (And.intro (@xq104_0e) (And.intro (@xq104_1e) (@xq104_2e))) (And.intro (@xq104_3e) (And.intro (@xq104_4e) (@xq104_5e)))) (And.intro (And.intro (@xq104_6e) (And.intro (@xq104_7e) (@xq104_8e))) (And.intro (@zdB) (And.intro (@zdC) (@zdD)))))
theorem cq104:zg Tryz.prog Tryz.f104 = some xq104:=by kernel_rfl
end Go.X
end
section
open Go Go.X
namespace Go.X
set_option linter.unusedVariables false
def zEK:List Value→Option (List Int)
 | []=>some []
 | .int .i64 x :: r=>if -9223372036854775808≤x∧x < 9223372036854775808 then (match zEK r with|some l=>some (x :: l)|none=>none) else none
 | _ :: _=>none
def zAo (l:List Int):List Value:=l.map fun x=>.int .i64 x
theorem zaw (l:List Int):(zAo l).length = l.length:=by simp [zAo]
theorem zLc:∀ {cs:List Value} {l:List Int},zEK cs = some l→cs = zAo l∧∀ x ∈ l,-9223372036854775808≤x∧x < 9223372036854775808
 | [],l,h=>by cases h;exact⟨rfl,by simp⟩
 | c :: cs,l,h=>by
  unfold zEK at h
  split at h
  ·rename_i heq;cases heq
  ·rename_i s r heq
   cases heq
   split at h
   ·rename_i hr
    split at h
    ·rename_i q hq
     cases h
     obtain⟨h1,h2⟩:=zLc hq
     refine ⟨by rw [h1];rfl,fun x hx=>?_⟩
     rcases List.mem_cons.1 hx with rfl|hx
     ·exact hr
     ·exact h2 x hx
    ·cases h
   ·cases h
  ·cases h
theorem zLb:∀ {l:List Int},(∀ x ∈ l,-9223372036854775808≤x∧x < 9223372036854775808)→zEK (zAo l) = some l
 | [],_=>rfl
 | x :: l,h=>by
  have:=zLb (l:=l) (fun y hy=>h y (by simp [hy]))
  unfold zAo at this ⊢
  simp only [List.map_cons,zEK,this]
  rw [if_pos (h x (by simp))]
def zAl (h:Heap):Value→Option (List Int)
 | .slice none n _=>if n = 0 then some [] else none
 | .slice (some a) n _=>if n = 0 then some [] else (match h.loadN a n with|some cs=>zEK cs|none=>none)
 | _=>none
theorem zbv {h h':Heap} (wf:HWF h) (g:Grows h h') {v:Value} {l:List Int} (hs:zAl h v = some l):zAl h' v = some l:=by
 unfold zAl at hs ⊢
 split at hs
 ·exact hs
 ·split at hs
  ·rename_i h0;rw [if_pos h0];exact hs
  ·rename_i h0
   rw [if_neg h0]
   split at hs
   ·rename_i cs hcs;rw [g.loadN wf hcs];exact hs
   ·cases hs
 ·cases hs
theorem zCc {h:Heap} {v:Value} {l:List Int} (hs:zAl h v = some l):(∀ x ∈ l,-9223372036854775808≤x∧x < 9223372036854775808)∧∃ a cap,v = .slice a l.length cap∧∀ i,i < l.length→∃ B o,(∀ k:IntKind,zA0 1 v (.int k (i:Int)) = some (.pointer (some ⟨B,o,none⟩)))∧h.load ⟨B,o,none⟩ = some (.int .i64 (l.getD i 0)):=by
 unfold zAl at hs
 split at hs
 ·rename_i n c
  split at hs
  ·rename_i h0
   cases hs
   subst h0
   exact⟨by simp,none,c,rfl,fun i hi=>by simp at hi⟩
  ·cases hs
 ·rename_i a n c
  split at hs
  ·rename_i h0
   cases hs
   subst h0
   exact⟨by simp,some a,c,rfl,fun i hi=>by simp at hi⟩
  ·split at hs
   ·rename_i cs hcs
    obtain⟨rfl,hb⟩:=zLc hs
    have hn:l.length = n:=by
     have:=zHz hcs
     rw [zaw] at this
     exact this
    subst hn
    refine ⟨hb,some a,c,rfl,fun i hi=>⟨a.block,a.off + i,fun k=>zC2 hi,zFC hcs ?_⟩⟩
    simp [zAo,List.getElem?_eq_getElem hi,List.getD_eq_getElem?_getD]
   ·cases hs
 ·cases hs
def zBy (l:List Int) (i:Nat):Bool:=!(decide (l.getD i 0 < 0) || decide (l.getD i 0≥16) || (decide (0 < i) && decide (l.getD (i - 1) 0≥l.getD i 0)))
def zBg (l:List Int):Bool:=(List.range l.length).all (zBy l) && decide (1≤l.length)
def zDf:Prim:=fun args h=>match args with
 | [v]=>match zAl h v with|some l=>if l.length≤zU then some (.bool (zBg l),h) else none|none=>none
 | _=>none
theorem zLt {h:Heap} {v:Value} {l:List Int} (hs:zAl h v = some l) (hl:l.length≤zU):zDf [v] h = some (.bool (zBg l),h):=by simp only [zDf,hs,if_pos hl]
theorem zH7 {l:List Int} {i:Nat} (hi:i < l.length) (h:zBy l i = false):zBg l = false:=by
 unfold zBg
 rw [Bool.and_eq_false_iff]
 left
 rw [List.all_eq_false]
 exact⟨i,by simpa using hi,by simp [h]⟩
theorem zb3 {l:List Int} (h:∀ j,j < l.length→zBy l j = true):zBg l = decide (1≤l.length):=by
 unfold zBg
 have:(List.range l.length).all (zBy l) = true:=by
  rw [List.all_eq_true]
  intro j hj
  exact h j (by simpa using hj)
 rw [this,Bool.true_and]
theorem zb4 (pr:Prog) (h:Heap) (v:Value) (l:List Int) (hs:zAl h v = some l) (hl:l.length≤zU):Comes pr xq56 [v] h (.bool (zBg l)):=by
 apply Comes.of
 unfold xq56
 dsimp only [zh]
 have hr64:zU = 140737488355328:=rfl
 obtain⟨hb,a,cap,rfl,hel⟩:=zCc hs
 (repeat (first|refine zS ?_|refine zK ?_|refine zR ?_|refine zD ?_|refine zB ?_|refine zI ?_|refine zJ ?_|refine zP ?_|refine zE ?_|refine zG ?_|refine zF ?_|refine zH (by decide) ?_|refine zQ ?_|((first|refine zC ?_|refine zM ?_|refine zO rfl rfl ?_|refine zN rfl ?_|refine zL ?_);simp only [yq56.down,zA,lemS.down,lemC.down,zex,zew,zeu,reduceIte,zev,zey,zez,ze0,ze1,ze2,ze3,ze4,ze5,reduceCtorEq,lemH.down])))
 refine zAG (fun m t g=>∃ i,m = l.length - i∧i≤l.length∧g = h∧(∀ j,j < i→zBy l j = true)∧t.get 0 = .slice a l.length cap∧t.get 5 = .slice a l.length cap∧t.get 6 = .int .i64 (l.length:Int)∧t.get 7 = .int .i64 (i:Int)) ?_ l.length _ _ ⟨0,rfl,by omega,rfl,by simp,by simp only [yq56.down,zA,lemS.down,lemC.down,zex,zew,zeu,reduceIte,zev,zey,zez,ze0,ze1,ze2,ze3,ze4,ze5,reduceCtorEq],by simp only [yq56.down,zA,lemS.down,lemC.down,zex,zew,zeu,reduceIte,zev,zey,zez,ze0,ze1,ze2,ze3,ze4,ze5,reduceCtorEq],by simp only [yq56.down,zA,lemS.down,lemC.down,zex,zew,zeu,reduceIte,zev,zey,zez,ze0,ze1,ze2,ze3,ze4,ze5,reduceCtorEq],by (simp only [yq56.down,zA,lemS.down,lemC.down,zex,zew,zeu,reduceIte,zev,zey,zez,ze0,ze1,ze2,ze3,ze4,ze5,reduceCtorEq])<;>rfl⟩
 rintro m t g ⟨i,rfl,hi,rfl,hall,t0,t5,t6,t7⟩ hnext
 refine xq56_7k ?_
 dsimp only [zJ1]
 (repeat (first|refine zS ?_|refine zK ?_|refine zR ?_|refine zD ?_|refine zB ?_|refine zI ?_|refine zJ ?_|refine zP ?_|refine zE ?_|refine zG ?_|refine zF ?_|refine zH (by decide) ?_|refine zQ ?_|((first|refine zC ?_|refine zM ?_|refine zO rfl rfl ?_|refine zN rfl ?_|refine zL ?_);simp only [yq56.down,zA,lemS.down,lemC.down,zex,zew,zeu,reduceIte,zev,zey,zez,ze0,ze1,ze2,ze3,ze4,ze5,reduceCtorEq,lemH.down,t0,t5,t6,t7])))
 refine ⟨fun hlt=>?_,fun hge=>?_⟩
 ·have hi':i < l.length:=by omega
  obtain⟨B,o,ia,ld⟩:=hel i hi'
  have ld:∀ sp,g.load ⟨B,o,sp⟩ = some (.int .i64 (l.getD i 0)):=fun sp=>ld
  have w1:IntKind.i64.wrap ((i:Int) + 1) = ((i + 1:Nat):Int):=by rw [wrap_i64 (by omega) (by omega)];omega
  have w2:IntKind.i64.wrap ((i:Int) - 1) = (i:Int) - 1:=by rw [wrap_i64 (by omega) (by omega)]
  have fin:=fun (hm:zBy l i = true) (t':Fr) (s0:t'.get 0 = .slice a l.length cap) (s5:t'.get 5 = .slice a l.length cap) (s6:t'.get 6 = .int .i64 (l.length:Int)) (s7:t'.get 7 = .int .i64 ((i + 1:Nat):Int))=>hnext (l.length - (i + 1)) t' g (by omega) ⟨i + 1,rfl,by omega,rfl,fun j hj=>by
   rcases Nat.lt_or_ge j i with h|h
   ·exact hall j h
   ·obtain rfl:j = i:=by omega
    exact hm,s0,s5,s6,s7⟩
  by_cases c1:l.getD i 0 < 0
  ·have d1:decide (l.getD i 0 < 0) = true:=by simpa using c1
   (repeat (first|refine zS ?_|refine zK ?_|refine zR ?_|refine zD ?_|refine zB ?_|refine zI ?_|refine zJ ?_|refine zP ?_|refine zE ?_|refine zG ?_|refine zF ?_|refine zH (by decide) ?_|refine zQ ?_|((first|refine zC ?_|refine zM ?_|refine zO rfl rfl ?_|refine zN rfl ?_|refine zL ?_);simp only [yq56.down,zA,lemS.down,lemC.down,zex,zew,zeu,reduceIte,zev,zey,zez,ze0,ze1,ze2,ze3,ze4,ze5,reduceCtorEq,lemH.down,t0,t5,t6,t7,zAs,ia,ld,d1,zi])))
   refine ⟨.inr rfl,?_,Grows.refl _⟩
   rw [zH7 hi' (by simp only [zBy,d1];rfl)]
   simp only [yq56.down,zA,lemS.down,lemC.down,zex,zew,zeu,reduceIte,zev,zey,zez,ze0,ze1,ze2,ze3,ze4,ze5,reduceCtorEq]
  have d1:decide (l.getD i 0 < 0) = false:=by simpa using c1
  by_cases c2:l.getD i 0≥16
  ·have d2:decide (l.getD i 0≥16) = true:=by simpa using c2
   (repeat (first|refine zS ?_|refine zK ?_|refine zR ?_|refine zD ?_|refine zB ?_|refine zI ?_|refine zJ ?_|refine zP ?_|refine zE ?_|refine zG ?_|refine zF ?_|refine zH (by decide) ?_|refine zQ ?_|((first|refine zC ?_|refine zM ?_|refine zO rfl rfl ?_|refine zN rfl ?_|refine zL ?_);simp only [yq56.down,zA,lemS.down,lemC.down,zex,zew,zeu,reduceIte,zev,zey,zez,ze0,ze1,ze2,ze3,ze4,ze5,reduceCtorEq,lemH.down,t0,t5,t6,t7,zAs,ia,ld,d1,d2,zi])))
   refine ⟨.inr rfl,?_,Grows.refl _⟩
   rw [zH7 hi' (by simp only [zBy,d1,d2];rfl)]
   simp only [yq56.down,zA,lemS.down,lemC.down,zex,zew,zeu,reduceIte,zev,zey,zez,ze0,ze1,ze2,ze3,ze4,ze5,reduceCtorEq]
  have d2:decide (l.getD i 0≥16) = false:=by simp only [ge_iff_le,decide_eq_false_iff_not];exact c2
  by_cases c3:0 < i
  ·have d3:decide ((i:Int) > 0) = true:=by simp;omega
   have d3':decide (0 < i) = true:=by simpa using c3
   obtain⟨B2,o2,ia2,ld2⟩:=hel (i - 1) (by omega)
   have e:((i - 1:Nat):Int) = (i:Int) - 1:=by omega
   rw [e] at ia2
   have ld2:∀ sp,g.load ⟨B2,o2,sp⟩ = some (.int .i64 (l.getD (i - 1) 0)):=fun sp=>ld2
   cases d4:decide (l.getD (i - 1) 0≥l.getD i 0)
   ·(repeat (first|refine zS ?_|refine zK ?_|refine zR ?_|refine zD ?_|refine zB ?_|refine zI ?_|refine zJ ?_|refine zP ?_|refine zE ?_|refine zG ?_|refine zF ?_|refine zH (by decide) ?_|refine zQ ?_|((first|refine zC ?_|refine zM ?_|refine zO rfl rfl ?_|refine zN rfl ?_|refine zL ?_);simp only [yq56.down,zA,lemS.down,lemC.down,zex,zew,zeu,reduceIte,zev,zey,zez,ze0,ze1,ze2,ze3,ze4,ze5,reduceCtorEq,lemH.down,t0,t5,t6,t7,zAs,ia,ld,d1,d2,d3,w2,ia2,ld2,d4,zi,w1])))
    exact fin (by simp only [zBy,d1,d2,d3',d4];rfl) _ (by simp only [yq56.down,zA,lemS.down,lemC.down,zex,zew,zeu,reduceIte,zev,zey,zez,ze0,ze1,ze2,ze3,ze4,ze5,reduceCtorEq,t0]) (by simp only [yq56.down,zA,lemS.down,lemC.down,zex,zew,zeu,reduceIte,zev,zey,zez,ze0,ze1,ze2,ze3,ze4,ze5,reduceCtorEq,t5]) (by simp only [yq56.down,zA,lemS.down,lemC.down,zex,zew,zeu,reduceIte,zev,zey,zez,ze0,ze1,ze2,ze3,ze4,ze5,reduceCtorEq,t6]) (by simp only [yq56.down,zA,lemS.down,lemC.down,zex,zew,zeu,reduceIte,zev,zey,zez,ze0,ze1,ze2,ze3,ze4,ze5,reduceCtorEq])
   ·(repeat (first|refine zS ?_|refine zK ?_|refine zR ?_|refine zD ?_|refine zB ?_|refine zI ?_|refine zJ ?_|refine zP ?_|refine zE ?_|refine zG ?_|refine zF ?_|refine zH (by decide) ?_|refine zQ ?_|((first|refine zC ?_|refine zM ?_|refine zO rfl rfl ?_|refine zN rfl ?_|refine zL ?_);simp only [yq56.down,zA,lemS.down,lemC.down,zex,zew,zeu,reduceIte,zev,zey,zez,ze0,ze1,ze2,ze3,ze4,ze5,reduceCtorEq,lemH.down,t0,t5,t6,t7,zAs,ia,ld,d1,d2,d3,w2,ia2,ld2,d4,zi])))
    refine ⟨.inr rfl,?_,Grows.refl _⟩
    rw [zH7 hi' (by simp only [zBy,d1,d2,d3',d4];rfl)]
    simp only [yq56.down,zA,lemS.down,lemC.down,zex,zew,zeu,reduceIte,zev,zey,zez,ze0,ze1,ze2,ze3,ze4,ze5,reduceCtorEq]
  ·have d3:decide ((i:Int) > 0) = false:=by simp;omega
   have d3':decide (0 < i) = false:=by simpa using c3
   (repeat (first|refine zS ?_|refine zK ?_|refine zR ?_|refine zD ?_|refine zB ?_|refine zI ?_|refine zJ ?_|refine zP ?_|refine zE ?_|refine zG ?_|refine zF ?_|refine zH (by decide) ?_|refine zQ ?_|((first|refine zC ?_|refine zM ?_|refine zO rfl rfl ?_|refine zN rfl ?_|refine zL ?_);simp only [yq56.down,zA,lemS.down,lemC.down,zex,zew,zeu,reduceIte,zev,zey,zez,ze0,ze1,ze2,ze3,ze4,ze5,reduceCtorEq,lemH.down,t0,t5,t6,t7,zAs,ia,ld,d1,d2,d3,zi,w1])))
   exact fin (by simp only [zBy,d1,d2,d3'];rfl) _ (by simp only [yq56.down,zA,lemS.down,lemC.down,zex,zew,zeu,reduceIte,zev,zey,zez,ze0,ze1,ze2,ze3,ze4,ze5,reduceCtorEq,t0]) (by simp only [yq56.down,zA,lemS.down,lemC.down,zex,zew,zeu,reduceIte,zev,zey,zez,ze0,ze1,ze2,ze3,ze4,ze5,reduceCtorEq,t5]) (by simp only [yq56.down,zA,lemS.down,lemC.down,zex,zew,zeu,reduceIte,zev,zey,zez,ze0,ze1,ze2,ze3,ze4,ze5,reduceCtorEq,t6]) (by simp only [yq56.down,zA,lemS.down,lemC.down,zex,zew,zeu,reduceIte,zev,zey,zez,ze0,ze1,ze2,ze3,ze4,ze5,reduceCtorEq])
 ·obtain rfl:i = l.length:=by omega
  have d5:decide ((l.length:Int)≥1) = decide (1≤l.length):=by rw [Bool.eq_iff_iff];simp;omega
  (repeat (first|refine zS ?_|refine zK ?_|refine zR ?_|refine zD ?_|refine zB ?_|refine zI ?_|refine zJ ?_|refine zP ?_|refine zE ?_|refine zG ?_|refine zF ?_|refine zH (by decide) ?_|refine zQ ?_|((first|refine zC ?_|refine zM ?_|refine zO rfl rfl ?_|refine zN rfl ?_|refine zL ?_);simp only [yq56.down,zA,lemS.down,lemC.down,zex,zew,zeu,reduceIte,zev,zey,zez,ze0,ze1,ze2,ze3,ze4,ze5,reduceCtorEq,lemH.down,t0,t5,t6,t7,d5])))
  refine ⟨.inr rfl,?_,Grows.refl _⟩
  rw [zb3 hall]
  simp only [yq56.down,zA,lemS.down,lemC.down,zex,zew,zeu,reduceIte,zev,zey,zez,ze0,ze1,ze2,ze3,ze4,ze5,reduceCtorEq]
end Go.X
end
section
open Go Go.X
namespace Go.X
set_option linter.unusedVariables false
structure Hdr where
 n:Nat
 p:List UInt8
 t:List UInt8
 s:List UInt8
 m:List Int
def zm (x:Hdr) (mv:Value):List Value:=[.int .u64 (x.n:Int),.string (strOf x.p),.string (strOf x.t),.string (strOf x.s),mv]
def HdAt (h:Heap) (x:Hdr) (mv:Value):Prop:=x.n < 18446744073709551616∧zAl h mv = some x.m∧x.m.length≤1000000∧x.p.length + 10000000≤zU∧x.t.length + 10000000≤zU∧x.s.length + 10000000≤zU
theorem HdAt.grow {h h':Heap} {x:Hdr} {mv:Value} (hx:HdAt h x mv) (wf:HWF h) (g:Grows h h'):HdAt h' x mv:=⟨hx.1,zbv wf g hx.2.1,hx.2.2⟩
def hdrL (h:Heap):List Value→Option (Hdr×Value)
 | [.int .u64 n,.string p,.string t,.string s,mv]=>match zAl h mv with
  | some m=>if 0≤n∧n < 18446744073709551616∧m.length≤1000000∧p.data.toList.length + 10000000≤zU∧t.data.toList.length + 10000000≤zU∧s.data.toList.length + 10000000≤zU then some (⟨n.toNat,p.data.toList,t.data.toList,s.data.toList,m⟩,mv) else none
  | none=>none
 | _=>none
theorem hdrL_eq {h:Heap} {l:List Value} {x:Hdr} {mv:Value} (hl:hdrL h l = some (x,mv)):l = zm x mv∧HdAt h x mv:=by
 unfold hdrL at hl
 split at hl
 ·rename_i n p t s v
  split at hl
  ·rename_i m hm
   split at hl
   ·rename_i hc
    cases hl
    refine ⟨?_,by show n.toNat < _;omega,hm,hc.2.2.1,hc.2.2.2.1,hc.2.2.2.2.1,hc.2.2.2.2.2⟩
    simp only [zm,zEc]
    rw [show ((n.toNat:Nat):Int) = n by omega]
   ·cases hl
  ·cases hl
 ·cases hl
theorem hdrL_at {h:Heap} {x:Hdr} {mv:Value} (hx:HdAt h x mv):hdrL h (zm x mv) = some (x,mv):=by
 obtain⟨h1,h2,h3,h4,h5,h6⟩:=hx
 simp only [hdrL,zm,h2,zBd]
 rw [if_pos ⟨by omega,by omega,h3,h4,h5,h6⟩]
 simp
theorem agg_hd {h:Heap} {c:Array Value} {x:Hdr} {mv:Value} (hl:hdrL h c.toList = some (x,mv)):Value.agg c = .agg (zm x mv).toArray∧HdAt h x mv:=by
 obtain⟨h1,h2⟩:=hdrL_eq hl
 exact⟨by rw [← h1],h2⟩
def zAy (x:Hdr):Nat:=if x.n < 1∨x.p.length≠32∨x.t.length≠32∨x.s.length≠32∨zBg x.m = false then 80 else 0
def zEI:Prim:=fun args h=>match args with
 | [.agg c]=>match hdrL h c.toList with|some (x,_)=>some (.int .i64 (zAy x:Int),h)|none=>none
 | _=>none
theorem zHk {h:Heap} {x:Hdr} {mv:Value} (hx:HdAt h x mv):zEI [.agg (zm x mv).toArray] h = some (.int .i64 (zAy x:Int),h):=by
 simp only [zEI,hdrL_at hx]
theorem zDW {x:Hdr} {mv:Value}:zq (.agg (zm x mv).toArray) = zm x mv:=by simp [zq]
theorem hd_box {h:Heap} {x:Hdr} {mv:Value} (hx:HdAt h x mv) (wf:HWF h):∃ g,h.new (zm x mv) = g∧Grows h g∧HdAt g x mv∧(∀ sp,g.loadN ⟨h.next,0,sp⟩ 5 = some (zm x mv))∧(∀ sp,g.load ⟨h.next,0,sp⟩ = some (.int .u64 (x.n:Int)))∧(∀ sp,g.load ⟨h.next,1,sp⟩ = some (.string (strOf x.p))) ∧
  (∀ sp,g.load ⟨h.next,2,sp⟩ = some (.string (strOf x.t)))∧(∀ sp,g.load ⟨h.next,3,sp⟩ = some (.string (strOf x.s)))∧(∀ sp,g.load ⟨h.next,4,sp⟩ = some mv):=by
 have hv:Var (h.new (zm x mv)) h.next (zm x mv):=Var.new_self
 exact⟨_,rfl,Grows.new,hx.grow wf Grows.new,fun sp=>hv.loadAll rfl,fun sp=>hv.load,fun sp=>hv.load,fun sp=>hv.load,fun sp=>hv.load,fun sp=>hv.load⟩
theorem zbj (pr:Prog) (hm:pr.prim 56 = some zDf) (h:Heap) (wf:HWF h) (x:Hdr) (mv:Value) (hx:HdAt h x mv):Comes pr xq64 [.agg (zm x mv).toArray] h (.int .i64 (zAy x:Int)):=by
 apply Comes.of
 unfold xq64
 dsimp only [zh]
 have hr64:zU = 140737488355328:=rfl
 obtain⟨g,hg,gg,gx,lN,l0,l1,l2,l3,l4⟩:=hd_box hx wf
 have cm:=cfi_at hm (zLt gx.2.1 (by have:=gx.2.2.1;omega))
 have hne:∀ {l:List UInt8},l.length = 32→((l.length:Int) == 32) = true:=fun {l} h=>by rw [h];rfl
 have hnf:∀ {l:List UInt8},¬ l.length = 32→((l.length:Int) == 32) = false:=fun {l} h=>by rw [beq_eq_false_iff_ne];omega
 unfold zAy
 by_cases c0:x.n < 1
 ·have d0:decide ((x.n:Int) < 1) = true:=by simp;omega
  rw [if_pos (.inl c0)]
  (repeat (first|refine zS ?_|refine zK ?_|refine zR ?_|refine zD ?_|refine zB ?_|refine zI ?_|refine zJ ?_|refine zP ?_|refine zE ?_|refine zG ?_|refine zF ?_|refine zH (by decide) ?_|refine zQ ?_|((first|refine zC ?_|refine zM ?_|refine zO rfl rfl ?_|refine zN rfl ?_|refine zL ?_);simp only [yq64.down,zA,lemS.down,lemC.down,zex,zew,zeu,reduceIte,zev,zey,zez,ze0,ze1,ze2,ze3,ze4,ze5,reduceCtorEq,lemH.down,zDW,hg,l0,l1,l2,l3,l4,d0,zi])))
  exact⟨.inr rfl,by (simp only [yq64.down,zA,lemS.down,lemC.down,zex,zew,zeu,reduceIte,zev,zey,zez,ze0,ze1,ze2,ze3,ze4,ze5,reduceCtorEq])<;>rfl,gg⟩
 have d0:decide ((x.n:Int) < 1) = false:=by simp;omega
 by_cases c1:x.p.length = 32
 ·have d1:=hne c1
  by_cases c2:x.t.length = 32
  ·have d2:=hne c2
   by_cases c3:x.s.length = 32
   ·have d3:=hne c3
    cases c4:zBg x.m
    ·rw [if_pos (.inr (.inr (.inr (.inr rfl))))]
     rw [c4] at cm
     (repeat (first|refine zS ?_|refine zK ?_|refine zR ?_|refine zD ?_|refine zB ?_|refine zI ?_|refine zJ ?_|refine zP ?_|refine zE ?_|refine zG ?_|refine zF ?_|refine zH (by decide) ?_|refine zQ ?_|((first|refine zC ?_|refine zM ?_|refine zO rfl rfl ?_|refine zN rfl ?_|refine zL ?_);simp only [yq64.down,zA,lemS.down,lemC.down,zex,zew,zeu,reduceIte,zev,zey,zez,ze0,ze1,ze2,ze3,ze4,ze5,reduceCtorEq,lemH.down,zDW,hg,l0,l1,l2,l3,l4,d0,d1,d2,d3,cm,zi])))
     exact⟨.inr rfl,by (simp only [yq64.down,zA,lemS.down,lemC.down,zex,zew,zeu,reduceIte,zev,zey,zez,ze0,ze1,ze2,ze3,ze4,ze5,reduceCtorEq])<;>rfl,gg⟩
    ·rw [if_neg (by simp [c0,c1,c2,c3])]
     rw [c4] at cm
     (repeat (first|refine zS ?_|refine zK ?_|refine zR ?_|refine zD ?_|refine zB ?_|refine zI ?_|refine zJ ?_|refine zP ?_|refine zE ?_|refine zG ?_|refine zF ?_|refine zH (by decide) ?_|refine zQ ?_|((first|refine zC ?_|refine zM ?_|refine zO rfl rfl ?_|refine zN rfl ?_|refine zL ?_);simp only [yq64.down,zA,lemS.down,lemC.down,zex,zew,zeu,reduceIte,zev,zey,zez,ze0,ze1,ze2,ze3,ze4,ze5,reduceCtorEq,lemH.down,zDW,hg,l0,l1,l2,l3,l4,d0,d1,d2,d3,cm,zi])))
     exact⟨.inr rfl,by (simp only [yq64.down,zA,lemS.down,lemC.down,zex,zew,zeu,reduceIte,zev,zey,zez,ze0,ze1,ze2,ze3,ze4,ze5,reduceCtorEq])<;>rfl,gg⟩
   ·have d3:=hnf c3
    rw [if_pos (.inr (.inr (.inr (.inl c3))))]
    (repeat (first|refine zS ?_|refine zK ?_|refine zR ?_|refine zD ?_|refine zB ?_|refine zI ?_|refine zJ ?_|refine zP ?_|refine zE ?_|refine zG ?_|refine zF ?_|refine zH (by decide) ?_|refine zQ ?_|((first|refine zC ?_|refine zM ?_|refine zO rfl rfl ?_|refine zN rfl ?_|refine zL ?_);simp only [yq64.down,zA,lemS.down,lemC.down,zex,zew,zeu,reduceIte,zev,zey,zez,ze0,ze1,ze2,ze3,ze4,ze5,reduceCtorEq,lemH.down,zDW,hg,l0,l1,l2,l3,l4,d0,d1,d2,d3,zi])))
    exact⟨.inr rfl,by (simp only [yq64.down,zA,lemS.down,lemC.down,zex,zew,zeu,reduceIte,zev,zey,zez,ze0,ze1,ze2,ze3,ze4,ze5,reduceCtorEq])<;>rfl,gg⟩
  ·have d2:=hnf c2
   rw [if_pos (.inr (.inr (.inl c2)))]
   (repeat (first|refine zS ?_|refine zK ?_|refine zR ?_|refine zD ?_|refine zB ?_|refine zI ?_|refine zJ ?_|refine zP ?_|refine zE ?_|refine zG ?_|refine zF ?_|refine zH (by decide) ?_|refine zQ ?_|((first|refine zC ?_|refine zM ?_|refine zO rfl rfl ?_|refine zN rfl ?_|refine zL ?_);simp only [yq64.down,zA,lemS.down,lemC.down,zex,zew,zeu,reduceIte,zev,zey,zez,ze0,ze1,ze2,ze3,ze4,ze5,reduceCtorEq,lemH.down,zDW,hg,l0,l1,l2,l3,l4,d0,d1,d2,zi])))
   exact⟨.inr rfl,by (simp only [yq64.down,zA,lemS.down,lemC.down,zex,zew,zeu,reduceIte,zev,zey,zez,ze0,ze1,ze2,ze3,ze4,ze5,reduceCtorEq])<;>rfl,gg⟩
 ·have d1:=hnf c1
  rw [if_pos (.inr (.inl c1))]
  (repeat (first|refine zS ?_|refine zK ?_|refine zR ?_|refine zD ?_|refine zB ?_|refine zI ?_|refine zJ ?_|refine zP ?_|refine zE ?_|refine zG ?_|refine zF ?_|refine zH (by decide) ?_|refine zQ ?_|((first|refine zC ?_|refine zM ?_|refine zO rfl rfl ?_|refine zN rfl ?_|refine zL ?_);simp only [yq64.down,zA,lemS.down,lemC.down,zex,zew,zeu,reduceIte,zev,zey,zez,ze0,ze1,ze2,ze3,ze4,ze5,reduceCtorEq,lemH.down,zDW,hg,l0,l1,l2,l3,l4,d0,d1,zi])))
  exact⟨.inr rfl,by (simp only [yq64.down,zA,lemS.down,lemC.down,zex,zew,zeu,reduceIte,zev,zey,zez,ze0,ze1,ze2,ze3,ze4,ze5,reduceCtorEq])<;>rfl,gg⟩
end Go.X
end
section
open Go Go.X
namespace Go.X
set_option linter.unusedVariables false
def w64 (m:Int):Nat:=(m % 18446744073709551616).toNat
theorem zGo (m:Int):w64 m < 18446744073709551616:=by unfold w64;omega
theorem zHQ (m:Int):zA4 .u64 (.int .i64 m) = some (uw .u64 (w64 m)):=by
 rw [zA,← zBJ (zGo m)]
 congr 2
 unfold w64
 have:IntKind.u64.wrap m = m % 18446744073709551616:=by
  simp [IntKind.wrap,IntKind.signed,IntKind.bits]
 rw [this]
 omega
def zBS (l:List Int):List UInt8:=l.flatMap fun m=>numB (w64 m) 1
def zEQ (l:List Int):List UInt8:=numB l.length 1 ++ zBS l
theorem zLu (l:List Int):(zBS l).length = l.length:=by
 induction l with
 | nil=>rfl
 | cons x l ih=>unfold zBS at ih ⊢;simp only [List.flatMap_cons,List.length_append,zAH,ih,List.length_cons];omega
theorem zb5 {l:List Int} {i:Nat} (hi:i < l.length):zBS (l.take (i + 1)) = zBS (l.take i) ++ numB (w64 (l.getD i 0)) 1:=by
 unfold zBS
 rw [List.take_succ_eq_append_getElem hi,List.flatMap_append,List.flatMap_cons,List.flatMap_nil,List.append_nil]
 simp [List.getD_eq_getElem?_getD,List.getElem?_eq_getElem hi]
structure zGu (pr:Prog):Prop where
 wire:zAL pr
 mem:pr.prim 56 = some zDf
 chk:pr.prim 64 = some zEI
 pm:pr.prim 77 = none
 pmC:pr.code 77 = some xq77
 put:pr.prim 115 = none
 putC:pr.code 115 = some xq115
theorem zac {pr:Prog} (T:zAL pr) (hp:pr.prim 77 = none) (hc:pr.code 77 = some xq77) {h0 h:Heap} (hg:Grows h0 h) {W:Nat} {S:Nat→Prop} {b:List UInt8} (hS0:∀ A,A < h0.next→¬ S A) (hw:WrS h W S b) (hS:∀ A,h.next≤A→S A) {mv:Value} {l:List Int} (st:∀ h',Grows h0 h'→zAl h' mv = some l) (hl:l.length≤1000000) (hroom:b.length + 2000000≤zU) :
  ∃ h',cfi pr 77 [.pointer (some ⟨W,0,none⟩),mv] h = some (.tuple #[],h')∧WrS h' W S (b ++ zEQ l)∧Keeps S h h':=by
 have hr64:zU = 140737488355328:=rfl
 have hs:=st h0 (Grows.refl h0)
 have:∃ v h',cfi pr 77 [.pointer (some ⟨W,0,none⟩),mv] h = some (v,h')∧v = .tuple #[]∧WrS h' W S (b ++ zEQ l)∧Keeps S h h':=by
  refine zAA hp hc rfl ?_
  unfold xq77
  dsimp only [zh]
  refine wpk.out (k:=[]) ?_
  obtain⟨hb,a,cap,rfl,_⟩:=zCc hs
  have c0:=zCl (k:=.u64) (k':=.i64) zDv (n:=l.length)
  obtain⟨h1,e1,w1,k1⟩:=zCB T hw hS l.length 1 (by omega) (by decide) (by omega)
  have e1:cfi pr 78 [.pointer (some ⟨W,0,none⟩),uw .u64 l.length,.int .i64 1] h = some (.tuple #[],h1):=e1
  (repeat (first|refine zS ?_|refine zK ?_|refine zR ?_|refine zD ?_|refine zB ?_|refine zI ?_|refine zJ ?_|refine zP ?_|refine zE ?_|refine zG ?_|refine zF ?_|refine zH (by decide) ?_|refine zQ ?_|((first|refine zC ?_|refine zM ?_|refine zO rfl rfl ?_|refine zN rfl ?_|refine zL ?_);simp only [yq77.down,zA,lemS.down,lemC.down,zex,zew,zeu,reduceIte,zev,zey,zez,ze0,ze1,ze2,ze3,ze4,ze5,reduceCtorEq,lemH.down,c0,e1])))
  refine zAG (fun m t g=>∃ i,m = l.length - i∧i≤l.length∧WrS g W S (b ++ numB l.length 1 ++ zBS (l.take i))∧Keeps S h g∧t.get 0 = .pointer (some ⟨W,0,none⟩)∧t.get 11 = .slice a l.length cap∧t.get 12 = .int .i64 (l.length:Int)∧t.get 13 = .int .i64 (i:Int)) ?_ l.length _ _ ⟨0,rfl,by omega,by simpa [zBS] using w1,k1,by simp only [yq77.down,zA,lemS.down,lemC.down,zex,zew,zeu,reduceIte,zev,zey,zez,ze0,ze1,ze2,ze3,ze4,ze5,reduceCtorEq],by simp only [yq77.down,zA,lemS.down,lemC.down,zex,zew,zeu,reduceIte,zev,zey,zez,ze0,ze1,ze2,ze3,ze4,ze5,reduceCtorEq],by simp only [yq77.down,zA,lemS.down,lemC.down,zex,zew,zeu,reduceIte,zev,zey,zez,ze0,ze1,ze2,ze3,ze4,ze5,reduceCtorEq],by (simp only [yq77.down,zA,lemS.down,lemC.down,zex,zew,zeu,reduceIte,zev,zey,zez,ze0,ze1,ze2,ze3,ze4,ze5,reduceCtorEq])<;>rfl⟩
  rintro m t g ⟨i,rfl,hi,gw,gk,t0,t11,t12,t13⟩ hnext
  refine xq77_6k ?_
  dsimp only [zJ2]
  (repeat (first|refine zS ?_|refine zK ?_|refine zR ?_|refine zD ?_|refine zB ?_|refine zI ?_|refine zJ ?_|refine zP ?_|refine zE ?_|refine zG ?_|refine zF ?_|refine zH (by decide) ?_|refine zQ ?_|((first|refine zC ?_|refine zM ?_|refine zO rfl rfl ?_|refine zN rfl ?_|refine zL ?_);simp only [yq77.down,zA,lemS.down,lemC.down,zex,zew,zeu,reduceIte,zev,zey,zez,ze0,ze1,ze2,ze3,ze4,ze5,reduceCtorEq,lemH.down,t0,t11,t12,t13])))
  refine ⟨fun hlt=>?_,fun hge=>?_⟩
  ·have hi':i < l.length:=by omega
   have hgg:Grows h0 g:=hg.then gk hS0
   obtain⟨_,a',cap',ea,hel⟩:=zCc (st _ hgg)
   obtain⟨B,o,ia,ld⟩:=hel i hi'
   have ld:∀ sp,g.load ⟨B,o,sp⟩ = some (.int .i64 (l.getD i 0)):=fun sp=>ld
   have ww:IntKind.i64.wrap ((i:Int) + 1) = ((i + 1:Nat):Int):=by rw [wrap_i64 (by omega) (by omega)];omega
   have cm:=zHQ (l.getD i 0)
   have hlen:(b ++ numB l.length 1 ++ zBS (l.take i)).length + 8≤zU:=by
    simp only [List.length_append,zAH,zLu,List.length_take];omega
   obtain⟨g2,e2,w2,k2⟩:=zCB T gw (fun A hA=>hS A (Nat.le_trans gk.next hA)) (w64 (l.getD i 0)) 1 (zGo _) (by decide) hlen
   have e2:cfi pr 78 [.pointer (some ⟨W,0,none⟩),uw .u64 (w64 (l.getD i 0)),.int .i64 1] g = some (.tuple #[],g2):=e2
   (repeat (first|refine zS ?_|refine zK ?_|refine zR ?_|refine zD ?_|refine zB ?_|refine zI ?_|refine zJ ?_|refine zP ?_|refine zE ?_|refine zG ?_|refine zF ?_|refine zH (by decide) ?_|refine zQ ?_|((first|refine zC ?_|refine zM ?_|refine zO rfl rfl ?_|refine zN rfl ?_|refine zL ?_);simp only [yq77.down,zA,lemS.down,lemC.down,zex,zew,zeu,reduceIte,zev,zey,zez,ze0,ze1,ze2,ze3,ze4,ze5,reduceCtorEq,lemH.down,t0,t11,t12,t13,zAs,ia,ld,cm,e2,ww])))
   exact hnext (l.length - (i + 1)) _ g2 (by omega) ⟨i + 1,rfl,by omega,by rw [zb5 hi',← List.append_assoc];exact w2,gk.trans k2 (fun _ _ q=>q),by simp only [yq77.down,zA,lemS.down,lemC.down,zex,zew,zeu,reduceIte,zev,zey,zez,ze0,ze1,ze2,ze3,ze4,ze5,reduceCtorEq,t0],by simp only [yq77.down,zA,lemS.down,lemC.down,zex,zew,zeu,reduceIte,zev,zey,zez,ze0,ze1,ze2,ze3,ze4,ze5,reduceCtorEq,t11],by simp only [yq77.down,zA,lemS.down,lemC.down,zex,zew,zeu,reduceIte,zev,zey,zez,ze0,ze1,ze2,ze3,ze4,ze5,reduceCtorEq,t12],by simp only [yq77.down,zA,lemS.down,lemC.down,zex,zew,zeu,reduceIte,zev,zey,zez,ze0,ze1,ze2,ze3,ze4,ze5,reduceCtorEq]⟩
  ·obtain rfl:i = l.length:=by omega
   (repeat (first|refine zS ?_|refine zK ?_|refine zR ?_|refine zD ?_|refine zB ?_|refine zI ?_|refine zJ ?_|refine zP ?_|refine zE ?_|refine zG ?_|refine zF ?_|refine zH (by decide) ?_|refine zQ ?_|((first|refine zC ?_|refine zM ?_|refine zO rfl rfl ?_|refine zN rfl ?_|refine zL ?_);simp only [yq77.down,zA,lemS.down,lemC.down,zex,zew,zeu,reduceIte,zev,zey,zez,ze0,ze1,ze2,ze3,ze4,ze5,reduceCtorEq,lemH.down,t0,t11,t12,t13])))
   refine ⟨.inl rfl,_,rfl,rfl,?_,gk⟩
   rw [List.take_length,List.append_assoc] at gw
   exact gw
 obtain⟨v,h',e,rfl,r⟩:=this
 exact⟨h',e,r⟩
def zA6 (x:Hdr):List UInt8:=numB x.n 8 ++ zAY x.p ++ zAY x.t ++ zAY x.s ++ zEQ x.m
theorem zLU (x:Hdr):(zA6 x).length = 105 + x.m.length:=by simp [zA6,zEQ,zAH,zCb,zLu];omega
theorem PutS {pr:Prog} (T:zGu pr) {h0 h:Heap} (hg:Grows h0 h) {W:Nat} {S:Nat→Prop} {b:List UInt8} (hS0:∀ A,A < h0.next→¬ S A) (hw:WrS h W S b) (hS:∀ A,h.next≤A→S A) {x:Hdr} {mv:Value} (hx:HdAt h0 x mv) (sti:∀ h',Grows h0 h'→zAl h' mv = some x.m) (hroom:b.length + 3000000≤zU) :
  ∃ h',cfi pr 115 [.pointer (some ⟨W,0,none⟩),.agg (zm x mv).toArray] h = some (.tuple #[],h')∧WrS h' W S (b ++ zA6 x)∧Keeps S h h':=by
 have hr64:zU = 140737488355328:=rfl
 have:∃ v h',cfi pr 115 [.pointer (some ⟨W,0,none⟩),.agg (zm x mv).toArray] h = some (v,h')∧v = .tuple #[]∧WrS h' W S (b ++ zA6 x)∧Keeps S h h':=by
  refine zAA T.put T.putC rfl ?_
  unfold xq115
  dsimp only [zh]
  refine wpk.out (k:=[]) ?_
  obtain⟨hx1,hx2,hx3,hx4,hx5,hx6⟩:=hx
  have hWlt:W < h.next:=by obtain⟨_,v,h2,_⟩:=hw;exact h2.1
  obtain⟨g,hgn,v0,gg⟩:∃ g,h.new (zm x mv) = g∧Var g h.next (zm x mv)∧Grows h g:=⟨_,rfl,Var.new_self,Grows.new⟩
  have gnx:g.next = h.next + 1:=by rw [← hgn];rfl
  have w0:WrS g W (fun A=>S A∧A≠h.next) b:=(hw.mono fun A h1 h2=>⟨h2,by omega⟩).grow gg
  have hS':∀ A,g.next≤A→S A∧A≠h.next:=fun A hA=>⟨hS A (by omega),by omega⟩
  have hS0':∀ A,A < h0.next→¬ (S A∧A≠h.next):=fun A hA q=>hS0 A hA q.1
  have hnk:¬ (S h.next∧h.next≠h.next):=fun q=>q.2 rfl
  have la:∀ sp,g.load ⟨h.next,0,sp⟩ = some (.int .u64 (x.n:Int)):=fun sp=>v0.load
  obtain⟨g1,e1,w1,k1⟩:=zCB T.wire w0 hS' x.n 8 hx1 (by decide) (by omega)
  rw [← zBJ hx1] at e1
  have e1:cfi pr 78 [.pointer (some ⟨W,0,none⟩),.int .u64 (x.n:Int),.int .i64 8] g = some (.tuple #[],g1):=e1
  have v1:=v0.keep k1 hnk
  have lb:∀ sp,g1.load ⟨h.next,1,sp⟩ = some (.string (strOf x.p)):=fun sp=>v1.load
  obtain⟨g2,e2,w2,k2⟩:=zCo T.wire w1 (fun A hA=>hS' A (Nat.le_trans k1.next hA)) x.p (by simp only [List.length_append,zAH];omega)
  have k2':=k1.trans k2 (fun _ _ q=>q)
  have v2:=v0.keep k2' hnk
  have lc:∀ sp,g2.load ⟨h.next,2,sp⟩ = some (.string (strOf x.t)):=fun sp=>v2.load
  obtain⟨g3,e3,w3,k3⟩:=zCo T.wire w2 (fun A hA=>hS' A (Nat.le_trans k2'.next hA)) x.t (by simp only [List.length_append,zAH,zCb];omega)
  have k3':=k2'.trans k3 (fun _ _ q=>q)
  have v3:=v0.keep k3' hnk
  have ld:∀ sp,g3.load ⟨h.next,3,sp⟩ = some (.string (strOf x.s)):=fun sp=>v3.load
  obtain⟨g4,e4,w4,k4⟩:=zCo T.wire w3 (fun A hA=>hS' A (Nat.le_trans k3'.next hA)) x.s (by simp only [List.length_append,zAH,zCb];omega)
  have k4':=k3'.trans k4 (fun _ _ q=>q)
  have v4:=v0.keep k4' hnk
  have le:∀ sp,g4.load ⟨h.next,4,sp⟩ = some mv:=fun sp=>v4.load
  obtain⟨g5,e5,w5,k5⟩:=zac T.wire T.pm T.pmC ((hg.trans gg).then k4' hS0') hS0' w4 (fun A hA=>hS' A (Nat.le_trans k4'.next hA)) sti hx3 (by simp only [List.length_append,zAH,zCb];omega)
  have k5':=k4'.trans k5 (fun _ _ q=>q)
  (repeat (first|refine zS ?_|refine zK ?_|refine zR ?_|refine zD ?_|refine zB ?_|refine zI ?_|refine zJ ?_|refine zP ?_|refine zE ?_|refine zG ?_|refine zF ?_|refine zH (by decide) ?_|refine zQ ?_|((first|refine zC ?_|refine zM ?_|refine zO rfl rfl ?_|refine zN rfl ?_|refine zL ?_);simp only [yq115.down,zA,lemS.down,lemC.down,zex,zew,zeu,reduceIte,zev,zey,zez,ze0,ze1,ze2,ze3,ze4,ze5,reduceCtorEq,lemH.down,zDW,hgn,la,e1,lb,e2,lc,e3,ld,e4,le,e5])))
  refine ⟨.inl rfl,_,rfl,rfl,?_,?_⟩
  ·have:=w5.mono (S':=S) (fun A _ q=>q.1)
   simp only [List.append_assoc] at this
   unfold zA6
   simp only [List.append_assoc]
   exact this
  ·exact Keeps.trans (gg.keeps) (k5'.mono fun A _ q=>q.1) (fun _ _ q=>q)
 obtain⟨v,h',e,rfl,r⟩:=this
 exact⟨h',e,r⟩
end Go.X
end
section
open Go Go.X
namespace Go.X
set_option linter.unusedVariables false
abbrev TagL:=List (Int×List UInt8)
def zAM (l:TagL):List Value:=l.flatMap fun q=>[.int .i64 q.1,.string (strOf q.2)]
theorem za0 (l:TagL):(zAM l).length = l.length * 2:=by
 induction l with
 | nil=>rfl
 | cons x l ih=>unfold zAM at ih ⊢;simp only [List.flatMap_cons,List.length_append,ih,List.length_cons,List.length_nil];omega
theorem zay (l m:TagL):zAM (l ++ m) = zAM l ++ zAM m:=by simp [zAM]
theorem zaz (l:TagL) (i:Nat):(zAM l).drop (i * 2) = zAM (l.drop i):=by
 induction l generalizing i with
 | nil=>simp [zAM]
 | cons x l ih=>
  cases i with
  | zero=>simp [zAM]
  | succ i=>
   have:=ih i
   unfold zAM at this ⊢
   rw [show (i + 1) * 2 = i * 2 + 2 by omega]
   simp only [List.drop_succ_cons,List.flatMap_cons,List.cons_append,List.nil_append]
   rw [this]
abbrev inI (x:Int):Prop:=-9223372036854775808≤x∧x < 9223372036854775808
def zDr:List Value→Option TagL
 | []=>some []
 | .int .i64 x :: .string s :: r=>if inI x then (match zDr r with|some l=>some ((x,s.data.toList) :: l)|none=>none) else none
 | _ :: _=>none
theorem zM7:∀ {cs:List Value} {l:TagL},zDr cs = some l→cs = zAM l∧∀ q ∈ l,inI q.1
 | [],l,h=>by cases h;exact⟨rfl,by simp⟩
 | [c],l,h=>by simp [zDr] at h
 | c :: d :: cs,l,h=>by
  unfold zDr at h
  split at h
  ·rename_i heq;cases heq
  ·rename_i x s r heq
   cases heq
   split at h
   ·rename_i hr
    split at h
    ·rename_i q hq
     cases h
     obtain⟨h1,h2⟩:=zM7 hq
     refine ⟨by rw [h1];simp [zAM,zEc],fun y hy=>?_⟩
     rcases List.mem_cons.1 hy with rfl|hy
     ·exact hr
     ·exact h2 y hy
    ·cases h
   ·cases h
  ·cases h
theorem zM6:∀ {l:TagL},(∀ q ∈ l,inI q.1)→zDr (zAM l) = some l
 | [],_=>rfl
 | x :: l,h=>by
  have:=zM6 (l:=l) (fun y hy=>h y (by simp [hy]))
  unfold zAM at this ⊢
  simp only [List.flatMap_cons,List.cons_append,List.nil_append,zDr,this,zBd]
  rw [if_pos (h x (by simp))]
def zDt (h:Heap):Value→Option TagL
 | .slice none n _=>if n = 0 then some [] else none
 | .slice (some a) n _=>if n = 0 then some [] else (match h.loadN a (n * 2) with|some cs=>zDr cs|none=>none)
 | _=>none
theorem zIo {h:Heap} {v:Value} {l:TagL} (hs:zDt h v = some l):(∀ q ∈ l,inI q.1)∧∃ a cap,v = .slice a l.length cap∧∀ i,i < l.length→∃ B o,(∀ k:IntKind,zA0 2 v (.int k (i:Int)) = some (.pointer (some ⟨B,o,none⟩)))∧(∀ sp,h.loadN ⟨B,o,sp⟩ 2 = some [.int .i64 (l.getD i (0,[])).1,.string (strOf (l.getD i (0,[])).2)])∧(∀ sp,h.load ⟨B,o,sp⟩ = some (.int .i64 (l.getD i (0,[])).1))∧(∀ sp,h.load ⟨B,o + 1,sp⟩ = some (.string (strOf (l.getD i (0,[])).2))):=by
 unfold zDt at hs
 split at hs
 ·rename_i n c
  split at hs
  ·rename_i h0
   cases hs
   subst h0
   exact⟨by simp,none,c,rfl,fun i hi=>by simp at hi⟩
  ·cases hs
 ·rename_i a n c
  split at hs
  ·rename_i h0
   cases hs
   subst h0
   exact⟨by simp,some a,c,rfl,fun i hi=>by simp at hi⟩
  ·split at hs
   ·rename_i cs hcs
    obtain⟨rfl,hb⟩:=zM7 hs
    have hn:l.length = n:=by
     have:=zHz hcs
     rw [za0] at this
     omega
    subst hn
    have hp:∀ i,i < l.length→((zAM l).drop (i * 2)).take 2 = [.int .i64 (l.getD i (0,[])).1,.string (strOf (l.getD i (0,[])).2)]:=fun i hi=>by
     rw [zaz,List.drop_eq_getElem_cons hi,List.getD_eq_getElem?_getD,List.getElem?_eq_getElem hi,Option.getD_some]
     rfl
    have hg:∀ i,i < l.length→∀ j,j < 2→(zAM l)[i * 2 + j]? = [Value.int .i64 (l.getD i (0,[])).1,.string (strOf (l.getD i (0,[])).2)][j]?:=fun i hi j hj=>by
     rw [← hp i hi,List.getElem?_take,if_pos hj,List.getElem?_drop]
    refine ⟨hb,some a,c,rfl,fun i hi=>⟨a.block,a.off + i * 2,fun k=>zLV hi,fun sp=>?_,fun sp=>zFC hcs (by have:=hg i hi 0 (by decide);simpa using this),fun sp=>?_⟩⟩
    ·rw [zH0 hcs (by omega),hp i hi]
    ·have:=zFC hcs (i:=i * 2 + 1) (sp:=sp) (by have:=hg i hi 1 (by decide);simpa using this)
     rw [← Nat.add_assoc] at this
     exact this
   ·cases hs
 ·cases hs
theorem Own.tags {h:Heap} {S:Nat→Prop} {v:Value} {n:Nat} {l:TagL} (ho:Own h S 2 v n (zAM l)) (hb:∀ q ∈ l,inI q.1):zDt h v = some l:=by
 obtain⟨a,cap,rfl,hs⟩:=ho.shape
 by_cases h0:n = 0
 ·subst h0
  have:=ho.nil_of
  obtain rfl:l = []:=by cases l with|nil=>rfl|cons x l=>simp [zAM] at this
  cases a<;>simp [zDt]
 ·obtain⟨B,off,sp,rfl,h1,_⟩:=hs h0
  simp only [zDt]
  rw [if_neg h0]
  simp only [h1,zM6 hb]
theorem za2 {v:Value}:zq (.agg [v].toArray) = [v]:=rfl
def RdTags (h:Heap) (v:Value) (l:TagL):Prop:=∀ h',Grows h h'→zDt h' v = some l
theorem RdTags.grow {h h':Heap} {v:Value} {l:TagL} (hr:RdTags h v l) (g:Grows h h'):RdTags h' v l:=fun h2 g2=>hr h2 (g.trans g2)
theorem RdTags.now {h:Heap} {v:Value} {l:TagL} (hr:RdTags h v l):zDt h v = some l:=hr h (Grows.refl h)
theorem Own.rdTags {h:Heap} {S:Nat→Prop} {v:Value} {n:Nat} {l:TagL} (ho:Own h S 2 v n (zAM l)) (hb:∀ q ∈ l,inI q.1):RdTags h v l:=fun _ g=>(ho.grow g).tags hb
theorem Own.pushTag {g:Heap} {S:Nat→Prop} {v:Value} {n:Nat} {q:TagL} (hO:Own g S 2 v n (zAM q)) (x:Int×List UInt8) (hroom:(n + 1) * 24≤zU) :
  ∃ v' g',zA2 (g.new [.int .i64 x.1,.string (strOf x.2)]) 2 24 v (.slice (some ⟨g.next,0,none⟩) 1 1) = some (v',g')∧Own g' (fun A=>S A∨g.next≤A) 2 v' (n + 1) (zAM (q ++ [x]))∧Keeps S g g':=by
 have hO1:=hO.grow (Grows.new (l:=[.int .i64 x.1,.string (strOf x.2)]))
 have hs1:=(Var.new_self (h:=g) (l:=[.int .i64 x.1,.string (strOf x.2)])).src (n:=1) (esz:=2) (bytes:=24) (s:=v) (sp:=none) (c:=1) rfl (by decide)
 obtain⟨v',g2,e2,hO2,k2⟩:=hO1.append (bytes:=24) (m:=1) (new:=[.int .i64 x.1,.string (strOf x.2)]) rfl rfl (by decide) (by decide) hroom
 have hk:Keeps S g g2:=(Keeps.new (W:=S)).trans k2 (fun _ _ e=>e)
 refine ⟨v',g2,by rw [hs1,e2],?_,hk⟩
 have e:zAM q ++ [.int .i64 x.1,.string (strOf x.2)] = zAM (q ++ [x]):=by rw [zay];rfl
 rw [e] at hO2
 exact hO2.mono fun A hA=>hA.imp id fun q=>by
  have:(g.new [.int .i64 x.1,.string (strOf x.2)]).next = g.next + 1:=rfl
  omega
theorem RdTags.elim {h:Heap} {v:Value} {l:TagL} (hr:RdTags h v l) {i:Nat} (hi:i < l.length):∃ B o,(∀ k:IntKind,zA0 2 v (.int k (i:Int)) = some (.pointer (some ⟨B,o,none⟩)))∧∀ h',Grows h h'→(∀ sp,h'.loadN ⟨B,o,sp⟩ 2 = some [.int .i64 (l.getD i (0,[])).1,.string (strOf (l.getD i (0,[])).2)])∧(∀ sp,h'.load ⟨B,o,sp⟩ = some (.int .i64 (l.getD i (0,[])).1))∧(∀ sp,h'.load ⟨B,o + 1,sp⟩ = some (.string (strOf (l.getD i (0,[])).2))):=by
 obtain⟨hb,a,cap,rfl,hel⟩:=zIo hr.now
 obtain⟨B,o,ia,_⟩:=hel i hi
 refine ⟨B,o,ia,fun h' g=>?_⟩
 obtain⟨_,a',cap',e,hel'⟩:=zIo (hr h' g)
 cases e
 obtain⟨B',o',ia',ld'⟩:=hel' i hi
 have:=(ia .i64).symm.trans (ia' .i64)
 simp only [Option.some.injEq,Value.pointer.injEq,Addr.mk.injEq,and_true] at this
 obtain⟨rfl,rfl⟩:=this
 exact ld'
abbrev tagV (r:Int) (t:List UInt8):Value:=.agg #[.int .i64 r,.string (strOf t)]
theorem zM8 {g:Heap} {r:Int} {t:List UInt8}:∃ g1 g2,g.new [.int .i64 0,.string (strOf [])] = g1∧zn g1 2 (.pointer (some ⟨g.next,0,none⟩)) (tagV r t) = some (.tuple #[],g2)∧Var g2 g.next [.int .i64 r,.string (strOf t)]∧Grows g g2∧g2.next = g.next + 1:=by
 have v0:Var (g.new [.int .i64 0,.string (strOf [])]) g.next [.int .i64 0,.string (strOf [])]:=Var.new_self
 exact⟨_,_,rfl,v0.storeAll rfl rfl (by decide) rfl,v0.wr,Grows.new.wr (Nat.le_refl _),rfl⟩
end Go.X
end
section
open Go Go.X
namespace Go.X
set_option linter.unusedVariables false
structure zGw (pr:Prog):Prop where
 wire:zAL pr
 put:pr.prim 116 = none
 putC:pr.code 116 = some xq116
def zAp (l:TagL):List UInt8:=l.flatMap fun q=>numB (w64 q.1) 1 ++ zAY q.2
def zBN (l:TagL):List UInt8:=numB l.length 1 ++ zAp l
theorem zHM (l:TagL):(zAp l).length = l.length * 33:=by
 induction l with
 | nil=>rfl
 | cons x l ih=>unfold zAp at ih ⊢;simp only [List.flatMap_cons,List.length_append,zAH,zCb,ih,List.length_cons];omega
theorem zKx (l m:TagL):zAp (l ++ m) = zAp l ++ zAp m:=by simp [zAp]
theorem za4 {l:TagL} {i:Nat} (hi:i < l.length):zAp (l.take (i + 1)) = zAp (l.take i) ++ numB (w64 (l.getD i (0,[])).1) 1 ++ zAY (l.getD i (0,[])).2:=by
 rw [List.take_succ_eq_append_getElem hi,zKx,List.getD_eq_getElem?_getD,List.getElem?_eq_getElem hi,List.append_assoc]
 simp [zAp]
theorem zKw (l:TagL):(zBN l).length = 1 + l.length * 33:=by simp [zBN,zAH,zHM]
theorem zKA {pr:Prog} (T:zGw pr) {h0 h:Heap} (hg:Grows h0 h) {W:Nat} {S:Nat→Prop} {b:List UInt8} (hS0:∀ A,A < h0.next→¬ S A) (hw:WrS h W S b) (hS:∀ A,h.next≤A→S A) {v:Value} {l:TagL} (hr:RdTags h0 v l) (hl:l.length≤1000000) (hroom:b.length + 40000000≤zU) :
  ∃ h',cfi pr 116 [.pointer (some ⟨W,0,none⟩),.agg [v].toArray] h = some (.tuple #[],h')∧WrS h' W S (b ++ zBN l)∧Keeps S h h':=by
 have hr64:zU = 140737488355328:=rfl
 have:∃ w h',cfi pr 116 [.pointer (some ⟨W,0,none⟩),.agg [v].toArray] h = some (w,h')∧w = .tuple #[]∧WrS h' W S (b ++ zBN l)∧Keeps S h h':=by
  refine zAA T.put T.putC rfl ?_
  unfold xq116
  dsimp only [zh]
  refine wpk.out (k:=[]) ?_
  obtain⟨_,a,cap,rfl,_⟩:=zIo hr.now
  obtain⟨g,hgx,v0,gg,gn⟩:=box1 (h:=h) (v:=.slice a l.length cap) rfl
  have l0:∀ sp,g.load ⟨h.next,0,sp⟩ = some (.slice a l.length cap):=fun sp=>v0.load
  have wg:=hw.grow gg
  have c0:=zCl (k:=.u64) (k':=.i64) zDv (n:=l.length)
  have hSg:∀ A,g.next≤A→S A:=fun A hA=>hS A (by omega)
  have hSb:∀ A,g.next≤A→S A∧A≠h.next:=fun A hA=>⟨hSg A hA,by omega⟩
  have wg':WrS g W (fun A=>S A∧A≠h.next) b:=by
   obtain⟨sw,u,vw,ow⟩:=hw
   refine ⟨⟨sw,fun e=>?_⟩,u,vw.grow gg,?_⟩
   ·have:=vw.1
    omega
   ·refine (ow.bound.grow gg).mono fun A hB=>⟨⟨hB.1.1,?_⟩,hB.1.2⟩
    have:=hB.2
    omega
  obtain⟨h1,e1,w1,k1⟩:=zCB T.wire wg' hSb l.length 1 (by omega) (by decide) (by omega)
  have e1:cfi pr 78 [.pointer (some ⟨W,0,none⟩),uw .u64 l.length,.int .i64 1] g = some (.tuple #[],h1):=e1
  have v1:=v0.keep k1 (fun q=>q.2 rfl)
  have l1:∀ sp,h1.load ⟨h.next,0,sp⟩ = some (.slice a l.length cap):=fun sp=>v1.load
  have hS0':∀ A,A < h0.next→¬ (S A∧A≠h.next):=fun A hA q=>hS0 A hA q.1
  (repeat (first|refine zS ?_|refine zK ?_|refine zR ?_|refine zD ?_|refine zB ?_|refine zI ?_|refine zJ ?_|refine zP ?_|refine zE ?_|refine zG ?_|refine zF ?_|refine zH (by decide) ?_|refine zQ ?_|((first|refine zC ?_|refine zM ?_|refine zO rfl rfl ?_|refine zN rfl ?_|refine zL ?_);simp only [yq116.down,zA,lemS.down,lemC.down,zex,zew,zeu,reduceIte,zev,zey,zez,ze0,ze1,ze2,ze3,ze4,ze5,reduceCtorEq,lemH.down,za2,hgx,l0,Nat.add_zero,c0,e1,l1])))
  refine zAG (fun m t g'=>∃ i,m = l.length - i∧i≤l.length∧WrS g' W (fun A=>S A∧A≠h.next) (b ++ numB l.length 1 ++ zAp (l.take i))∧Keeps (fun A=>S A∧A≠h.next) g g'∧t.get 0 = .pointer (some ⟨W,0,none⟩)∧t.get 13 = .slice a l.length cap∧t.get 14 = .int .i64 (l.length:Int)∧t.get 15 = .int .i64 (i:Int)) ?_ l.length _ _ ⟨0,rfl,by omega,by simpa [zAp] using w1,k1,by simp only [yq116.down,zA,lemS.down,lemC.down,zex,zew,zeu,reduceIte,zev,zey,zez,ze0,ze1,ze2,ze3,ze4,ze5,reduceCtorEq],by simp only [yq116.down,zA,lemS.down,lemC.down,zex,zew,zeu,reduceIte,zev,zey,zez,ze0,ze1,ze2,ze3,ze4,ze5,reduceCtorEq],by simp only [yq116.down,zA,lemS.down,lemC.down,zex,zew,zeu,reduceIte,zev,zey,zez,ze0,ze1,ze2,ze3,ze4,ze5,reduceCtorEq],by (simp only [yq116.down,zA,lemS.down,lemC.down,zex,zew,zeu,reduceIte,zev,zey,zez,ze0,ze1,ze2,ze3,ze4,ze5,reduceCtorEq])<;>rfl⟩
  rintro m t g' ⟨i,rfl,hi,gw,gk,t0,t13,t14,t15⟩ hnext
  refine xq116_8k ?_
  dsimp only [zJD]
  (repeat (first|refine zS ?_|refine zK ?_|refine zR ?_|refine zD ?_|refine zB ?_|refine zI ?_|refine zJ ?_|refine zP ?_|refine zE ?_|refine zG ?_|refine zF ?_|refine zH (by decide) ?_|refine zQ ?_|((first|refine zC ?_|refine zM ?_|refine zO rfl rfl ?_|refine zN rfl ?_|refine zL ?_);simp only [yq116.down,zA,lemS.down,lemC.down,zex,zew,zeu,reduceIte,zev,zey,zez,ze0,ze1,ze2,ze3,ze4,ze5,reduceCtorEq,lemH.down,t0,t13,t14,t15])))
  refine ⟨fun hlt=>?_,fun hge=>?_⟩
  ·have hi':i < l.length:=by omega
   have hgg:Grows h0 g':=(hg.trans gg).then gk hS0'
   obtain⟨B,o,ia,ld⟩:=(hr.grow hgg).elim hi'
   have ld:=(ld g' (Grows.refl _)).1
   have ww:IntKind.i64.wrap ((i:Int) + 1) = ((i + 1:Nat):Int):=by rw [wrap_i64 (by omega) (by omega)];omega
   have cm:=zHQ (l.getD i (0,[])).1
   have hlen:(b ++ numB l.length 1 ++ zAp (l.take i)).length + 8≤zU:=by
    simp only [List.length_append,zAH,zHM,List.length_take];omega
   obtain⟨q2,g2,a2,st2,v2,gg2,n2⟩:=zM8 (g:=g') (r:=(l.getD i (0,[])).1) (t:=(l.getD i (0,[])).2)
   have st2:zn q2 2 (.pointer (some ⟨g'.next,0,none⟩)) (.agg [.int .i64 (l.getD i (0,[])).1,.string (strOf (l.getD i (0,[])).2)].toArray) = some (.tuple #[],g2):=st2
   have la:∀ sp,g2.load ⟨g'.next,0,sp⟩ = some (.int .i64 (l.getD i (0,[])).1):=fun sp=>v2.load
   have hnW:g'.next≠W:=by
    obtain⟨_,u,vw,_⟩:=gw
    have:=vw.1
    omega
   have gw2:WrS g2 W (fun A=>(S A∧A≠h.next)∧A≠g'.next) (b ++ numB l.length 1 ++ zAp (l.take i)):=by
    obtain⟨sw,u,vw,ow⟩:=gw
    refine ⟨⟨sw,fun e=>hnW e.symm⟩,u,vw.grow gg2,?_⟩
    refine (ow.bound.grow gg2).mono fun A hB=>⟨⟨hB.1.1,?_⟩,hB.1.2⟩
    have:=hB.2
    omega
   have kn:=gk.next
   have hS2:∀ A,g2.next≤A→(S A∧A≠h.next)∧A≠g'.next:=fun A hA=>⟨hSb A (by omega),by omega⟩
   obtain⟨g3,e3,w3,k3⟩:=zCB T.wire gw2 hS2 (w64 (l.getD i (0,[])).1) 1 (zGo _) (by decide) hlen
   have e3:cfi pr 78 [.pointer (some ⟨W,0,none⟩),uw .u64 (w64 (l.getD i (0,[])).1),.int .i64 1] g2 = some (.tuple #[],g3):=e3
   have v3:=v2.keep k3 (fun q=>q.2 rfl)
   have lb:∀ sp,g3.load ⟨g'.next,1,sp⟩ = some (.string (strOf (l.getD i (0,[])).2)):=fun sp=>v3.load
   obtain⟨g4,e4,w4,k4⟩:=zCo T.wire w3 (fun A hA=>hS2 A (Nat.le_trans k3.next hA)) (l.getD i (0,[])).2 (by
    simp only [List.length_append,zAH,zHM,List.length_take];omega)
   (repeat (first|refine zS ?_|refine zK ?_|refine zR ?_|refine zD ?_|refine zB ?_|refine zI ?_|refine zJ ?_|refine zP ?_|refine zE ?_|refine zG ?_|refine zF ?_|refine zH (by decide) ?_|refine zQ ?_|((first|refine zC ?_|refine zM ?_|refine zO rfl rfl ?_|refine zN rfl ?_|refine zL ?_);simp only [yq116.down,zA,lemS.down,lemC.down,zex,zew,zeu,reduceIte,zev,zey,zez,ze0,ze1,ze2,ze3,ze4,ze5,reduceCtorEq,lemH.down,t0,t13,t14,t15,zAs,ia,ld,a2,st2,la,Nat.add_zero,cm,e3,lb,e4,ww])))
   refine hnext (l.length - (i + 1)) _ g4 (by omega) ⟨i + 1,rfl,by omega,?_,?_,by simp only [yq116.down,zA,lemS.down,lemC.down,zex,zew,zeu,reduceIte,zev,zey,zez,ze0,ze1,ze2,ze3,ze4,ze5,reduceCtorEq,t0],by simp only [yq116.down,zA,lemS.down,lemC.down,zex,zew,zeu,reduceIte,zev,zey,zez,ze0,ze1,ze2,ze3,ze4,ze5,reduceCtorEq,t13],by simp only [yq116.down,zA,lemS.down,lemC.down,zex,zew,zeu,reduceIte,zev,zey,zez,ze0,ze1,ze2,ze3,ze4,ze5,reduceCtorEq,t14],by simp only [yq116.down,zA,lemS.down,lemC.down,zex,zew,zeu,reduceIte,zev,zey,zez,ze0,ze1,ze2,ze3,ze4,ze5,reduceCtorEq]⟩
   ·rw [za4 hi',← List.append_assoc,← List.append_assoc]
    exact w4.mono fun A _ hA=>hA.1
   ·have k23:Keeps (fun A=>(S A∧A≠h.next)∧A≠g'.next) g' g4:=(gg2.keeps.trans k3 (fun _ _ q=>q)).trans k4 (fun _ _ q=>q)
    exact gk.trans (k23.mono fun A _ q=>q.1) (fun _ _ q=>q)
  ·obtain rfl:i = l.length:=by omega
   (repeat (first|refine zS ?_|refine zK ?_|refine zR ?_|refine zD ?_|refine zB ?_|refine zI ?_|refine zJ ?_|refine zP ?_|refine zE ?_|refine zG ?_|refine zF ?_|refine zH (by decide) ?_|refine zQ ?_|((first|refine zC ?_|refine zM ?_|refine zO rfl rfl ?_|refine zN rfl ?_|refine zL ?_);simp only [yq116.down,zA,lemS.down,lemC.down,zex,zew,zeu,reduceIte,zev,zey,zez,ze0,ze1,ze2,ze3,ze4,ze5,reduceCtorEq,lemH.down,t0,t13,t14,t15])))
   refine ⟨.inl rfl,_,rfl,rfl,?_,?_⟩
   ·rw [List.take_length,List.append_assoc] at gw
    exact gw.mono fun A _ hA=>hA.1
   ·exact (gg.keeps (W:=S)).trans (gk.mono fun A _ q=>q.1) (fun _ _ q=>q)
 obtain⟨w,h',e,rfl,r⟩:=this
 exact⟨h',e,r⟩
end Go.X
end
section
open Go Go.X
namespace Go.X
set_option linter.unusedVariables false
def tagR (r:RS):RS×(Int×List UInt8):=((zX (zT r 1).1 32).1,(((zT r 1).2:Int),(zX (zT r 1).1 32).2))
def lastT (acc:TagL):Int:=(acc.getD (acc.length - 1) (0,[])).1
def badT (acc:TagL) (t:Int×List UInt8):Bool:=decide (t.1≥16) || (decide (0 < acc.length) && decide (lastT acc≥t.1))
def zBh (r:RS) (acc:TagL):RS:=if (tagR r).1.err = 0∧badT acc (tagR r).2 = true then ⟨(tagR r).1.s,(tagR r).1.pos,6⟩ else (tagR r).1
def zAc:Nat→RS→TagL→RS×TagL
 | 0,r,acc=>(r,acc)
 | n + 1,r,acc=>if r.err = 0 then zAc n (zBh r acc) (acc ++ [(tagR r).2]) else (r,acc)
def zCY (p:RS×TagL):RS×TagL:=(p.1,if p.1.err = 0 then p.2 else [])
def zs (r:RS):RS×TagL:=zCY (zAc (zT r 1).2 (zT r 1).1 [])
theorem tagR_s (r:RS):(tagR r).1.s = r.s:=by unfold tagR;rw [zFq,zBi]
theorem zLx (r:RS) (acc:TagL):(zBh r acc).s = r.s:=by
 unfold zBh
 split
 ·exact tagR_s r
 ·exact tagR_s r
theorem zH2:∀ (n:Nat) (r:RS) (acc:TagL),(zAc n r acc).1.s = r.s
 | 0,_,_=>rfl
 | n + 1,r,acc=>by
  unfold zAc
  split
  ·rw [zH2 n,zLx]
  ·rfl
theorem zBm (r:RS):(zT r 1).2 < 256:=zC8 r (by decide)
theorem zcw (r:RS):0≤(tagR r).2.1∧(tagR r).2.1 < 256:=by
 have:=zBm r
 show (0:Int)≤((zT r 1).2:Int)∧((zT r 1).2:Int) < 256
 omega
theorem zFo {r:RS} {n:Nat} (h:(zX r n).1.err = 0):r.err = 0∧r.pos + n≤r.s.length∧(zX r n).1 = ⟨r.s,r.pos + n,0⟩∧(zX r n).2 = (r.s.drop r.pos).take n:=by
 unfold zX at h ⊢
 split at h
 ·rename_i q
  exact absurd h q
 ·rename_i q
  have q:r.err = 0:=by omega
  split at h
  ·simp at h
  ·split at h
   ·simp at h
   ·rename_i a b
    refine ⟨q,by omega,?_,?_⟩<;>rw [if_neg (by omega),if_neg a,if_neg b]
    ·rw [q];rfl
    ·rfl
theorem numB_one (b:List UInt8) (h:b.length = 1):numB (numV b) 1 = b:=by rw [← h];exact zL0 b
theorem take_add {s:List UInt8} {p n:Nat}:s.take (p + n) = s.take p ++ (s.drop p).take n:=by rw [List.take_add]
theorem zI2 {n:Nat} (h:n < 18446744073709551616):w64 (n:Int) = n:=by unfold w64;omega
theorem zcv {r:RS} (h:(tagR r).1.err = 0):r.err = 0∧(tagR r).1.pos = r.pos + 33∧r.pos + 33≤r.s.length∧r.s.take (r.pos + 33) = r.s.take r.pos ++ zAp [(tagR r).2]:=by
 obtain⟨h1,h2,h3,h4⟩:=zFo (r:=(zT r 1).1) (n:=32) h
 have h1':(zX r 1).1.err = 0:=h1
 obtain⟨g1,g2,g3,g4⟩:=zFo (r:=r) (n:=1) h1'
 have hs:(zT r 1).1 = ⟨r.s,r.pos + 1,0⟩:=g3
 rw [hs] at h2 h3 h4
 have h2:r.pos + 1 + 32≤r.s.length:=h2
 have e3:(tagR r).1 = ⟨r.s,r.pos + 1 + 32,0⟩:=by
  show (zX (zT r 1).1 32).1 = _
  rw [hs]
  exact h3
 have e4:(tagR r).2.2 = (r.s.drop (r.pos + 1)).take 32:=by
  show (zX (zT r 1).1 32).2 = _
  rw [hs]
  exact h4
 refine ⟨g1,by rw [e3],by omega,?_⟩
 have l1:((r.s.drop r.pos).take 1).length = 1:=by rw [List.length_take,List.length_drop];omega
 have l2:((r.s.drop (r.pos + 1)).take 32).length = 32:=by rw [List.length_take,List.length_drop];omega
 have hn:=zBm r
 have e5:numB (w64 (tagR r).2.1) 1 = (r.s.drop r.pos).take 1:=by
  show numB (w64 ((zT r 1).2:Int)) 1 = _
  rw [zI2 (by omega)]
  show numB (numV (zX r 1).2) 1 = _
  rw [show (zX r 1).2 = (r.s.drop r.pos).take 1 from g4]
  exact numB_one _ l1
 have e6:zAp [(tagR r).2] = numB (w64 (tagR r).2.1) 1 ++ zAY (tagR r).2.2:=by simp [zAp]
 rw [e6,e5,e4,zLR l2,← List.append_assoc,← take_add,show r.pos + 33 = r.pos + 1 + 32 by omega,← take_add]
theorem zb9 {r:RS} {acc:TagL} (h:(zBh r acc).err = 0):zBh r acc = (tagR r).1∧(tagR r).1.err = 0∧badT acc (tagR r).2 = false:=by
 unfold zBh at h ⊢
 split at h
 ·simp at h
 ·rename_i q
  refine ⟨if_neg q,h,?_⟩
  cases hb:badT acc (tagR r).2
  ·rfl
  ·exact absurd ⟨h,hb⟩ q
theorem zH1 {n:Nat} {r:RS} {acc:TagL} (h:(zAc n r acc).1.err = 0):r.err = 0:=by
 cases n with
 | zero=>exact h
 | succ n=>
  unfold zAc at h
  split at h
  ·assumption
  ·exact h
theorem zLn:∀ (n:Nat) (r:RS) (acc:TagL),(zAc n r acc).1.err = 0→∃ m,(zAc n r acc).2 = acc ++ m∧m.length = n∧(zAc n r acc).1.pos = r.pos + n * 33∧r.s.take (r.pos + n * 33) = r.s.take r.pos ++ zAp m
 | 0,r,acc,_=>⟨[],by simp [zAc],rfl,by simp [zAc],by simp [zAp]⟩
 | n + 1,r,acc,h=>by
  have q:=zH1 h
  unfold zAc at h ⊢
  rw [if_pos q] at h ⊢
  obtain⟨a1,a2,a3⟩:=zb9 (zH1 h)
  obtain⟨b1,b2,b3,b4⟩:=zcv a2
  obtain⟨m,m1,m2,m3,m4⟩:=zLn n _ _ h
  rw [zLx,a1,b2] at m4
  rw [a1,b2] at m3
  rw [a1] at m1
  rw [a1]
  refine ⟨(tagR r).2 :: m,by rw [m1];simp,by rw [List.length_cons,m2],by rw [m3];omega,?_⟩
  have e:(tagR r).2 :: m = [(tagR r).2] ++ m:=rfl
  rw [e,zKx,← List.append_assoc,← b4,← m4]
  congr 1
  omega
theorem takeR_s (r:RS):(zs r).1.s = r.s:=by
 show (zAc (zT r 1).2 (zT r 1).1 []).1.s = _
 rw [zH2,zBi]
end Go.X
end
section
open Go Go.X
namespace Go.X
set_option linter.unusedVariables false
structure zG0 (pr:Prog):Prop where
 wire:zAL pr
 take:pr.prim 104 = none
 takeC:pr.code 104 = some xq104
theorem zKD {pr:Prog} (T:zG0 pr) {h:Heap} {R:Nat} {r:RS} (hr:Rd h R r) :
  ∃ v' h',cfi pr 104 [.pointer (some ⟨R,0,none⟩)] h = some (.agg [v'].toArray,h')∧Rd h' R (zs r).1∧Own h' (fun A=>h.next≤A) 2 v' (zs r).2.length (zAM (zs r).2)∧(∀ q ∈ (zs r).2,inI q.1)∧Keeps (fun A=>A = R) h h':=by
 have hr64:zU = 140737488355328:=rfl
 have:∃ w h',cfi pr 104 [.pointer (some ⟨R,0,none⟩)] h = some (w,h')∧∃ v',w = .agg [v'].toArray∧Rd h' R (zs r).1∧Own h' (fun A=>h.next≤A) 2 v' (zs r).2.length (zAM (zs r).2)∧(∀ q ∈ (zs r).2,inI q.1)∧Keeps (fun A=>A = R) h h':=by
  refine zAA T.take T.takeC rfl ?_
  unfold xq104
  dsimp only [zh]
  refine wpk.out (k:=[]) ?_
  have hR:R < h.next:=hr.2.1
  obtain⟨ga,hga,va,gga,gna⟩:=box1 (h:=h) (v:=.slice none 0 0) rfl
  obtain⟨gb,hgb,vb,ggb,gnb⟩:=box1 (h:=ga) (v:=.slice none 0 0) rfl
  rw [gna] at vb
  have va1:=va.grow ggb
  obtain⟨gc,ec,rdc,kc⟩:=zCA T.wire (hr.grow (gga.trans ggb)) 1 (by decide)
  have hn0:=zBm r
  have eu:uw .u64 (zT r 1).2 = .int .u64 ((zT r 1).2:Int):=(zBJ (by omega)).symm
  rw [eu] at ec
  have ec:cfi pr 89 [.pointer (some ⟨R,0,none⟩),.int .i64 1] gb = some (.int .u64 ((zT r 1).2:Int),gc):=ec
  (repeat (first|refine zS ?_|refine zK ?_|refine zR ?_|refine zD ?_|refine zB ?_|refine zI ?_|refine zJ ?_|refine zP ?_|refine zE ?_|refine zG ?_|refine zF ?_|refine zH (by decide) ?_|refine zQ ?_|((first|refine zC ?_|refine zM ?_|refine zO rfl rfl ?_|refine zN rfl ?_|refine zL ?_);simp only [yq104.down,zA,lemS.down,lemC.down,zex,zew,zeu,reduceIte,zev,zey,zez,ze0,ze1,ze2,ze3,ze4,ze5,reduceCtorEq,lemH.down,hga,gna,hgb,ec])))
  have va2:=va1.keep kc (fun q=>by omega)
  have vb2:=vb.keep kc (fun q=>by omega)
  have kkc:Keeps (fun A=>A = R) h gc:=(gga.trans ggb).keeps.trans kc (fun _ _ q=>q)
  have ntc:=kc.next
  refine zAG (fun m t g=>∃ r2 acc v,m + acc.length≤256∧zAc m r2 acc = zAc (zT r 1).2 (zT r 1).1 []∧Rd g R r2∧Own g (fun A=>h.next + 2≤A) 2 v acc.length (zAM acc)∧(∀ q ∈ acc,inI q.1)∧Var g h.next [.slice none 0 0]∧Var g (h.next + 1) [v]∧Keeps (fun A=>A = R) h g∧h.next + 2≤g.next∧t.get 0 = .pointer (some ⟨R,0,none⟩)∧t.get 2 = .pointer (some ⟨h.next,0,none⟩)∧t.get 3 = .pointer (some ⟨h.next + 1,0,none⟩)∧t.get 4 = .int .u64 (m:Int)) ?_ (zT r 1).2 _ _
   ⟨_,[],_,by simp;omega,rfl,rdc,Own.nil,by simp,va2,vb2,kkc,by omega,by simp only [yq104.down,zA,lemS.down,lemC.down,zex,zew,zeu,reduceIte,zev,zey,zez,ze0,ze1,ze2,ze3,ze4,ze5,reduceCtorEq],by simp only [yq104.down,zA,lemS.down,lemC.down,zex,zew,zeu,reduceIte,zev,zey,zez,ze0,ze1,ze2,ze3,ze4,ze5,reduceCtorEq],by simp only [yq104.down,zA,lemS.down,lemC.down,zex,zew,zeu,reduceIte,zev,zey,zez,ze0,ze1,ze2,ze3,ze4,ze5,reduceCtorEq],by simp only [yq104.down,zA,lemS.down,lemC.down,zex,zew,zeu,reduceIte,zev,zey,zez,ze0,ze1,ze2,ze3,ze4,ze5,reduceCtorEq]⟩
  rintro m t g ⟨r2,acc,v,hm,hL,rd,oc,hin,va,vb,kk,gn,t0,t2,t3,t4⟩ hnext
  refine xq104_9k ?_
  dsimp only [zJA]
  have er:=zAb T.wire rd
  obtain⟨av,cv,rfl,_⟩:=oc.shape
  cases m with
  | zero=>
   by_cases c0:r2.err = 0
   ·have b0:((r2.err:Int) == 0) = true:=by rw [c0];rfl
    have l3:∀ sp,g.loadN ⟨h.next + 1,0,sp⟩ 1 = some [.slice av acc.length cv]:=fun sp=>vb.loadAll rfl
    have st:zn g 1 (.pointer (some ⟨h.next,0,none⟩)) (.agg [.slice av acc.length cv].toArray) = some (.tuple #[],g.wr h.next [.slice av acc.length cv]):=va.storeAll rfl rfl (by decide) rfl
    (repeat (first|refine zS ?_|refine zK ?_|refine zR ?_|refine zD ?_|refine zB ?_|refine zI ?_|refine zJ ?_|refine zP ?_|refine zE ?_|refine zG ?_|refine zF ?_|refine zH (by decide) ?_|refine zQ ?_|((first|refine zC ?_|refine zM ?_|refine zO rfl rfl ?_|refine zN rfl ?_|refine zL ?_);simp only [yq104.down,zA,lemS.down,lemC.down,zex,zew,zeu,reduceIte,zev,zey,zez,ze0,ze1,ze2,ze3,ze4,ze5,reduceCtorEq,lemH.down,t0,t2,t3,t4,zi,er,b0,Bool.not_true,Bool.not_false,l3,st])))
    have eT:zs r = zCY (r2,acc):=by unfold zs;rw [← hL];rfl
    have e2:(zs r).2 = acc:=by rw [eT];exact if_pos c0
    have e1:(zs r).1 = r2:=by rw [eT];rfl
    rw [e1,e2]
    exact⟨.inr rfl,_,zA1 (a:=⟨h.next,0,none⟩) (by simp only [yq104.down,zA,lemS.down,lemC.down,zex,zew,zeu,reduceIte,zev,zey,zez,ze0,ze1,ze2,ze3,ze4,ze5,reduceCtorEq,t2]) (va.wr.loadAll rfl),_,rfl,rd.keep Keeps.wr (by omega),(oc.keep Keeps.wr (fun A hA e=>by omega)).mono (fun A hA=>by omega),hin,kk.trans Keeps.wr (fun A hA e=>by omega)⟩
   ·have b0:((r2.err:Int) == 0) = false:=by rw [beq_eq_false_iff_ne];omega
    have st:zn g 1 (.pointer (some ⟨h.next,0,none⟩)) (.agg [.slice none 0 0].toArray) = some (.tuple #[],g.wr h.next [.slice none 0 0]):=va.storeAll rfl rfl (by decide) rfl
    (repeat (first|refine zS ?_|refine zK ?_|refine zR ?_|refine zD ?_|refine zB ?_|refine zI ?_|refine zJ ?_|refine zP ?_|refine zE ?_|refine zG ?_|refine zF ?_|refine zH (by decide) ?_|refine zQ ?_|((first|refine zC ?_|refine zM ?_|refine zO rfl rfl ?_|refine zN rfl ?_|refine zL ?_);simp only [yq104.down,zA,lemS.down,lemC.down,zex,zew,zeu,reduceIte,zev,zey,zez,ze0,ze1,ze2,ze3,ze4,ze5,reduceCtorEq,lemH.down,t0,t2,t3,t4,zi,er,b0,Bool.not_true,Bool.not_false,zBO,st])))
    have eT:zs r = zCY (r2,acc):=by unfold zs;rw [← hL];rfl
    have e2:(zs r).2 = []:=by rw [eT];exact if_neg c0
    have e1:(zs r).1 = r2:=by rw [eT];rfl
    rw [e1,e2]
    exact⟨.inr rfl,_,zA1 (a:=⟨h.next,0,none⟩) (by simp only [yq104.down,zA,lemS.down,lemC.down,zex,zew,zeu,reduceIte,zev,zey,zez,ze0,ze1,ze2,ze3,ze4,ze5,reduceCtorEq,t2]) (va.wr.loadAll rfl),.slice none 0 0,rfl,rd.keep Keeps.wr (by omega),Own.nil,by simp,kk.trans Keeps.wr (fun A hA e=>by omega)⟩
  | succ m=>
  have d0:decide (((m + 1:Nat):Int) > 0) = true:=decide_eq_true (by omega)
  by_cases c0:r2.err = 0
  rotate_left
  ·have b0:((r2.err:Int) == 0) = false:=by rw [beq_eq_false_iff_ne];omega
   have st:zn g 1 (.pointer (some ⟨h.next,0,none⟩)) (.agg [.slice none 0 0].toArray) = some (.tuple #[],g.wr h.next [.slice none 0 0]):=va.storeAll rfl rfl (by decide) rfl
   (repeat (first|refine zS ?_|refine zK ?_|refine zR ?_|refine zD ?_|refine zB ?_|refine zI ?_|refine zJ ?_|refine zP ?_|refine zE ?_|refine zG ?_|refine zF ?_|refine zH (by decide) ?_|refine zQ ?_|((first|refine zC ?_|refine zM ?_|refine zO rfl rfl ?_|refine zN rfl ?_|refine zL ?_);simp only [yq104.down,zA,lemS.down,lemC.down,zex,zew,zeu,reduceIte,zev,zey,zez,ze0,ze1,ze2,ze3,ze4,ze5,reduceCtorEq,lemH.down,t0,t2,t3,t4,d0,zi,er,b0,Bool.not_true,Bool.not_false,zBO,st])))
   have eT:zs r = zCY (r2,acc):=by unfold zs;rw [← hL];conv=>{ lhs;unfold zAc };rw [if_neg c0]
   have e2:(zs r).2 = []:=by rw [eT];exact if_neg c0
   have e1:(zs r).1 = r2:=by rw [eT];rfl
   rw [e1,e2]
   exact⟨.inr rfl,_,zA1 (a:=⟨h.next,0,none⟩) (by simp only [yq104.down,zA,lemS.down,lemC.down,zex,zew,zeu,reduceIte,zev,zey,zez,ze0,ze1,ze2,ze3,ze4,ze5,reduceCtorEq,t2]) (va.wr.loadAll rfl),.slice none 0 0,rfl,rd.keep Keeps.wr (by omega),Own.nil,by simp,kk.trans Keeps.wr (fun A hA e=>by omega)⟩
  have b0:((r2.err:Int) == 0) = true:=by rw [c0];rfl
  obtain⟨g1,e1,rd1,k1⟩:=zCA T.wire rd 1 (by decide)
  have e1:cfi pr 89 [.pointer (some ⟨R,0,none⟩),.int .i64 1] g = some (uw .u64 (zT r2 1).2,g1):=e1
  have hn2:=zBm r2
  have ci:=ci64 (n:=(zT r2 1).2) (by omega)
  obtain⟨g2,e2,rd2,k2⟩:=zB9 T.wire rd1
  obtain⟨a,ea⟩:∃ a,(tagR r2).2 = a:=⟨_,rfl⟩
  have ea1:((zT r2 1).2:Int) = a.1:=by rw [← ea];rfl
  have ea2:(zX (zT r2 1).1 32).2 = a.2:=by rw [← ea];rfl
  rw [ea1] at ci
  rw [ea2] at e2
  have rd2:Rd g2 R (tagR r2).1:=rd2
  obtain⟨q3,g3,a3,st3,v3,gg3,n3⟩:=zM8 (g:=g2) (r:=a.1) (t:=a.2)
  have st3:zn q3 2 (.pointer (some ⟨g2.next,0,none⟩)) (.agg [.int .i64 a.1,.string (strOf a.2)].toArray) = some (.tuple #[],g3):=st3
  have fl0:zAB [.int .i64 0,.string (strOf [])] [(0,1,.int .i64 a.1),(1,1,.string (strOf a.2))] = some [.int .i64 a.1,.string (strOf a.2)]:=rfl
  have fl:zAB [.int .i64 0,.string (strOf [])] [(0,2,.agg [.int .i64 a.1,.string (strOf a.2)].toArray)] = some [.int .i64 a.1,.string (strOf a.2)]:=rfl
  have rd3:=rd2.grow gg3
  have er3:=zAb T.wire rd3
  have k12:Keeps (fun A=>A = R) g g2:=k1.trans k2 (fun _ _ q=>q)
  have k13:Keeps (fun A=>A = R) g g3:=k12.trans gg3.keeps (fun _ _ q=>q)
  have n12:=k12.next
  have n13:=k13.next
  have la:∀ sp,g3.load ⟨g2.next,0,sp⟩ = some (.int .i64 a.1):=fun sp=>v3.load
  have vb3:=vb.keep k13 (fun q=>by omega)
  have va3:=va.keep k13 (fun q=>by omega)
  have lv3:∀ sp,g3.load ⟨h.next + 1,0,sp⟩ = some (.slice av acc.length cv):=fun sp=>vb3.load
  have oc3:=oc.keep k13 (fun A hA q=>by omega)
  have hsm:=zcw r2
  rw [ea] at hsm
  have wn:IntKind.u64.wrap (((m + 1:Nat):Int) - 1) = (m:Int):=by
   have:IntKind.u64.wrap (((m + 1:Nat):Int) - 1) = (((m + 1:Nat):Int) - 1) % 18446744073709551616:=by simp [IntKind.wrap,IntKind.signed,IntKind.bits]
   rw [this]
   omega
  have hL2:∀ r5,zBh r2 acc = r5→zAc m r5 (acc ++ [a]) = zAc (zT r 1).2 (zT r 1).1 []:=fun r5 e=>by
   rw [← hL,← e,← ea]
   conv=>rhs;unfold zAc
   rw [if_pos c0]
  have tl:∀ g5 r5,Keeps (fun A=>A = R) g3 g5→Rd g5 R r5→∃ v2 g6,zA2 (g5.new [.int .i64 a.1,.string (strOf a.2)]) 2 24 (.slice av acc.length cv) (.slice (some ⟨g5.next,0,none⟩) 1 1) = some (v2,g6)∧zn g6 1 (.pointer (some ⟨h.next + 1,0,none⟩)) v2 = some (.tuple #[],g6.wr (h.next + 1) [v2])∧(∀ sp,g5.load ⟨h.next + 1,0,sp⟩ = some (.slice av acc.length cv))∧(∀ sp,g5.loadN ⟨g2.next,0,sp⟩ 2 = some [.int .i64 a.1,.string (strOf a.2)]) ∧
    ∀ t':Fr,zBh r2 acc = r5→t'.get 0 = .pointer (some ⟨R,0,none⟩)→t'.get 2 = .pointer (some ⟨h.next,0,none⟩)→t'.get 3 = .pointer (some ⟨h.next + 1,0,none⟩)→t'.get 4 = .int .u64 (m:Int)→kont pr [KI.lp zI9,KI.blk 0,KI.code (((XC.ops zI6).seq (XC.cond (X.T 61) ((XC.ops zI7).seq XC.ret) XC.skip)).seq ((XC.ops zI8).seq XC.ret))] (fun e t h'=>(e = XE.normal∨e = XE.ret)∧∃ w,zw t h' [.cellN 2 1] = some w∧∃ v',w = .agg [v'].toArray∧Rd h' R (zs r).1∧Own h' (fun A=>h.next≤A) 2 v' (zs r).2.length (zAM (zs r).2)∧(∀ q ∈ (zs r).2,inI q.1)∧Keeps (fun A=>A = R) h h') t' (g6.wr (h.next + 1) [v2]):=by
   intro g5 r5 k5 rd5
   have n5:=k5.next
   have oc5:=oc3.keep k5 (fun A hA q=>by omega)
   have vb5:=vb3.keep k5 (fun q=>by omega)
   have va5:=va3.keep k5 (fun q=>by omega)
   have v5:=v3.keep k5 (fun q=>by omega)
   obtain⟨v2,g6,ey,o6,k6⟩:=oc5.pushTag a (by omega)
   have n6:=k6.next
   have vb6:=vb5.keep k6 (fun q=>by omega)
   have va6:=va5.keep k6 (fun q=>by omega)
   have rd6:=rd5.keep k6 (fun q=>by omega)
   refine ⟨v2,g6,ey,?_,fun sp=>vb5.load,fun sp=>v5.loadAll rfl,fun t' hx s0 s2 s3 s4=>hnext m t' _ (by omega) ⟨r5,acc ++ [a],v2,by rw [List.length_append,List.length_singleton];omega,hL2 r5 hx,rd6.keep Keeps.wr (by omega),?_,?_,va6.wr_ne (by omega),vb6.wr,?_,by show h.next + 2≤g6.next;omega,s0,s2,s3,s4⟩⟩
   ·rw [zY o6.cell,vb6.store1 (i:=0) (by simp) o6.one]
    rfl
   ·rw [List.length_append]
    exact (o6.keep Keeps.wr (fun A hA e=>by rcases hA with q|q<;>omega)).mono (fun A hA=>by rcases hA with q|q<;>omega)
   ·intro q hq
    rcases List.mem_append.1 hq with hq|hq
    ·exact hin q hq
    ·obtain rfl:=List.mem_singleton.1 hq
     constructor<;>omega
   ·exact (((kk.trans k13 (fun _ _ q=>q)).trans k5 (fun _ _ q=>q)).trans k6 (fun A hA q=>by omega)).trans Keeps.wr (fun A hA e=>by omega)
  by_cases c1:(tagR r2).1.err = 0
  rotate_left
  ·have b1:(((tagR r2).1.err:Int) == 0) = false:=by rw [beq_eq_false_iff_ne];omega
   have nx:zBh r2 acc = (tagR r2).1:=if_neg (fun q=>c1 q.1)
   obtain⟨v2,g6,ey,st6,lv,lt,fin⟩:=tl g3 (tagR r2).1 Keeps.refl rd3
   (repeat (first|refine zS ?_|refine zK ?_|refine zR ?_|refine zD ?_|refine zB ?_|refine zI ?_|refine zJ ?_|refine zP ?_|refine zE ?_|refine zG ?_|refine zF ?_|refine zH (by decide) ?_|refine zQ ?_|((first|refine zC ?_|refine zM ?_|refine zO rfl rfl ?_|refine zN rfl ?_|refine zL ?_);simp only [yq104.down,zA,lemS.down,lemC.down,zex,zew,zeu,reduceIte,zev,zey,zez,ze0,ze1,ze2,ze3,ze4,ze5,reduceCtorEq,lemH.down,t0,t2,t3,t4,d0,er,b0,e1,ci,e2,fl0,a3,st3,er3,b1,lv,lt,Nat.add_zero,fl,ey,st6,wn,zi])))
   exact fin _ (nx) (by simp only [yq104.down,zA,lemS.down,lemC.down,zex,zew,zeu,reduceIte,zev,zey,zez,ze0,ze1,ze2,ze3,ze4,ze5,reduceCtorEq,t0]) (by simp only [yq104.down,zA,lemS.down,lemC.down,zex,zew,zeu,reduceIte,zev,zey,zez,ze0,ze1,ze2,ze3,ze4,ze5,reduceCtorEq,t2]) (by simp only [yq104.down,zA,lemS.down,lemC.down,zex,zew,zeu,reduceIte,zev,zey,zez,ze0,ze1,ze2,ze3,ze4,ze5,reduceCtorEq,t3]) (by simp only [yq104.down,zA,lemS.down,lemC.down,zex,zew,zeu,reduceIte,zev,zey,zez,ze0,ze1,ze2,ze3,ze4,ze5,reduceCtorEq])
  have b1:(((tagR r2).1.err:Int) == 0) = true:=by rw [c1];rfl
  obtain⟨g5,e5,rd5,k5⟩:=zDP T.wire rd3 6
  have e5:cfi pr 151 [.pointer (some ⟨R,0,none⟩),.int .i64 6] g3 = some (.tuple #[],g5):=e5
  rw [if_pos c1] at rd5
  by_cases c2:a.1≥16
  ·have b2:decide (a.1≥16) = true:=decide_eq_true c2
   have nx:zBh r2 acc = ⟨(tagR r2).1.s,(tagR r2).1.pos,6⟩:=if_pos ⟨c1,by unfold badT;rw [ea,b2];rfl⟩
   obtain⟨v2,g6,ey,st6,lv,lt,fin⟩:=tl g5 ⟨(tagR r2).1.s,(tagR r2).1.pos,6⟩ k5 rd5
   (repeat (first|refine zS ?_|refine zK ?_|refine zR ?_|refine zD ?_|refine zB ?_|refine zI ?_|refine zJ ?_|refine zP ?_|refine zE ?_|refine zG ?_|refine zF ?_|refine zH (by decide) ?_|refine zQ ?_|((first|refine zC ?_|refine zM ?_|refine zO rfl rfl ?_|refine zN rfl ?_|refine zL ?_);simp only [yq104.down,zA,lemS.down,lemC.down,zex,zew,zeu,reduceIte,zev,zey,zez,ze0,ze1,ze2,ze3,ze4,ze5,reduceCtorEq,lemH.down,t0,t2,t3,t4,d0,er,b0,e1,ci,e2,fl0,a3,st3,er3,b1,la,Nat.add_zero,b2,e5,lv,lt,Nat.add_zero,fl,ey,st6,wn,zi])))
   exact fin _ (nx) (by simp only [yq104.down,zA,lemS.down,lemC.down,zex,zew,zeu,reduceIte,zev,zey,zez,ze0,ze1,ze2,ze3,ze4,ze5,reduceCtorEq,t0]) (by simp only [yq104.down,zA,lemS.down,lemC.down,zex,zew,zeu,reduceIte,zev,zey,zez,ze0,ze1,ze2,ze3,ze4,ze5,reduceCtorEq,t2]) (by simp only [yq104.down,zA,lemS.down,lemC.down,zex,zew,zeu,reduceIte,zev,zey,zez,ze0,ze1,ze2,ze3,ze4,ze5,reduceCtorEq,t3]) (by simp only [yq104.down,zA,lemS.down,lemC.down,zex,zew,zeu,reduceIte,zev,zey,zez,ze0,ze1,ze2,ze3,ze4,ze5,reduceCtorEq])
  have b2:decide (a.1≥16) = false:=decide_eq_false c2
  by_cases c3:0 < acc.length
  rotate_left
  ·have b3:decide ((acc.length:Int) > 0) = false:=decide_eq_false (by omega)
   have b3':decide (0 < acc.length) = false:=decide_eq_false c3
   have nx:zBh r2 acc = (tagR r2).1:=if_neg (fun q=>by have:=q.2;unfold badT at this;rw [ea,b2,b3'] at this;simp at this)
   obtain⟨v2,g6,ey,st6,lv,lt,fin⟩:=tl g3 (tagR r2).1 Keeps.refl rd3
   (repeat (first|refine zS ?_|refine zK ?_|refine zR ?_|refine zD ?_|refine zB ?_|refine zI ?_|refine zJ ?_|refine zP ?_|refine zE ?_|refine zG ?_|refine zF ?_|refine zH (by decide) ?_|refine zQ ?_|((first|refine zC ?_|refine zM ?_|refine zO rfl rfl ?_|refine zN rfl ?_|refine zL ?_);simp only [yq104.down,zA,lemS.down,lemC.down,zex,zew,zeu,reduceIte,zev,zey,zez,ze0,ze1,ze2,ze3,ze4,ze5,reduceCtorEq,lemH.down,t0,t2,t3,t4,d0,er,b0,e1,ci,e2,fl0,a3,st3,er3,b1,la,Nat.add_zero,b2,lv3,b3,lv,lt,Nat.add_zero,fl,ey,st6,wn,zi])))
   exact fin _ (nx) (by simp only [yq104.down,zA,lemS.down,lemC.down,zex,zew,zeu,reduceIte,zev,zey,zez,ze0,ze1,ze2,ze3,ze4,ze5,reduceCtorEq,t0]) (by simp only [yq104.down,zA,lemS.down,lemC.down,zex,zew,zeu,reduceIte,zev,zey,zez,ze0,ze1,ze2,ze3,ze4,ze5,reduceCtorEq,t2]) (by simp only [yq104.down,zA,lemS.down,lemC.down,zex,zew,zeu,reduceIte,zev,zey,zez,ze0,ze1,ze2,ze3,ze4,ze5,reduceCtorEq,t3]) (by simp only [yq104.down,zA,lemS.down,lemC.down,zex,zew,zeu,reduceIte,zev,zey,zez,ze0,ze1,ze2,ze3,ze4,ze5,reduceCtorEq])
  have b3:decide ((acc.length:Int) > 0) = true:=decide_eq_true (by omega)
  have b3':decide (0 < acc.length) = true:=decide_eq_true c3
  obtain⟨Bl,ol,ial,ldl⟩:=(oc3.rdTags hin).elim (i:=acc.length - 1) (by omega)
  have ll:=(ldl g3 (Grows.refl _)).2.1
  have el:((acc.length - 1:Nat):Int) = (acc.length:Int) - 1:=by omega
  rw [el] at ial
  have wl:IntKind.i64.wrap ((acc.length:Int) - 1) = (acc.length:Int) - 1:=wrap_i64 (by omega) (by omega)
  cases c4:decide (lastT acc≥a.1)
  ·have nx:zBh r2 acc = (tagR r2).1:=if_neg (fun q=>by have:=q.2;unfold badT at this;rw [ea,b2,b3',c4] at this;simp at this)
   have c4':decide ((acc.getD (acc.length - 1) (0,[])).1≥a.1) = false:=c4
   obtain⟨v2,g6,ey,st6,lv,lt,fin⟩:=tl g3 (tagR r2).1 Keeps.refl rd3
   (repeat (first|refine zS ?_|refine zK ?_|refine zR ?_|refine zD ?_|refine zB ?_|refine zI ?_|refine zJ ?_|refine zP ?_|refine zE ?_|refine zG ?_|refine zF ?_|refine zH (by decide) ?_|refine zQ ?_|((first|refine zC ?_|refine zM ?_|refine zO rfl rfl ?_|refine zN rfl ?_|refine zL ?_);simp only [yq104.down,zA,lemS.down,lemC.down,zex,zew,zeu,reduceIte,zev,zey,zez,ze0,ze1,ze2,ze3,ze4,ze5,reduceCtorEq,lemH.down,t0,t2,t3,t4,d0,er,b0,e1,ci,e2,fl0,a3,st3,er3,b1,la,Nat.add_zero,b2,lv3,b3,wl,zAs,ial,ll,c4',lv,lt,Nat.add_zero,fl,ey,st6,wn,zi])))
   exact fin _ (nx) (by simp only [yq104.down,zA,lemS.down,lemC.down,zex,zew,zeu,reduceIte,zev,zey,zez,ze0,ze1,ze2,ze3,ze4,ze5,reduceCtorEq,t0]) (by simp only [yq104.down,zA,lemS.down,lemC.down,zex,zew,zeu,reduceIte,zev,zey,zez,ze0,ze1,ze2,ze3,ze4,ze5,reduceCtorEq,t2]) (by simp only [yq104.down,zA,lemS.down,lemC.down,zex,zew,zeu,reduceIte,zev,zey,zez,ze0,ze1,ze2,ze3,ze4,ze5,reduceCtorEq,t3]) (by simp only [yq104.down,zA,lemS.down,lemC.down,zex,zew,zeu,reduceIte,zev,zey,zez,ze0,ze1,ze2,ze3,ze4,ze5,reduceCtorEq])
  ·have nx:zBh r2 acc = ⟨(tagR r2).1.s,(tagR r2).1.pos,6⟩:=if_pos ⟨c1,by unfold badT;rw [ea,b2,b3',c4];rfl⟩
   have c4':decide ((acc.getD (acc.length - 1) (0,[])).1≥a.1) = true:=c4
   obtain⟨v2,g6,ey,st6,lv,lt,fin⟩:=tl g5 ⟨(tagR r2).1.s,(tagR r2).1.pos,6⟩ k5 rd5
   (repeat (first|refine zS ?_|refine zK ?_|refine zR ?_|refine zD ?_|refine zB ?_|refine zI ?_|refine zJ ?_|refine zP ?_|refine zE ?_|refine zG ?_|refine zF ?_|refine zH (by decide) ?_|refine zQ ?_|((first|refine zC ?_|refine zM ?_|refine zO rfl rfl ?_|refine zN rfl ?_|refine zL ?_);simp only [yq104.down,zA,lemS.down,lemC.down,zex,zew,zeu,reduceIte,zev,zey,zez,ze0,ze1,ze2,ze3,ze4,ze5,reduceCtorEq,lemH.down,t0,t2,t3,t4,d0,er,b0,e1,ci,e2,fl0,a3,st3,er3,b1,la,Nat.add_zero,b2,lv3,b3,wl,zAs,ial,ll,c4',e5,lv,lt,Nat.add_zero,fl,ey,st6,wn,zi])))
   exact fin _ (nx) (by simp only [yq104.down,zA,lemS.down,lemC.down,zex,zew,zeu,reduceIte,zev,zey,zez,ze0,ze1,ze2,ze3,ze4,ze5,reduceCtorEq,t0]) (by simp only [yq104.down,zA,lemS.down,lemC.down,zex,zew,zeu,reduceIte,zev,zey,zez,ze0,ze1,ze2,ze3,ze4,ze5,reduceCtorEq,t2]) (by simp only [yq104.down,zA,lemS.down,lemC.down,zex,zew,zeu,reduceIte,zev,zey,zez,ze0,ze1,ze2,ze3,ze4,ze5,reduceCtorEq,t3]) (by simp only [yq104.down,zA,lemS.down,lemC.down,zex,zew,zeu,reduceIte,zev,zey,zez,ze0,ze1,ze2,ze3,ze4,ze5,reduceCtorEq])
 obtain⟨w,h',e,v',rfl,r⟩:=this
 exact⟨v',h',e,r⟩
end Go.X
end
