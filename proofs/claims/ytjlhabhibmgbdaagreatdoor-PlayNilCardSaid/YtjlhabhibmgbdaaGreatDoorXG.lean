/- The table of what is told. -/
import Derived.Test.YtjlhabhibmgbdaaGreatDoorProg
import Derived.KernelRfl
import Derived.Shelf.Spec.SlicesInsertGrow
import Derived.Lib.Bytealg
import Derived.Test.YtjlhabhibmgbdaaGreatDoorXC
import Derived.Test.YtjlhabhibmgbdaaGreatDoorXE
import Derived.Test.YtjlhabhibmgbdaaGreatDoorXF
set_option linter.unusedSimpArgs false
set_option linter.unusedVariables false
set_option maxHeartbeats 2000000
open Nat renaming reduceLeDiff → zPT, reduceEqDiff → zPU, reduceAdd → zPV
open Int renaming reduceBEq → zPW, reduceLT → zPX, reduceLE → zPY, reduceGT → zPZ, reduceGE → zPa, reduceEq → zPb, reduceAdd → zPc, reduceSub → zPd, reduceMul → zPe
section
open Go Go.X Go.Proofs Go.RowKit
namespace Go.X
set_option linter.unusedVariables false
def trueS:List Value→Option Value
 | []=>some (.bool true)
 | _=>none
theorem mixed:Tryz.prog.follows .mixedOrders=true:=by kernel_rfl
theorem zBa {P:Program} {l:List (Nat×Prim)} {f:Nat} {fn:Func} {F:XF} (hf:P.funcs[f]?=some fn) (hF:zt P fn=some F):(Tab P l).code f=some F:=by
 simp only[Tab,hf,Option.bind_some,hF]
theorem zNm {h:Heap} {a:Addr} {n:Nat} {l:List Value} (hl:h.loadN a n=some l):l.length=n:=by
 unfold Heap.loadN at hl
 split at hl
 ·rename_i c hc
  unfold zAD at hl
  cases hb:(a.off+n).ble c.cells.length with
  | false=>rw[hb] at hl;cases hl
  | true =>
   rw[hb] at hl
   cases hl
   have:=Nat.le_of_ble_eq_true hb
   simp;omega
 ·cases hl
theorem Tab.words {P:Program} {l:List (Nat×Prim)} (ok:XOK P (Tab P l)) {f:Nat} {fn:Func} (hf:P.funcs[f]?=some fn) (hF:zt P fn=some xq416) (hp:(Tab P l).prim 417=some (zg zAX)):XOK P (Tab P ((f,zA8)::l)):=by
 refine Tab.cons ok fun args h v h' hr=>?_
 unfold zA8 at hr
 split at hr
 ·rename_i a cap
  split at hr
  ·rename_i cs hcs
   split at hr
   ·rename_i bs hbs
    cases hr
    refine⟨zEn hf hF,Nat.le_refl _,zEo ok hf hF rfl (fun _ _ _ _ _ _=>⟨_,zCX (v:=.agg _) ?_⟩) fun n hn wf=>?_⟩
    ·show ((List.map (uw IntKind.u32) _).toArray.toList.all zp)=true
     rw[List.all_eq_true]
     intro x hx
     simp only[List.mem_map] at hx
     obtain⟨y,_,rfl⟩:=hx
     rfl
    ·have hld:∀j,j<64→(h.at n).load ⟨a.block,a.off+j,none⟩=some (uw .u8 (bs.getD j 0).toNat):=by
      intro j hj
      obtain rfl:=zGt hbs
      have hlen:(zV bs).length=64:=zNm hcs
      rw[zEp] at hlen
      exact zHg (show (h.at n).loadN a 64=some (zV bs) from hcs) (zMl (by omega))
     exact words_ok (Tab P l) hp (h.at n) wf a cap _ (fun j=>(bs.getD j 0).toNat_lt) hld
   ·cases hr
  ·cases hr
 ·cases hr
end Go.X
namespace Go.X
set_option linter.unusedVariables false
theorem zFj {args:List Value} {v:Value} (h:zCD args=some v):args.length=2∧zy v=true∧∀pr h,Comes pr xq454 args h v:=by
 unfold zCD at h
 split at h
 ·rename_i a n
  split at h
  ·rename_i hc
   cases h
   refine⟨rfl,rfl,fun pr h=>?_⟩
   have:=rotl_ok pr a.toNat (-n).toNat h (by omega) (by omega)
   rw[show -((-n).toNat:Int)=n by omega] at this
   have e:uw .u32 a.toNat=.int .u32 a:=by unfold uw;rw[zCG,Nat.mod_eq_of_lt (by omega)];congr 1;omega
   rw[e] at this
   exact this
  ·cases h
 ·cases h
theorem zFh {args:List Value} {v:Value} (h:zAX args=some v):args.length=2∧zy v=true∧∀pr h,pr.prim 454=some (zg zCD)→Comes pr xq417 args h v:=by
 unfold zAX at h
 split at h
 ·rename_i a n
  split at h
  ·rename_i hc
   cases h
   refine⟨rfl,rfl,fun pr h hp=>?_⟩
   have:=right_ok pr hp a.toNat n.toNat h (by omega)
   rw[show (n.toNat:Int)=n by omega] at this
   have e:uw .u32 a.toNat=.int .u32 a:=by unfold uw;rw[zCG,Nat.mod_eq_of_lt (by omega)];congr 1;omega
   rw[e] at this
   exact this
  ·cases h
 ·cases h
theorem str_of (s:ByteArray):zY s.data.toList=s:=zFt s
theorem zFq {args:List Value} {v:Value} (h:shaS args=some v):args.length=1∧zy v=true∧(∀pr h,zBB pr→Comes pr xq266 args h v):=by
 unfold shaS at h
 split at h
 ·rename_i s
  split at h
  ·rename_i hc
   cases h
   refine⟨rfl,rfl,fun pr h T=>?_⟩
   ·have:=zOI pr T s.data.toList hc h
    rwa [str_of] at this
  ·cases h
 ·cases h
theorem nilary {args:List Value} {v w:Value} {s:List Value→Option Value} (hs:∀a l,s (a::l)=none) (hw:s []=some w) (h:s args=some v):args=[]∧v=w:=by
 cases args with
 | nil=>rw[hw] at h;exact⟨rfl,(Option.some.inj h).symm⟩
 | cons a l=>rw[hs] at h;cases h
theorem zMj {P:Program} {f:Nat} {args:List Value} {v:Value} (ha:args.all zy=true) (hv:zy v=true) (hc:∀w,Calls P f args.toArray w fun e w'=>e=.returned v∧Below w.heap.size w w') (h:Heap):zBV P f args h v h:=by
 intro base ρ w args' hr wf hpre hargs
 have e:args'=args:=by
  clear hr hpre hc
  induction hargs with
  | nil=>rfl
  | cons h1 _ ih =>
   simp only[List.all_cons,Bool.and_eq_true] at ha
   rw[zDx ha.1 h1,ih ha.2]
 subst e
 refine (hc w).mono fun e w' hq=>?_
 obtain⟨rfl,q3⟩:=hq
 exact⟨_,ρ,rfl,hr.below q3,wf,⟨fun _ _ h=>h,fun _ h=>absurd rfl h,Nat.le_refl _,fun _ _ h=>h,fun _ _ _=>⟨rfl,rfl⟩,q3.mono hr.le,fun r h1 _=>q3.block r h1,fun A l h1 h2=>by rw[h1] at h2;cases h2⟩,zCX hv⟩
theorem Tab.below {P:Program} {l:List (Nat×Prim)} (ok:XOK P (Tab P l)) {f:Nat} (hcall:zBW P f) {s:List Value→Option Value}
  (hs:∀args v,s args=some v→args.all zy=true∧zy v=true∧∀w,Calls P f args.toArray w fun e w'=>e=.returned v∧Below w.heap.size w w'):XOK P (Tab P ((f,zg s)::l)):=by
 refine Tab.cons ok fun args h v h' hr=>?_
 unfold zg at hr
 split at hr
 ·rename_i v1 hv
  cases hr
  obtain⟨h1,h2,h3⟩:=hs args v hv
  exact⟨hcall,Nat.le_refl _,zMj h1 h2 h3 h⟩
 ·cases hr
end Go.X
end
section
open Go Go.X Go.Proofs Go.RowKit
namespace Go.X
set_option linter.unusedVariables false
def T1:List (Nat×Prim):=[(454,zg zCD)]
def T2:List (Nat×Prim):=(417,zg zAX)::T1
def T3:List (Nat×Prim):=(416,zA8)::T2
def T4:List (Nat×Prim):=(415,zg zBb)::T3
def T5:List (Nat×Prim):=(346,zg zCz)::T4
def T6:List (Nat×Prim):=(266,zg shaS)::T5
theorem ok1:XOK Tryz.prog (Tab Tryz.prog T1):=Tab.pure (Tab.nil mixed) Tryz.func454 cq454 fun args v h=>⟨(zFj h).1,(zFj h).2.1,fun g=>(zFj h).2.2 _ g⟩
theorem ok2:XOK Tryz.prog (Tab Tryz.prog T2):=Tab.pure ok1 Tryz.func417 cq417 fun args v h=>⟨(zFh h).1,(zFh h).2.1,fun g=>(zFh h).2.2 _ g rfl⟩
theorem ok3:XOK Tryz.prog (Tab Tryz.prog T3):=Tab.words ok2 Tryz.func416 cq416 rfl
theorem ok4:XOK Tryz.prog (Tab Tryz.prog T4):=Tab.pure ok3 Tryz.func415 cq415 fun args v h=>by
 obtain⟨rfl,rfl⟩:=nilary (s:=zBb) (fun _ _=>rfl) rfl h
 exact⟨rfl,by kernel_rfl,fun g=>zM5 _ g⟩
theorem ok5:XOK Tryz.prog (Tab Tryz.prog T5):=Tab.pure ok4 Tryz.func346 cq346 fun args v h=>by
 obtain⟨rfl,rfl⟩:=nilary (s:=zCz) (fun _ _=>rfl) rfl h
 exact⟨rfl,by kernel_rfl,fun g=>begin_ok _ g⟩
theorem sha5:zBB (Tab Tryz.prog T5):=⟨rfl,rfl,rfl,rfl,rfl,zBa Tryz.func347 cq347,rfl,zBa Tryz.func245 cq245,rfl,zBa Tryz.func246 cq246,rfl,zBa Tryz.func248 cq248⟩
theorem ok6:XOK Tryz.prog (Tab Tryz.prog T6):=Tab.pure ok5 Tryz.func266 cq266 fun args v h=>⟨(zFq h).1,(zFq h).2.1,fun g=>(zFq h).2.2 _ g sha5⟩
end Go.X
end
section
open Go Go.X Go.Proofs Go.RowKit
namespace Go.X
set_option linter.unusedVariables false
theorem Tab.read {P:Program} {l:List (Nat×Prim)} (ok:XOK P (Tab P l)) {f:Nat} {fn:Func} {F:XF} (hf:P.funcs[f]?=some fn) (hF:zt P fn=some F) {g:Prim}
  (hg:∀args h v h',g args h=some (v,h')→h'=h∧args.length=F.nargs∧zy v=true∧∀n,HWF (h.at n)→Comes (Tab P l) F args (h.at n) v):XOK P (Tab P ((f,g)::l)):=by
 refine Tab.cons ok fun args h v h' hr=>?_
 obtain⟨rfl,h2,h3,h4⟩:=hg args h v h' hr
 exact⟨zEn hf hF,Nat.le_refl _,zEo ok hf hF h2 (fun _ _ _ _ _ _=>⟨v,zCX h3⟩) fun n _ wf=>h4 n wf⟩
theorem zE8 {args:List Value} {v:Value} (h:zBf args=some v):args.length=1∧zy v=true∧∀pr h,Comes pr xq247 args h v:=by
 unfold zBf at h
 split at h
 ·rename_i n
  split at h
  ·rename_i hc
   cases h
   refine⟨rfl,rfl,fun pr h=>?_⟩
   have:=four_ok pr n.toNat (by omega) h
   rw[show (n.toNat:Int)=n by omega] at this
   exact this
  ·cases h
 ·cases h
theorem zER {args:List Value} {h:Heap} {v:Value} {h':Heap} (hr:zCq args h=some (v,h')):h'=h∧args.length=2∧zy v=true∧(∀pr n,zBB pr→pr.prim 247=some (zg zBf)→HWF (h.at n)→Comes pr xq144 args (h.at n) v):=by
 unfold zCq at hr
 split at hr
 ·rename_i p w
  split at hr
  ·rename_i l hl
   split at hr
   ·rename_i hc
    cases hr
    obtain⟨q,rfl⟩:∃q:Nat,p=(q:Int):=⟨p.toNat,by omega⟩
    have e:Value.int .u8 (q:Int)=uw .u8 q:=nat_u8 (by omega)
    rw[Int.toNat_natCast,e]
    refine⟨rfl,rfl,rfl,fun pr n T h4 wf=>?_⟩
    ·exact zOX pr T h4 q (by omega) _ wf w l hl hc.2.2
   ·cases hr
  ·cases hr
 ·cases hr
def R1:List (Nat×Prim):=(247,zg zBf)::T6
def R2:List (Nat×Prim):=(144,zCq)::R1
theorem rk1:XOK Tryz.prog (Tab Tryz.prog R1):=Tab.pure ok6 Tryz.func247 cq247 fun args v h=>⟨(zE8 h).1,(zE8 h).2.1,fun g=>(zE8 h).2.2 _ g⟩
theorem shaR1:zBB (Tab Tryz.prog R1):=⟨rfl,rfl,rfl,rfl,rfl,zBa Tryz.func347 cq347,rfl,zBa Tryz.func245 cq245,rfl,zBa Tryz.func246 cq246,rfl,zBa Tryz.func248 cq248⟩
theorem rk2:XOK Tryz.prog (Tab Tryz.prog R2):=Tab.read rk1 Tryz.func144 cq144 fun args h v h' hr=>⟨(zER hr).1,(zER hr).2.1,(zER hr).2.2.1,fun n wf=>(zER hr).2.2.2 _ n shaR1 rfl wf⟩
end Go.X
end
section
open Go Go.Proofs Go.RowKit Go.Lib
namespace Go.X
set_option linter.unusedVariables false
theorem zEI {P:Program} (w:World) (dT sT ty elem:TypeId) (e b o dLen dCap:Nat) (a:Addr) (sLen sCap:Nat) (cs:List Value)
  (hu:P.underlying dT=some (.slice elem)) (hs:(P.info? elem).map (·.size)=some e) (hn:cs.length=Nat.min sLen dLen*e)
  (hsrc:∀j v,cs[j]?=some v→w.cell? (a.add j)=some v) (hc:∀j,j<cs.length→(w.cell? ⟨b,o+j,none⟩).isSome=true) (hf:∀j,j<cs.length→w.frozen? ⟨b,o+j,none⟩=false) (h1:∀v∈cs,v.oneCell'=true) :
  (Builtin.copy_ #[dT,sT] ty #[.slice (some ⟨b,o,none⟩) dLen dCap,.slice (some a) sLen sCap]).run P w=.ok (goInt (Nat.min sLen dLen)) (w.setCells b o cs):=by
 have hl:=run_loadCells_list (P:=P) w a cs hsrc
 have hst:=run_storeCells_cells (P:=P) b o cs 0 w (by simpa using hc) (by simpa using hf) h1
 cases hq:P.info? elem with
 | none=>simp[hq] at hs
 | some i =>
  have hi:i.size=e:=by simpa [hq] using hs
  simp[Builtin.copy_,run_underlying hu,Builtin.lenOf,Builtin.firstCells,sizeOf,typeInfo,hq,hi,←hn,hl,hst]
theorem zFC:(Tryz.prog.info? 253).map (fun i=>(i.zero,i.size,i.bytes))=some (some (.agg #[.string ⟨#[]⟩,.bool false,.string ⟨#[]⟩,.bool false,.string ⟨#[]⟩,.int .i64 0]),6,72):=by kernel_rfl
theorem sizeTag (w:World):(Go.sizeOf 253).run Tryz.prog w=.ok 6 w:=by
 obtain⟨i,hi,_,h2,_⟩:=info_parts zFC
 simp[Go.sizeOf,typeInfo,hi,h2]
set_option maxHeartbeats 4000000 in
set_option maxRecDepth 100000 in
theorem zNh (b off n c i vb voff m vc:Nat) (cs vs:List Value) (w:World) (hi:i<n) (hm:0<m) (hroom:n+m≤c) (hc63:n+m≤9223372036854775807) (hvb:vb≠b)
  (hcl:cs.length=n*6) (hvl:vs.length=m*6)
  (hcs:∀j v,cs[j]?=some v→w.cell? ⟨b,off+j,none⟩=some v) (hsp:∀j,j<(n+m)*6→(w.cell? ⟨b,off+j,none⟩).isSome=true) (hfz:∀j,j<(n+m)*6→w.frozen? ⟨b,off+j,none⟩=false)
  (hvs:∀j v,vs[j]?=some v→w.cell? ⟨vb,voff+j,none⟩=some v) (h1c:∀v∈cs.drop (i*6),v.oneCell'=true) (h1v:∀v∈vs,v.oneCell'=true)
  (tA tB:TypeId) (kA kB:Nat) (hsa:w.shape? vb=some (tA,kA)) (hsb:w.shape? b=some (tB,kB)) (hkB:kB≠0) (hfa:w.frozen? ⟨vb,voff,none⟩=false) (hfe:w.frozen? ⟨vb,kA,none⟩=false) :
  Calls Tryz.prog 466 #[.slice (some ⟨b,off,none⟩) n c,.int .i64 i,.slice (some ⟨vb,voff,none⟩) m vc] w fun e w' =>
   e=.returned (.slice (some ⟨b,off,none⟩) (n+m) c)∧w'=(w.drew.setCells b (off+(i+m)*6) (cs.drop (i*6))).setCells b (off+i*6) vs:=by
 have hz1:¬((m:Int)=0):=by omega
 have hz2:¬((i:Int)=(n:Int)):=by omega
 have hsz:(Tryz.prog.info? 253).map (·.size)=some 6:=by kernel_rfl
 have hz2s:∀w:World,(Go.sizeOf 253).run Tryz.prog w=.ok 6 w:=sizeTag
 have hov:∀lb cb,(callFunc 484 #[.slice (some ⟨vb,voff,none⟩) m vc,.slice (some ⟨b,off+(i+m)*6,none⟩) lb cb]).run Tryz.prog w=.ok (.value (.bool false)) w:=fun lb cb=>by
  rw[run_callFunc_extern Tryz.func484 (by kernel_rfl) (by kernel_rfl) (by kernel_rfl) (e:=Extern.SlicesOverlaps.overlaps #[154,154] #[4]) (by kernel_rfl),
   Lib.run_overlaps_apart w 154 4 253 Tryz.underlying154 6 hz2s ⟨vb,voff,none⟩ ⟨b,off+(i+m)*6,none⟩ m vc lb cb hvb tA tB kA kB hsa hsb hkB hfa hfe]
  rfl
 have hdl:(cs.drop (i*6)).length=(n - i)*6:=by rw[List.length_drop,hcl];omega
 have mixed:Tryz.prog.follows .mixedOrders=true:=by kernel_rfl
 have hw1:IntKind.i64.wrap ((i:Int)+(m:Int))=(i:Int)+(m:Int):=by rw[IntKind.wrap_i64];omega
 have hb1:(0:Int)≤(i:Int)+(m:Int):=by omega
 have hin:i≤n:=by omega
 have htn:((i:Int)+(m:Int)).toNat=i+m:=by omega
 have hb2:¬(c=i+m):=by omega
 have hb3:(i:Int)≤(n:Int)+(m:Int):=by omega
 have hb4:¬(c=i):=by omega
 have hcp1:∀ty dc sc,(Builtin.copy_ #[154,154] ty #[.slice (some ⟨b,off+(i+m)*6,none⟩) (n+m - (i+m)) dc,.slice (some ⟨b,off+i*6,none⟩) (n+m - i) sc]).run Tryz.prog w.drew=.ok (goInt (Nat.min (n+m - i) (n+m - (i+m)))) (w.drew.setCells b (off+(i+m)*6) (cs.drop (i*6))):=fun ty dc sc =>
  zEI w.drew _ _ ty 253 6 b (off+(i+m)*6) (n+m - (i+m)) dc ⟨b,off+i*6,none⟩ (n+m - i) sc (cs.drop (i*6)) Tryz.underlying154 hsz (by rw[hdl];simp only[Nat.min_def];split<;>omega)
   (fun j v hj=>by rw[Addr.add_lit,Nat.add_assoc];exact hcs (i*6+j) v (by rwa [List.getElem?_drop] at hj))
   (fun j hj=>by rw[Nat.add_assoc];exact hsp _ (by omega)) (fun j hj=>by rw[Nat.add_assoc];exact hfz _ (by omega)) h1c
 obtain⟨W1,hW1⟩:∃W1,W1=w.drew.setCells b (off+(i+m)*6) (cs.drop (i*6)):=⟨_,rfl⟩
 have hsp1:∀k,k<(n+m)*6→(W1.cell? ⟨b,off+k,none⟩).isSome=true:=fun k hk=>by
  rw[hW1]
  exact isSome_setCells b _ _ _ (fun j hj=>by rw[Nat.add_assoc];exact hsp _ (by omega)) _ (hsp k hk)
 have hcp2:∀ (W:World),(∀x,W.cell? x=W1.cell? x)→(∀x,W.frozen? x=W1.frozen? x)→∀ty dc,(Builtin.copy_ #[154,154] ty #[.slice (some ⟨b,off+i*6,none⟩) (n+m - i) dc,.slice (some ⟨vb,voff,none⟩) m vc]).run Tryz.prog W=.ok (goInt (Nat.min m (n+m - i))) (W.setCells b (off+i*6) vs):=fun W hWc hWf ty dc =>
  zEI W _ _ ty 253 6 b (off+i*6) (n+m - i) dc ⟨vb,voff,none⟩ m vc vs Tryz.underlying154 hsz (by rw[hvl];simp only[Nat.min_def];split<;>omega)
   (fun j v hj=>by
    rw[Addr.add_lit,hWc,hW1,World.cell?_setCells_out b _ _ _ _ (fun h _=>absurd h hvb)]
    exact hvs j v hj)
   (fun j hj=>by rw[hWc,Nat.add_assoc];exact hsp1 _ (by omega)) (fun j hj=>by rw[hWf,hW1,World.frozen?_setCells,Nat.add_assoc];exact hfz _ (by omega)) h1v
 rw[←hW1] at hcp1
 have u56:=run_underlying Tryz.underlying154
 go_enter Tryz.func466,Tryz.ntmps466
 go_wp2_with (simp only[hov])
 go_region_law_o (refine step_copy_runI rfl _ _ 154 154 rfl _ _ (by simp[Act.eval,Act.put]) (by simp[Act.eval,Act.put]) (hcp1 _ _ _) ?_)
 go_wp2_with (at_builtin;refine wpList_copy_runI _ rfl _ _ 154 154 rfl _ _ rfl rfl (hcp2 _ (fun _=>rfl) (fun _=>rfl) _ _) ?_)
 go_ret
 first|exact⟨rfl,rfl⟩|exact⟨rfl,by rw[hW1]⟩
set_option maxHeartbeats 4000000 in
set_option maxRecDepth 100000 in
theorem zNg (b off n c i vb voff m vc:Nat) (cs vs:List Value) (w:World) (hi:i<n) (hm:0<m) (hnc:n≤c) (hroom:c<n+m) (hbig:(n+m)*72≤140737488355328)
  (hcl:cs.length=n*6) (hvl:vs.length=m*6)
  (hcs:∀j v,cs[j]?=some v→w.cell? ⟨b,off+j,none⟩=some v)
  (hvs:∀j v,vs[j]?=some v→w.cell? ⟨vb,voff+j,none⟩=some v) (h1c:∀v∈cs.drop (i*6),v.oneCell'=true) (h1v:∀v∈vs,v.oneCell'=true) :
  Calls Tryz.prog 466 #[.slice (some ⟨b,off,none⟩) n c,.int .i64 i,.slice (some ⟨vb,voff,none⟩) m vc] w fun e w' =>
   e=.returned (.slice (some ⟨w.heap.size,0,none⟩) (n+m) (grownCap w (n+m) c 253)) ∧
   w'=(((w.alloc (.cells ((cs.take (i*6)).toArray++Builtin.zeroCells (Value.agg #[.string ⟨#[]⟩,.bool false,.string ⟨#[]⟩,.bool false,.string ⟨#[]⟩,.int .i64 0]).cells (n+m - i)++Builtin.zeroCells (Value.agg #[.string ⟨#[]⟩,.bool false,.string ⟨#[]⟩,.bool false,.string ⟨#[]⟩,.int .i64 0]).cells (grownCap w (n+m) c 253 - (n+m))) 253)).drew.setCells w.heap.size (i*6) vs).drew).setCells w.heap.size ((i+m)*6) (cs.drop (i*6)):=by
 have mixed:Tryz.prog.follows .mixedOrders=true:=by kernel_rfl
 obtain⟨i0,hi0,hz0,hzs,hzb⟩:=info_parts zFC
 have hz1:¬((m:Int)=0):=by omega
 have hz2:¬((i:Int)=(n:Int)):=by omega
 have hz3:(c:Int)<(n:Int)+(m:Int):=by omega
 have hsz:(Tryz.prog.info? 253).map (·.size)=some 6:=by rw[hi0];simp[hzs]
 have u56:=run_underlying Tryz.underlying154
 have hbw:b<w.heap.size:=block_lt_of_cell (hcs 0 _ (List.getElem?_eq_getElem (by omega)))
 have hvw:vb<w.heap.size:=block_lt_of_cell (hvs 0 _ (List.getElem?_eq_getElem (by omega)))
 have hkk:(n:Int)+(m:Int) - (i:Int)=((n+m - i:Nat):Int):=by omega
 have hik:i+(n+m - i)=n+m:=by omega
 have hold:(Builtin.firstCells i0.size i (.slice (some ⟨b,off,none⟩) i c)).run Tryz.prog w.drew=.ok (cs.take (i*6)).toArray w.drew:=by
  rw[hzs]
  exact run_firstCells_some w.drew 6 i ⟨b,off,none⟩ i c (cs.take (i*6)) (by rw[List.length_take];omega) (fun j v hj=>by
   rw[Addr.add_lit]
   rw[List.getElem?_take] at hj
   split at hj
   ·exact hcs j v hj
   ·cases hj)
 have hrz:∀ty,(Builtin.append_ #[154,3] ty #[.slice (some ⟨b,off,none⟩) i c,.int .i64 ((n:Int)+(m:Int) - (i:Int))]).run Tryz.prog w =
   .ok (.slice (some ⟨w.heap.size,0,none⟩) (n+m) (grownCap w (n+m) c 253)) (w.drew.alloc (.cells ((cs.take (i*6)).toArray++Builtin.zeroCells (Value.agg #[.string ⟨#[]⟩,.bool false,.string ⟨#[]⟩,.bool false,.string ⟨#[]⟩,.int .i64 0]).cells (n+m - i)++Builtin.zeroCells (Value.agg #[.string ⟨#[]⟩,.bool false,.string ⟨#[]⟩,.bool false,.string ⟨#[]⟩,.int .i64 0]).cells (grownCap w (n+m) c 253 - (n+m))) 253)):=fun ty=>by
  have h:=Lib.run_append_grow_zeros w 154 3 ty 253 i0 _ .i64 .i64 Tryz.underlying154 Tryz.underlying3 hi0 hz0 (some ⟨b,off,none⟩) i c (cs.take (i*6)) hold (n+m - i) (by omega) (by omega) (by omega) (by omega) (by rw[hzb];omega) (by rw[hzb,hik];exact growslice_fits hroom hbig)
  rw[hik] at h
  rw[hkk]
  exact h
 obtain⟨G,hG⟩:∃G,G=grownCap w (n+m) c 253:=⟨_,rfl⟩
 obtain⟨ROW,hROW⟩:∃ROW:Array Value,ROW=(cs.take (i*6)).toArray++Builtin.zeroCells (Value.agg #[.string ⟨#[]⟩,.bool false,.string ⟨#[]⟩,.bool false,.string ⟨#[]⟩,.int .i64 0]).cells (n+m - i)++Builtin.zeroCells (Value.agg #[.string ⟨#[]⟩,.bool false,.string ⟨#[]⟩,.bool false,.string ⟨#[]⟩,.int .i64 0]).cells (G - (n+m)):=⟨_,rfl⟩
 rw[←hG] at hrz ⊢
 rw[←hROW] at hrz ⊢
 have hRl:(n+m)*6≤ROW.size:=by
  rw[hROW]
  simp[Builtin.zeroCells,Value.cells]
  omega
 obtain⟨W1,hW1⟩:∃W1,W1=w.drew.alloc (.cells ROW 253):=⟨_,rfl⟩
 rw[←hW1] at hrz
 have hN:∀j,j<(n+m)*6→(W1.cell? ⟨w.heap.size,j,none⟩).isSome=true:=fun j hj=>by
  rw[hW1,World.cell?_alloc_at (w:=w.drew) ROW _ w.heap.size j rfl,Array.getElem?_eq_getElem (by omega)];rfl
 have hNf:∀j,W1.frozen? ⟨w.heap.size,j,none⟩=false:=fun j=>by rw[hW1];exact World.frozen?_alloc_at (w:=w.drew) ROW _ w.heap.size j rfl
 have hOb:∀j v,w.cell? ⟨b,j,none⟩=some v→W1.cell? ⟨b,j,none⟩=some v:=fun j v h=>by rw[hW1,World.cell?_alloc_past (w:=w.drew) _ b j hbw];exact h
 have hOv:∀j v,w.cell? ⟨vb,j,none⟩=some v→W1.cell? ⟨vb,j,none⟩=some v:=fun j v h=>by rw[hW1,World.cell?_alloc_past (w:=w.drew) _ vb j hvw];exact h
 have hcpA:∀ (W:World),(∀x,W.cell? x=W1.cell? x)→(∀x,W.frozen? x=W1.frozen? x)→∀ty dc,(Builtin.copy_ #[154,154] ty #[.slice (some ⟨w.heap.size,i*6,none⟩) (n+m - i) dc,.slice (some ⟨vb,voff,none⟩) m vc]).run Tryz.prog W=.ok (goInt (Nat.min m (n+m - i))) (W.setCells w.heap.size (i*6) vs):=fun W hWc hWf ty dc =>
  zEI W _ _ ty 253 6 w.heap.size (i*6) (n+m - i) dc ⟨vb,voff,none⟩ m vc vs Tryz.underlying154 hsz (by rw[hvl];simp only[Nat.min_def];split<;>omega)
   (fun j v hj=>by rw[Addr.add_lit,hWc];exact hOv _ v (hvs j v hj))
   (fun j hj=>by rw[hWc];exact hN _ (by omega)) (fun j hj=>by rw[hWf];exact hNf _) h1v
 have hGn:n+m≤G:=by rw[hG];exact grownCap_ge w _ _ _
 have hG63:G≤9223372036854775807:=by
  have:=grownCap_le_maxLen w (n+m) c 253 (by unfold maxLen;omega)
  rw[←hG] at this
  unfold maxLen at this
  omega
 have hGi:¬(G=i):=by omega
 have hGim:¬(G=i+m):=by omega
 have hci:¬(c=i):=by omega
 have hbN:b≠w.heap.size:=by omega
 have hdl:(cs.drop (i*6)).length=(n - i)*6:=by rw[List.length_drop,hcl];omega
 have hcpB:∀ (W:World),(∀x,W.cell? x=(W1.setCells w.heap.size (i*6) vs).cell? x)→(∀x,W.frozen? x=(W1.setCells w.heap.size (i*6) vs).frozen? x)→∀ty dc sc,(Builtin.copy_ #[154,154] ty #[.slice (some ⟨w.heap.size,(i+m)*6,none⟩) (n+m - (i+m)) dc,.slice (some ⟨b,off+i*6,none⟩) (n - i) sc]).run Tryz.prog W=.ok (goInt (Nat.min (n - i) (n+m - (i+m)))) (W.setCells w.heap.size ((i+m)*6) (cs.drop (i*6))):=fun W hWc hWf ty dc sc =>
  zEI W _ _ ty 253 6 w.heap.size ((i+m)*6) (n+m - (i+m)) dc ⟨b,off+i*6,none⟩ (n - i) sc (cs.drop (i*6)) Tryz.underlying154 hsz (by rw[hdl];simp only[Nat.min_def];split<;>omega)
   (fun j v hj=>by
    rw[Addr.add_lit,hWc,World.cell?_setCells_out _ _ _ _ _ (fun h _=>absurd h hbN),Nat.add_assoc]
    exact hOb _ v (hcs (i*6+j) v (by rwa [List.getElem?_drop] at hj)))
   (fun j hj=>by rw[hWc];exact isSome_setCells _ _ _ _ (fun t ht=>hN _ (by omega)) _ (hN _ (by omega)))
   (fun j hj=>by rw[hWf,World.frozen?_setCells];exact hNf _) h1c
 subst hW1
 have hE1:∀x,((w.alloc (.cells ROW 253)).drew).cell? x=(w.drew.alloc (.cells ROW 253)).cell? x:=fun x=>rfl
 have hE2:∀x,((w.alloc (.cells ROW 253)).drew).frozen? x=(w.drew.alloc (.cells ROW 253)).frozen? x:=fun x=>rfl
 have hF1:∀x,(((w.alloc (.cells ROW 253)).drew.setCells w.heap.size (i*6) vs).drew).cell? x=((w.drew.alloc (.cells ROW 253)).setCells w.heap.size (i*6) vs).cell? x:=fun x=>rfl
 have hF2:∀x,(((w.alloc (.cells ROW 253)).drew.setCells w.heap.size (i*6) vs).drew).frozen? x=((w.drew.alloc (.cells ROW 253)).setCells w.heap.size (i*6) vs).frozen? x:=fun x=>rfl
 have hw1:IntKind.i64.wrap ((i:Int)+(m:Int))=(i:Int)+(m:Int):=by rw[IntKind.wrap_i64];omega
 have hb1:(0:Int)≤(i:Int)+(m:Int):=by omega
 have hin:i≤n:=by omega
 have htn:((i:Int)+(m:Int)).toNat=i+m:=by omega
 have hb3:(i:Int)≤(n:Int):=by omega
 clear hkk hik hold hROW hG hRl
 go_enter Tryz.func466,Tryz.ntmps466
 go_wp2_with (first
  | (at_builtin;refine Lib.wpList_append_run _ rfl _ _ _ _ rfl _ _ rfl rfl _ _ (hrz _) ?_)
  | (at_builtin;refine wpList_copy_runI _ rfl _ _ 154 154 rfl _ _ rfl rfl (hcpA _ hE1 hE2 _ _) ?_)
  | (at_builtin;refine wpList_copy_runI _ rfl _ _ 154 154 rfl _ _ rfl rfl (hcpB _ (fun _=>rfl) (fun _=>rfl) _ _ _) ?_))
 go_region_law_o (refine step_copy_runI rfl _ _ 154 154 rfl (.slice (some ⟨w.heap.size,(i+m)*6,none⟩) (n+m - (i+m)) (G - (i+m))) (.slice (some ⟨b,off+i*6,none⟩) (n - i) (c - i)) (by simp[Act.eval,Act.put]) (by simp[Act.eval,Act.put]) (hcpB _ hF1 hF2 3 (G - (i+m)) (c - i)) ?_)
 go_wp2
 go_ret
 exact⟨rfl,rfl⟩
set_option maxHeartbeats 4000000 in
set_option maxRecDepth 100000 in
theorem zNf (base:Option Addr) (n c m vc:Nat) (va:Option Addr) (v:Value) (w w':World) (hm:0<m) (hnc:n≤c) (hnil:base=none→n=0)
  (hrun:(Builtin.append_ #[154,154] 154 #[.slice base n c,.slice va m vc]).run Tryz.prog w=.ok v w') :
  Calls Tryz.prog 466 #[.slice base n c,.int .i64 n,.slice va m vc] w fun e w1=>e=.returned v∧w1=w':=by
 have hz1:¬((m:Int)=0):=by omega
 have u56:=run_underlying Tryz.underlying154
 go_enter Tryz.func466,Tryz.ntmps466
 cases base with
 | none =>
  have h0:=hnil rfl
  subst h0
  go_wp2_with (at_builtin;refine Lib.wpList_append_run _ rfl _ _ _ _ rfl _ _ rfl rfl _ _ hrun ?_)
  go_ret
  exact⟨rfl,rfl⟩
 | some a =>
  obtain⟨ab,ao,asp⟩:=a
  go_wp2_with (at_builtin;refine Lib.wpList_append_run _ rfl _ _ _ _ rfl _ _ rfl rfl _ _ hrun ?_)
  all_goals (go_ret;exact⟨rfl,rfl⟩)
end Go.X
end
section
open Go Go.X Go.Proofs Go.RowKit
namespace Go.X
theorem insEntryFn:InsFn Tryz.prog 466 154 253 6 72 (.agg #[.string ⟨#[]⟩,.bool false,.string ⟨#[]⟩,.bool false,.string ⟨#[]⟩,.int .i64 0]) where
 call:=⟨_,Tryz.func466,by decide +kernel,by kernel_rfl⟩
 und:=Tryz.underlying154
 info:=zFC
 zero:=by kernel_rfl
 size:=by kernel_rfl
 bytes:=by kernel_rfl
 zlen:=rfl
 by0:=by decide
 sz0:=by decide
 end_:=zNf
 shift:=zNh
 grow:=zNg
end Go.X
end
section
open Go Go.X Go.Proofs Go.RowKit
namespace Go.X
set_option linter.unusedVariables false
def cmpS:List Value→Option Value
 | [.string a,.string b]=>some (.int .i64 (Lib.compareBytes a.data.toList b.data.toList))
 | _=>none
set_option maxHeartbeats 1000000 in
set_option maxRecDepth 100000 in
theorem zM4 (a b:ByteArray) (w:World):Calls Tryz.prog 499 #[.string a,.string b] w fun e w'=>e=.returned (.int .i64 (Lib.compareBytes a.data.toList b.data.toList))∧w'=w:=by
 have mixed:=mixed
 have u3:=run_underlying Tryz.underlying3
 have u9:=run_underlying Tryz.underlying9
 go_enter Tryz.func499,Tryz.ntmps499
 go_wp2
 rw[run_callFunc_extern Tryz.func510 (by kernel_rfl) (by kernel_rfl) (by kernel_rfl) (e:=Extern.BytealgCompare.compare) (by kernel_rfl),Lib.run_compareString]
 simp only[Result.andThen]
 rw[Oper.upon_value]
 go_wp2
 go_ret
 exact⟨rfl,rfl⟩
theorem cmpS_ok {args:List Value} {v:Value} (h:cmpS args=some v):args.all zy=true∧zy v=true∧∀w,Calls Tryz.prog 499 args.toArray w fun e w'=>e=.returned v∧Below w.heap.size w w':=by
 unfold cmpS at h
 split at h
 ·rename_i a b
  cases h
  refine⟨rfl,rfl,fun w=>(zM4 a b w).mono fun e w' hq=>?_⟩
  obtain⟨rfl,rfl⟩:=hq
  exact⟨rfl,Below.refl _ _⟩
 ·cases h
def Z1:List (Nat×Prim):=(499,zg cmpS)::R2
theorem zk1:XOK Tryz.prog (Tab Tryz.prog Z1):=Tab.below rk2 ⟨_,Tryz.func499,by decide +kernel,by kernel_rfl⟩ fun args v h=>cmpS_ok h
def Z2:List (Nat×Prim):=(466,zBh 6 72)::Z1
theorem zk2:XOK Tryz.prog (Tab Tryz.prog Z2):=Tab.cons zk1 fun args h v h' hr=>⟨insEntryFn.call,zHZ hr,zNi insEntryFn hr⟩
end Go.X
end
