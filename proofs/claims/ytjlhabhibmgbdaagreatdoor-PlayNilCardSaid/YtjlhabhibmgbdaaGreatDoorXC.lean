/- Rules for running code by the interpreter, and its equations. -/
import Derived.Shelf.Spec.SlicesInsertGrow
import Derived.Test.YtjlhabhibmgbdaaGreatDoorXB
set_option linter.unusedSimpArgs false
set_option linter.unusedVariables false
set_option maxHeartbeats 2000000
open Nat renaming reduceLeDiff → zPT, reduceEqDiff → zPU, reduceAdd → zPV
open Int renaming reduceBEq → zPW, reduceLT → zPX, reduceLE → zPY, reduceGT → zPZ, reduceGE → zPa, reduceEq → zPb, reduceAdd → zPc, reduceSub → zPd, reduceMul → zPe
section
namespace Go.X
open Go.RowKit
structure CLe (cf cf':CallF):Prop where
 fn:∀f a h r,cf f a h=some r→cf' f a h=some r
 yl:∀f a h r,cf.yl f a h=some r→cf'.yl f a h=some r
theorem zIg {cf cf':CallF} (hc:CLe cf cf') {t:Fr} {h:Heap} {x:XO} {r:Value×Heap} (hs:zm cf t h x=some r):zm cf' t h x=some r:=by
 unfold zm at *
 cases hw:zq t x.guard<;>rw[hw] at hs<;>simp only[cond_true,cond_false] at *
 ·exact hs
 ·cases hx:x.op<;>rw[hx] at hs<;>simp only[zk] at *<;>try exact hs
  split at hs
  ·exact hc.fn _ _ _ _ hs
  ·rename_i l first caps _
   cases hb:(first.isEmpty&&caps.isEmpty)<;>rw[hb] at hs
   ·cases hs
   ·exact hc.yl _ _ _ _ hs
  ·cases hs
theorem zHw {cf cf':CallF} (hc:CLe cf cf'):∀ {l:List XO} {t:Fr} {h:Heap} {r:Fr×Heap},opsX cf l t h=some r→opsX cf' l t h=some r
 | [],_,_,_,hs=>hs
 | x::l,t,h,r,hs=>by
  simp only[opsX] at *
  split at hs
  ·rename_i v h' hv
   rw[zIg hc hv]
   exact zHw hc hs
  ·cases hs
theorem zHr {cf cf':CallF} (hc:CLe cf cf'):∀ {l:List XO} {t:Fr} {h:Heap} {r:List (Fr×Heap)},opsT cf l t h=some r→opsT cf' l t h=some r
 | [],_,_,_,hs=>hs
 | x::l,t,h,r,hs=>by
  simp only[opsT] at *
  split at hs
  ·rename_i v h' hv
   rw[zIg hc hv]
   dsimp only
   split at hs
   ·rename_i l' hl
    rw[zHr hc hl]
    exact hs
   ·cases hs
  ·cases hs
structure PLe (P P':Prog):Prop where
 code:∀f F,P.code f=some F→P'.code f=some F
 prim:∀f,P.prim f=P'.prim f
theorem callF_le {P P':Prog} (hp:PLe P P') {r r':XC→Fr→Heap→Option (XE×Fr×Heap)} (hr:∀c t h q,r c t h=some q→r' c t h=some q):∀f a h q,zAM P r f a h=some q→zAM P' r' f a h=some q:=by
 intro f a h q hs
 unfold zAM at *
 rw[←hp.prim f]
 split at hs
 ·exact hs
 ·split at hs
  ·rename_i F hF
   rw[hp.code f F hF]
   dsimp only
   split at hs
   ·rename_i hl
    rw[if_pos hl]
    split at hs
    ·rename_i t1 h1 he;rw[hr _ _ _ _ he];exact hs
    ·rename_i t1 h1 he;rw[hr _ _ _ _ he];exact hs
    ·cases hs
   ·cases hs
  ·cases hs
theorem zPQ {r r':XC→Fr→Heap→Option (XE×Fr×Heap)} (hr:∀c t h q,r c t h=some q→r' c t h=some q):∀A a h q,zA9 r A a h=some q→zA9 r' A a h=some q:=by
 intro A a h q hs
 unfold zA9 at *
 split at hs
 ·rename_i r1 h1
  try rw[h1]
  split at hs
  ·rename_i hl
   try rw[if_pos hl]
   split at hs
   ·rename_i t2 h2 he
    rw[hr _ _ _ _ he]
    dsimp only
    split at hs
    ·rename_i r2 hr2
     try rw[hr2]
     try dsimp only
     split at hs
     ·rename_i hst
      try rw[if_pos hst]
      split at hs
      ·rename_i e t3 h3 hb
       rw[hr _ _ _ _ hb]
       exact hs
      ·cases hs
     ·cases hs
    ·cases hs
   ·cases hs
  ·cases hs
 ·cases hs
theorem zEl {P P':Prog} (hp:PLe P P') {r r':XC→Fr→Heap→Option (XE×Fr×Heap)} (hr:∀c t h q,r c t h=some q→r' c t h=some q):CLe (zAc P r) (zAc P' r') :=
 ⟨callF_le hp hr,zPQ hr⟩
theorem zCE {P P':Prog} (hp:PLe P P'):∀ {n m:Nat} {c:XC} {t:Fr} {h:Heap} {r:XE×Fr×Heap},n≤m→run P n c t h=some r→run P' m c t h=some r
 | 0,m,c,t,h,r,_,hs=>by cases hs
 | n+1,0,c,t,h,r,hnm,hs=>by omega
 | n+1,m+1,c,t,h,r,hnm,hs=>by
  have ih:∀c t h q,run P n c t h=some q→run P' m c t h=some q:=fun c t h q hq=>zCE hp (by omega) hq
  have hc:=zEl hp ih
  cases c<;>simp only[run] at *
  case ops l =>
   split at hs
   ·rename_i t1 h1 ho;rw[zHw hc ho];exact hs
   ·cases hs
  case draw l cs =>
   split at hs
   ·rename_i tr ho;rw[zHr hc ho];exact hs
   ·cases hs
  case seq a b =>
   split at hs
   ·rename_i t1 h1 ha;rw[ih _ _ _ _ ha];exact ih _ _ _ _ hs
   ·rename_i hne
    rw[ih _ _ _ _ hs]
    obtain⟨e,t1,h1⟩:=r
    cases e with
    | normal=>exact absurd hs (hne t1 h1)
    | _=>rfl
  case cond x a b =>
   split at hs
   ·exact ih _ _ _ _ hs
   ·exact ih _ _ _ _ hs
   ·cases hs
  case block id c =>
   split at hs
   ·rename_i i t1 h1 ha;rw[ih _ _ _ _ ha];exact hs
   ·rename_i hne
    rw[ih _ _ _ _ hs]
    obtain⟨e,t1,h1⟩:=r
    cases e with
    | exit i=>exact absurd hs (hne i t1 h1)
    | _=>rfl
  case loop c =>
   split at hs
   ·rename_i t1 h1 ha;rw[ih _ _ _ _ ha];exact ih _ _ _ _ hs
   ·rename_i hne
    rw[ih _ _ _ _ hs]
    obtain⟨e,t1,h1⟩:=r
    cases e with
    | normal=>exact absurd hs (hne t1 h1)
    | _=>rfl
  case scope c=>exact ih _ _ _ _ hs
  case rng f ps k asg body =>
   split at hs
   ·split at hs
    ·rename_i hcl
     rw[hc.fn _ _ _ _ hcl]
     exact hs
    ·cases hs
   ·cases hs
  all_goals exact hs
theorem PLe.refl (P:Prog):PLe P P:=⟨fun _ _ h=>h,fun _=>rfl⟩
theorem zEm {P:Prog} {n m f:Nat} {args:List Value} {h:Heap} {r:Value×Heap} (hnm:n≤m) (hr:call P n f args h=some r):call P m f args h=some r :=
 (zEl (PLe.refl P) (fun _ _ _ _ hq=>zCE (PLe.refl P) hnm hq)).fn _ _ _ _ hr
theorem callY_le {P:Prog} {n m f:Nat} {args:List Value} {h:Heap} {r:Value×Heap} (hnm:n≤m) (hr:(call P n).yl f args h=some r):(call P m).yl f args h=some r :=
 (zEl (PLe.refl P) (fun _ _ _ _ hq=>zCE (PLe.refl P) hnm hq)).yl _ _ _ _ hr
noncomputable def cfi (P:Prog):CallF where
 fn:=fun f args h=>open Classical in if hx:∃r n,call P n f args h=some r then some (Classical.choose hx) else none
 yl:=fun f args h=>open Classical in if hx:∃r n,(call P n).yl f args h=some r then some (Classical.choose hx) else none
theorem cfi_of {P:Prog} {f n:Nat} {args:List Value} {h:Heap} {r:Value×Heap} (hr:call P n f args h=some r):cfi P f args h=some r:=by
 have hx:∃r n,call P n f args h=some r:=⟨r,n,hr⟩
 simp only[cfi]
 rw[dif_pos hx]
 obtain⟨m,hm⟩:=Classical.choose_spec hx
 have h1:=zEm (Nat.le_max_left n m) hr
 have h2:=zEm (Nat.le_max_right n m) hm
 rw[h1] at h2
 exact h2.symm
theorem cfi_run {P:Prog} {f:Nat} {args:List Value} {h:Heap} {r:Value×Heap} (hr:cfi P f args h=some r):∃n,call P n f args h=some r:=by
 simp only[cfi] at hr
 split at hr
 ·rename_i hx
  obtain⟨n,hn⟩:=Classical.choose_spec hx
  cases hr
  exact⟨n,hn⟩
 ·cases hr
theorem cyl_run {P:Prog} {f:Nat} {args:List Value} {h:Heap} {r:Value×Heap} (hr:(cfi P).yl f args h=some r):∃n,(call P n).yl f args h=some r:=by
 simp only[cfi] at hr
 split at hr
 ·rename_i hx
  obtain⟨n,hn⟩:=Classical.choose_spec hx
  cases hr
  exact⟨n,hn⟩
 ·cases hr
theorem zG6 {P:Prog} {f:Nat} {args:List Value} {h:Heap} {g:List Value→Heap→Option (Value×Heap)} {r:Value×Heap} (hp:P.prim f=some g) (hg:g args h=some r):cfi P f args h=some r :=
 cfi_of (n:=0) (by show zAM P (run P 0) f args h=_;unfold zAM;rw[hp];exact hg)
theorem zIf {P:Prog} {t:Fr} {h:Heap} {x:XO} {r:Value×Heap} (hs:zm (cfi P) t h x=some r):∃n,∀m,n≤m→zm (zAc P (run P m)) t h x=some r:=by
 unfold zm at *
 cases hw:zq t x.guard<;>rw[hw] at hs<;>simp only[cond_true,cond_false] at *
 ·exact⟨0,fun _ _=>hs⟩
 ·cases hx:x.op<;>rw[hx] at hs<;>simp only[zk] at *<;>try exact⟨0,fun _ _=>hs⟩
  split at hs
  ·obtain⟨n,hn⟩:=cfi_run hs
   exact⟨n,fun m hm=>zEm hm hn⟩
  ·rename_i l first caps _
   cases hb:(first.isEmpty&&caps.isEmpty)<;>rw[hb] at hs
   ·cases hs
   ·obtain⟨n,hn⟩:=cyl_run hs
    exact⟨n,fun m hm=>callY_le hm hn⟩
  ·cases hs
def Runs (pr:Prog) (c:XC) (t:Fr) (h:Heap) (e:XE) (t':Fr) (h':Heap):Prop:=∃n,run pr n c t h=some (e,t',h')
def wpc (pr:Prog) (c:XC) (Q:XE→Fr→Heap→Prop) (t:Fr) (h:Heap):Prop:=∃e t' h',Runs pr c t h e t' h'∧Q e t' h'
inductive KI where
 | code (c:XC)
 | blk (id:Nat)
 | lp (c:XC)
def onN (K:Fr→Heap→Prop) (Q:XE→Fr→Heap→Prop):XE→Fr→Heap→Prop
 | .normal,t,h=>K t h
 | e,t,h=>Q e t h
def inB (id:Nat) (Q:XE→Fr→Heap→Prop):XE→Fr→Heap→Prop
 | .exit i,t,h=>if i=id then Q .normal t h else Q (.exit i) t h
 | e,t,h=>Q e t h
def zAg (pr:Prog):List KI→(XE→Fr→Heap→Prop)→XE→Fr→Heap→Prop
 | [],Q=>Q
 | .code c::k,Q=>onN (wpc pr c (zAg pr k Q)) (zAg pr k Q)
 | .blk id::k,Q=>inB id (zAg pr k Q)
 | .lp c::k,Q=>onN (wpc pr (.loop c) (zAg pr k Q)) (zAg pr k Q)
structure wpk (pr:Prog) (c:XC) (k:List KI) (Q:XE→Fr→Heap→Prop) (t:Fr) (h:Heap):Prop where
 out:wpc pr c (zAg pr k Q) t h
structure kont (pr:Prog) (k:List KI) (Q:XE→Fr→Heap→Prop) (t:Fr) (h:Heap):Prop where
 out:zAg pr k Q .normal t h
structure extk (pr:Prog) (k:List KI) (i:Nat) (Q:XE→Fr→Heap→Prop) (t:Fr) (h:Heap):Prop where
 out:zAg pr k Q (.exit i) t h
def wpo (pr:Prog):List XO→(Fr→Heap→Prop)→Fr→Heap→Prop
 | [],K,t,h=>K t h
 | x::l,K,t,h=>∃v h',zm (cfi pr) t h x=some (v,h')∧wpo pr l K (t.put x.dst v) h'
def wps (pr:Prog):List XO→(Fr→Heap→Prop)→Fr→Heap→Prop
 | [],K,t,h=>K t h
 | x::l,K,t,h=>∃v,zm (cfi pr) t h x=some (v,h)∧wps pr l K (t.put x.dst v) h
section
variable {pr:Prog} {k:List KI} {Q:XE→Fr→Heap→Prop} {t:Fr} {h:Heap}
theorem zHv:∀ {l:List XO} {t:Fr} {h:Heap} {r:Fr×Heap},opsX (cfi pr) l t h=some r→∃n,∀m,n≤m→opsX (zAc pr (run pr m)) l t h=some r
 | [],_,_,_,hs=>⟨0,fun _ _=>hs⟩
 | x::l,t,h,r,hs=>by
  simp only[opsX] at hs
  split at hs
  ·rename_i v h' hv
   obtain⟨n1,h1⟩:=zIf hv
   obtain⟨n2,h2⟩:=zHv hs
   refine⟨max n1 n2,fun m hm=>?_⟩
   simp only[opsX]
   rw[h1 m (by omega)]
   exact h2 m (by omega)
  ·cases hs
theorem zEB:∀ {l:List XO} {t:Fr} {h:Heap} {r:List (Fr×Heap)},opsT (cfi pr) l t h=some r→∃n,∀m,n≤m→opsT (zAc pr (run pr m)) l t h=some r
 | [],_,_,_,hs=>⟨0,fun _ _=>hs⟩
 | x::l,t,h,r,hs=>by
  simp only[opsT] at hs
  split at hs
  ·rename_i v h' hv
   split at hs
   ·rename_i l' hl
    obtain⟨n1,h1⟩:=zIf hv
    obtain⟨n2,h2⟩:=zEB hl
    refine⟨max n1 n2,fun m hm=>?_⟩
    simp only[opsT]
    rw[h1 m (by omega)]
    dsimp only
    rw[h2 m (by omega)]
    exact hs
   ·cases hs
  ·cases hs
theorem zIx:∀ {l:List XO} {K:Fr→Heap→Prop} {t:Fr} {h:Heap},wpo pr l K t h→∃t' h',opsX (cfi pr) l t h=some (t',h')∧K t' h'
 | [],K,t,h,hw=>⟨t,h,rfl,hw⟩
 | x::l,K,t,h,⟨v,h1,hv,hw⟩=>by
  obtain⟨t',h',h2,h3⟩:=zIx hw
  exact⟨t',h',by simp only[opsX,hv,h2],h3⟩
theorem zIy:∀ {l:List XO} {K:Fr→Heap→Prop} {t:Fr} {h:Heap},wpo pr l K t h→∃tr t' h',opsT (cfi pr) l t h=some tr∧tr.getLast?=some (t',h')∧K t' h'
 | [],K,t,h,hw=>⟨[(t,h)],t,h,rfl,rfl,hw⟩
 | x::l,K,t,h,⟨v,h1,hv,hw⟩=>by
  obtain⟨tr,t',h',h2,h3,h4⟩:=zIy hw
  refine⟨(t,h)::tr,t',h',by simp only[opsT,hv,h2],?_,h4⟩
  cases tr with
  | nil=>simp at h3
  | cons q tr=>simpa using h3
theorem zIz:∀ {l:List XO} {K:Fr→Heap→Prop} {t:Fr} {h:Heap},wps pr l K t h→∃tr t',opsT (cfi pr) l t h=some tr∧tr.getLast?=some (t',h)∧K t' h∧tr.length=l.length+1∧(∀q∈tr,q.2=h) ∧
  ∀ (j:Nat) (x:XO) (q:Fr×Heap),l[j]?=some x→tr[j]?=some q→∃v,zm (cfi pr) q.1 h x=some (v,h)
 | [],K,t,h,hw=>⟨[(t,h)],t,rfl,rfl,hw,rfl,by simp,fun j x q hx=>by simp at hx⟩
 | x::l,K,t,h,⟨v,hv,hw⟩=>by
  obtain⟨tr,t',h2,h3,h4,h5,h6,h7⟩:=zIz hw
  refine⟨(t,h)::tr,t',by simp only[opsT,hv,h2],?_,h4,by simp[h5],?_,?_⟩
  ·cases tr with
   | nil=>simp at h3
   | cons q tr=>simpa using h3
  ·intro q hq
   rcases List.mem_cons.1 hq with rfl|hq
   ·rfl
   ·exact h6 q hq
  ·intro j y q hy hq
   cases j with
   | zero =>
    have h1:x=y:=by simpa using hy
    have h2:(t,h)=q:=by simpa using hq
    subst h1;subst h2
    exact⟨v,hv⟩
   | succ j=>exact h7 j y q (by simpa using hy) (by simpa using hq)
mutual
theorem zEM:∀v:Value,zc v v=true
 | .bool a=>by simp[zc]
 | .int k a=>by simp[zc]
 | .float k a=>by simp[zc]
 | .complex k a b=>by simp[zc]
 | .chan a=>by simp[zc]
 | .string a=>by simp[zc]
 | .pointer a=>by simp[zc]
 | .slice a l c=>by simp[zc]
 | .map a=>by simp[zc]
 | .nilFunc=>rfl
 | .nilIface=>rfl
 | .iface t v=>by simp[zc,zEM v]
 | .func f a b=>by simp[zc,zEK a,zEK b]
 | .agg a=>by simp[zc,zEK a]
 | .tuple a=>by simp[zc,zEK a]
theorem zEK:∀v:Array Value,zBt v v=true
 | ⟨a⟩=>by simp[zBt,zIT a]
theorem zIT:∀v:List Value,zBv v v=true
 | []=>rfl
 | a::asx=>by simp[zBv,zEM a,zIT asx]
end
def noA (l:List XO):Bool:=l.all fun o=>!kindA o.op
def zID (l:List XO) (cs:List (Nat×Nat×List Nat)):Bool:=cs.all fun c=>(match l[c.1]? with|some o=>kindR o.op|none=>false)&&c.2.1.ble l.length
theorem zF8 {l:List XO} {tr:List (Fr×Heap)} (hn:noA l=true):∀ (is:List Nat) (h:Heap),zAf l tr is h=h
 | [],h=>rfl
 | i::is,h=>by
  simp only[zAf]
  split
  ·rename_i o t hh hl htr
   split
   ·rename_i op hop
    unfold noA at hn
    rw[List.all_eq_true] at hn
    have:=hn o (List.mem_of_getElem? hl)
    rw[hop] at this;cases this
   ·exact zF8 hn is h
  ·exact zF8 hn is h
theorem zP {l:List XO} (hw:wpo pr l (kont pr k Q) t h):wpk pr (.ops l) k Q t h:=by
 obtain⟨t',h',h1,h2⟩:=zIx hw
 obtain⟨n,hn⟩:=zHv h1
 exact⟨.normal,t',h',⟨n+1,by simp only[run,hn n (Nat.le_refl n)]⟩,h2.out⟩
theorem zL {l:List XO} (hw:wpo pr l (kont pr k Q) t h):wpk pr (.draw l []) k Q t h:=by
 obtain⟨tr,t',h',h1,h2,h3⟩:=zIy hw
 obtain⟨n,hn⟩:=zEB h1
 exact⟨.normal,t',h',⟨n+1,by simp only[run,hn n (Nat.le_refl n),zAN,List.all_nil,cond_true,h2]⟩,h3.out⟩
theorem zN {l:List XO} {cs:List (Nat×Nat×List Nat)} (hn:noA l=true) (hr:zID l cs=true) (hw:wps pr l (kont pr k Q) t h):wpk pr (.draw l cs) k Q t h:=by
 obtain⟨tr,t',h1,h2,h3,h4,h5,h6⟩:=zIz hw
 obtain⟨n,hn'⟩:=zEB h1
 refine⟨.normal,t',h,⟨n+1,?_⟩,h3.out⟩
 have hchk:zAN l tr cs=true:=by
  unfold zAN
  rw[List.all_eq_true]
  intro c hc
  unfold zID at hr
  rw[List.all_eq_true] at hr
  have hrc:=hr c hc
  simp only[Bool.and_eq_true] at hrc
  obtain⟨hk,hle⟩:=hrc
  have hle:=Nat.le_of_ble_eq_true hle
  unfold zAG
  cases hx:l[c.1]? with
  | none=>rw[hx] at hk;cases hk
  | some o =>
   rw[hx] at hk
   dsimp only at hk
   have hjl:c.1<l.length:=(List.getElem?_eq_some_iff.1 hx).1
   have hj:tr[c.1]?=some (tr[c.1]'(by omega)):=List.getElem?_eq_getElem (by omega)
   have hkk:tr[c.2.1]?=some (tr[c.2.1]'(by omega)):=List.getElem?_eq_getElem (by omega)
   rw[hj,hkk]
   have e1:=h5 _ (List.mem_of_getElem? hj)
   have e2:=h5 _ (List.mem_of_getElem? hkk)
   obtain⟨v,hv⟩:=h6 _ _ _ hx hj
   generalize tr[c.1]'(by omega)=q1 at *
   generalize tr[c.2.1]'(by omega)=q2 at *
   obtain⟨t1,g1⟩:=q1
   obtain⟨t2,g2⟩:=q2
   simp only at e1 e2 hv
   subst e1;subst e2
   cases ho:o.op<;>rw[ho] at hk<;>simp only[kindR] at hk<;>try cases hk
   rename_i ro
   simp only[zF8 hn,ho]
   simp only[zm,ho] at hv
   cases hw:zq t1 o.guard with
   | false=>rfl
   | true =>
    rw[hw] at hv
    simp only[cond_true,zk] at hv
    split at hv
    ·rename_i v1 hv1
     rw[hv1]
     simp[zEM]
    ·cases hv
 simp only[run,hn' n (Nat.le_refl n),hchk,cond_true,h2]
theorem zS {a b:XC} (hw:wpk pr a (.code b::k) Q t h):wpk pr (.seq a b) k Q t h:=by
 obtain⟨e,t1,h1,⟨n,hn⟩,hq⟩:=hw
 cases e with
 | normal =>
  obtain⟨e2,t2,h2,⟨m,hm⟩,hq2⟩:=hq
  refine⟨e2,t2,h2,⟨max n m+1,?_⟩,hq2⟩
  simp only[run,zCE (PLe.refl _) (Nat.le_max_left n m) hn,zCE (PLe.refl _) (Nat.le_max_right n m) hm]
 | exit i=>exact⟨_,t1,h1,⟨n+1,by simp only[run,hn]⟩,hq⟩
 | ret=>exact⟨_,t1,h1,⟨n+1,by simp only[run,hn]⟩,hq⟩
theorem zT (hw:kont pr k Q t h):wpk pr .skip k Q t h:=⟨.normal,t,h,⟨1,rfl⟩,hw.out⟩
theorem ret_k:∀ {k:List KI},Q .ret t h→zAg pr k Q .ret t h
 | [],hq=>hq
 | .code _::k,hq=>ret_k (k:=k) hq
 | .blk _::k,hq=>ret_k (k:=k) hq
 | .lp _::k,hq=>ret_k (k:=k) hq
theorem zQ (hw:Q .ret t h):wpk pr .ret k Q t h:=⟨.ret,t,h,⟨1,rfl⟩,ret_k hw⟩
theorem zO {id:Nat} (hw:extk pr k id Q t h):wpk pr (.exit id) k Q t h:=⟨.exit id,t,h,⟨1,rfl⟩,hw.out⟩
theorem zR {c:XC} (hw:wpk pr c k Q t h):wpk pr (.scope c) k Q t h:=by
 obtain⟨e,t1,h1,⟨n,hn⟩,hq⟩:=hw
 exact⟨e,t1,h1,⟨n+1,by simp only[run,hn]⟩,hq⟩
theorem zJ {id:Nat} {c:XC} (hw:wpk pr c (.blk id::k) Q t h):wpk pr (.block id c) k Q t h:=by
 obtain⟨e,t1,h1,⟨n,hn⟩,hq⟩:=hw
 cases e with
 | normal=>exact⟨_,t1,h1,⟨n+1,by simp only[run,hn]⟩,hq⟩
 | exit i =>
  simp only[zAg,inB] at hq
  by_cases hi:i=id
  ·rw[if_pos hi] at hq;exact⟨.normal,t1,h1,⟨n+1,by simp only[run,hn,if_pos hi]⟩,hq⟩
  ·rw[if_neg hi] at hq;exact⟨.exit i,t1,h1,⟨n+1,by simp only[run,hn,if_neg hi]⟩,hq⟩
 | ret=>exact⟨_,t1,h1,⟨n+1,by simp only[run,hn]⟩,hq⟩
theorem wpk_if {c:Operand} {a b:XC} {x:Bool} (hc:t.eval c=.bool x) (ha:x=true→wpk pr a k Q t h) (hb:x=false→wpk pr b k Q t h):wpk pr (.cond c a b) k Q t h:=by
 cases x with
 | true =>
  obtain⟨e,t1,h1,⟨n,hn⟩,hq⟩:=ha rfl
  exact⟨e,t1,h1,⟨n+1,by simp only[run,hc,hn]⟩,hq⟩
 | false =>
  obtain⟨e,t1,h1,⟨n,hn⟩,hq⟩:=hb rfl
  exact⟨e,t1,h1,⟨n+1,by simp only[run,hc,hn]⟩,hq⟩
theorem zIw {c:XC} (hw:wpk pr c (.lp c::k) Q t h):wpk pr (.loop c) k Q t h:=by
 obtain⟨e,t1,h1,⟨n,hn⟩,hq⟩:=hw
 cases e with
 | normal =>
  obtain⟨e2,t2,h2,⟨m,hm⟩,hq2⟩:=hq
  refine⟨e2,t2,h2,⟨max n m+1,?_⟩,hq2⟩
  simp only[run,zCE (PLe.refl _) (Nat.le_max_left n m) hn,zCE (PLe.refl _) (Nat.le_max_right n m) hm]
 | exit i=>exact⟨_,t1,h1,⟨n+1,by simp only[run,hn]⟩,hq⟩
 | ret=>exact⟨_,t1,h1,⟨n+1,by simp only[run,hn]⟩,hq⟩
theorem zH {c:XC} (hw:wpk pr c k Q t h):kont pr (.code c::k) Q t h:=⟨hw.out⟩
theorem zG {id:Nat} (hw:kont pr k Q t h):kont pr (.blk id::k) Q t h:=⟨hw.out⟩
theorem zHc {c:XC} (hw:wpk pr (.loop c) k Q t h):kont pr (.lp c::k) Q t h:=⟨hw.out⟩
theorem zI (hw:Q .normal t h):kont pr [] Q t h:=⟨hw⟩
theorem zC {c:XC} {i:Nat} (hw:extk pr k i Q t h):extk pr (.code c::k) i Q t h:=⟨hw.out⟩
theorem zE {c:XC} {i:Nat} (hw:extk pr k i Q t h):extk pr (.lp c::k) i Q t h:=⟨hw.out⟩
theorem zD {i:Nat} (hw:kont pr k Q t h):extk pr (.blk i::k) i Q t h:=by
 constructor
 simp only[zAg,inB,if_true];exact hw.out
theorem zF {i j:Nat} (hne:i≠j) (hw:extk pr k i Q t h):extk pr (.blk j::k) i Q t h:=by
 constructor
 simp only[zAg,inB,if_neg hne];exact hw.out
theorem zAo {c:XC} (Inv:Nat→Fr→Heap→Prop) (step:∀m t h,Inv m t h→(∀m' t' h',m'<m→Inv m' t' h'→kont pr (.lp c::k) Q t' h')→wpk pr c (.lp c::k) Q t h):∀m t h,Inv m t h→wpk pr (.loop c) k Q t h:=by
 intro m
 induction m using Nat.strongRecOn with
 | ind m ih=>exact fun t h hi=>zIw (step m t h hi fun m' t' h' hlt hi'=>zHc (ih m' hlt t' h' hi'))
theorem cfi_code {f:Nat} {F:XF} {args:List Value} {v:Value} {h':Heap} (hp:pr.prim f=none) (hF:pr.code f=some F) (hn:args.length=F.nargs) (hw:wpc pr F.body (fun e t' h1=>(e=.normal∨e=.ret)∧z0 t' h1 F.results=some v∧h1=h') (zs args 0 .leaf) h):cfi pr f args h=some (v,h'):=by
 obtain⟨e,t',h1,⟨n,hr⟩,he,hres,rfl⟩:=hw
 refine cfi_of (n:=n) ?_
 show zAM pr (run pr n) f args h=_
 unfold zAM
 rw[hp]
 dsimp only
 rw[hF]
 dsimp only
 rw[if_pos hn,hr]
 rcases he with rfl|rfl<;>simp only[hres]
theorem zDp {f:Nat} {F:XF} {args:List Value} {R:Value→Heap→Prop} (hp:pr.prim f=none) (hF:pr.code f=some F) (hn:args.length=F.nargs) (hw:wpc pr F.body (fun e t' h1=>(e=.normal∨e=.ret)∧∃v,z0 t' h1 F.results=some v∧R v h1) (zs args 0 .leaf) h):∃v h1,cfi pr f args h=some (v,h1)∧R v h1:=by
 obtain⟨e,t',h1,hr,he,v,hres,hR⟩:=hw
 exact⟨v,h1,cfi_code hp hF hn ⟨e,t',h1,hr,he,hres,rfl⟩,hR⟩
end
end Go.X
end
section
namespace Go.X
open Go.RowKit
structure Grows (h h':Heap):Prop where
 next:h.next≤h'.next
 blks:∀A,A<h.next→h'.blks.get A=h.blks.get A
 fams:∀A,A<h.next→h'.fams.get A=h.fams.get A
theorem Grows.refl (h:Heap):Grows h h:=⟨Nat.le_refl _,fun _ _=>rfl,fun _ _=>rfl⟩
theorem Grows.trans {h h1 h2:Heap} (a:Grows h h1) (b:Grows h1 h2):Grows h h2 :=
 ⟨Nat.le_trans a.next b.next,fun A hA=>(b.blks A (Nat.lt_of_lt_of_le hA a.next)).trans (a.blks A hA),fun A hA=>(b.fams A (Nat.lt_of_lt_of_le hA a.next)).trans (a.fams A hA)⟩
theorem VRel.back {ρ ρ':Ren} (hm:∀A l,ρ A=some l→ρ' A=some l) {v v0 v':Value} (h1:VRel ρ v v0) (h2:VRel ρ' v v'):VRel ρ v v':=by
 induction h1 generalizing v' with
 | bool b=>cases h2;exact .bool b
 | int k n=>cases h2;exact .int k n
 | float k n=>cases h2;exact .float k n
 | string s=>cases h2;exact .string s
 | nilptr=>cases h2;exact .nilptr
 | @ptr A off l hA =>
  cases h2 with
  | ptr hA' =>
   have:=hm _ _ hA
   rw[hA'] at this;cases this
   exact .ptr hA
 | nilslice=>cases h2;exact .nilslice
 | slice hA =>
  cases h2 with
  | slice hA' a b c d e =>
   have:=hm _ _ hA
   rw[hA'] at this;cases this
   exact .slice hA a b c d e
 | nilmap=>cases h2;exact .nilmap
 | yield hA =>
  cases h2 with
  | yield hA' =>
   have:=hm _ _ hA
   rw[hA'] at this;cases this
   exact .yield hA
 | map hA =>
  cases h2 with
  | map hA' =>
   have:=hm _ _ hA
   rw[hA'] at this;cases this
   exact .map hA
 | func ha hb h1 h2' ih1 ih2 =>
  cases h2 with
  | func ha' hb' h1' h2''=>exact .func ha' hb' (fun i h h'=>ih1 i h (by omega) (h1' i h h')) (fun i h h'=>ih2 i h (by omega) (h2'' i h h'))
 | nilFunc=>cases h2;exact .nilFunc
 | iface h ih=>cases h2 with|iface h'=>exact .iface (ih h')
 | nilIface=>cases h2;exact .nilIface
 | agg ha h1 ih1=>cases h2 with|agg ha' h1'=>exact .agg ha' (fun i h h'=>ih1 i h (by omega) (h1' i h h'))
 | tuple ha h1 ih1=>cases h2 with|tuple ha' h1'=>exact .tuple ha' (fun i h h'=>ih1 i h (by omega) (h1' i h h'))
theorem LRel.back {ρ ρ':Ren} (hm:∀A l,ρ A=some l→ρ' A=some l) {l l0 l':List Value} (h1:LRel ρ l l0) (h2:LRel ρ' l l'):LRel ρ l l':=by
 induction h1 generalizing l' with
 | nil=>cases h2;exact .nil
 | cons h hs ih=>cases h2 with|cons h' hs'=>exact .cons (h.back hm h') (ih hs')
theorem zNJ {ρ ρ':Ren} (hm:∀A l,ρ A=some l→ρ' A=some l) {l:List (Value×Value)} {l0 l':List MapEntry} (h1:All2 (ERel ρ) l l0) (h2:All2 (ERel ρ') l l'):All2 (ERel ρ) l l':=by
 induction h1 generalizing l' with
 | nil=>cases h2;exact .nil
 | cons h hs ih=>cases h2 with|cons h' hs'=>exact .cons ⟨h.1.back hm h'.1,h.2.back hm h'.2⟩ (ih hs')
theorem HRel.drop {P:Program} {base:Nat} {ρ ρ':Ren} {h h':Heap} {w w':World} (wf:HWF h) (hr:HRel P base ρ h w) (hr':HRel P base ρ' h' w') (hm:∀A l,ρ A=some l→ρ' A=some l) (hg:Grows h h'):HRel P base ρ h w':=by
 have hlt:∀A b,h.blks.get A=some b→A<h.next:=fun A b hb=>wf.lt hb
 have hok:∀A c,h.okCells A=some c→h'.okCells A=some c:=fun A c hc=>by
  have hb:=(okCells_iff.1 hc).1
  rw[zD7 (hg.blks A (hlt A _ hb)) (fun c' hc'=>hg.fams c'.fam (wf.fam A c' hc').1)]
  exact hc
 refine⟨hr'.le,fun A l hA=>hr'.bnd A l (hm A l hA),hr.found,?_,?_,?_,?_,hr.fin,fun A c f l hc hf h0 hro hA=>hr'.mark A c f l (hok A c hc) (by rw[hg.fams c.fam (wf.fam A c (okCells_iff.1 hc).1).1];exact hf) h0 hro (hm A l hA),⟨?_,?_,?_,hr.loops.root,fun A l es st es' cl hes hA hh=>hr'.loops.stamps A l es st es' cl (by rw[hg.blks A (hlt A _ hes)];exact hes) (hm A l hA) hh⟩⟩
 ·intro A c l hc hA
  obtain⟨cs,T,fz,g1,g2,g3,g4,g5⟩:=hr'.cells A c l (hok A c hc) (hm A l hA)
  obtain⟨cs0,T0,fz0,_,_,_,k4,_⟩:=hr.cells A c l hc hA
  exact⟨cs,T,fz,g1,g2,g3,LRel.back hm k4 g4,g5⟩
 ·intro A B c d l m hne hc hd hA hB
  exact hr'.alias A B c d l m hne (hok A c hc) (hok B d hd) (hm A l hA) (hm B m hB)
 ·intro A l es st hes hA
  obtain⟨es',cl,g1,g2,g3⟩:=hr'.maps A l es st (by rw[hg.blks A (hlt A _ hes)];exact hes) (hm A l hA)
  obtain⟨es0,cl0,_,_,k3⟩:=hr.maps A l es st hes hA
  exact⟨es',cl,g1,g2,zNJ hm k3 g3⟩
 ·intro A B es st fs su l m hne h1 h2 hA hB
  exact hr'.malias A B es st fs su l m hne (by rw[hg.blks A (hlt A _ h1)];exact h1) (by rw[hg.blks B (hlt B _ h2)];exact h2) (hm A l hA) (hm B m hB)
 ·intro A l r hb hA
  obtain⟨q,g1,g2,g3⟩:=hr'.loops.recd A l r (by rw[hg.blks A (hlt A _ hb)];exact hb) (hm A l hA)
  obtain⟨q0,_,_,k3⟩:=hr.loops.recd A l r hb hA
  exact⟨q,g1,g2,⟨⟨g3.fr.size,fun i=>VRel.back hm (k3.fr.rel i) (g3.fr.rel i)⟩,g3.ps,g3.pb,g3.asg,g3.body,g3.nra,g3.nrb,g3.st,g3.pend⟩⟩
 ·intro A l o hb hA
  obtain⟨q,g1,g2,g4,g3⟩:=hr'.loops.iter A l o (by rw[hg.blks A (hlt A _ hb)];exact hb) (hm A l hA)
  obtain⟨q0,_,_,_,k3⟩:=hr.loops.iter A l o hb hA
  refine⟨q,g1,g2,g4,?_⟩
  unfold IterOK at g3 k3 ⊢
  split at g3
  ·exact g3
  ·exact g3
  ·obtain⟨l1,e1,e2⟩:=g3
   obtain⟨l0,e3,_⟩:=k3
   have:=hm _ _ e3
   rw[e1] at this
   cases this
   exact⟨l1,e3,e2⟩
 ·intro A B r s l m hne h1 s1 h2 s2 hA hB
  exact hr'.loops.apart A B r s l m hne (by rw[hg.blks A (hlt A _ h1)];exact h1) s1 (by rw[hg.blks B (hlt B _ h2)];exact h2) s2 (hm A l hA) (hm B m hB)
def zCW:Value→Bool
 | .bool _|.int _ _|.float _ _|.string _|.nilFunc|.nilIface=>true
 | .pointer none|.slice none 0 0|.map none=>true
 | .agg cs=>cs.toList.all zp
 | _=>false
def zy:Value→Bool
 | .tuple cs=>cs.toList.all zCW
 | v=>zCW v
theorem zHN {ρ:Ren}:∀ {v:Value},zCW v=true→VRel ρ v v:=by
 intro v hv
 unfold zCW at hv
 split at hv
 ·exact .bool _
 ·exact .int _ _
 ·exact .float _ _
 ·exact .string _
 ·exact .nilFunc
 ·exact .nilIface
 ·exact .nilptr
 ·exact .nilslice
 ·exact .nilmap
 ·exact VRel.agg_of (LRel.consts hv)
 ·cases hv
theorem zCX {ρ:Ren}:∀ {v:Value},zy v=true→VRel ρ v v:=by
 intro v hv
 unfold zy at hv
 split at hv
 ·refine VRel.tuple_of (All2.refl_of _ fun x hx=>?_)
  rw[List.all_eq_true] at hv
  exact zHN (hv x hx)
 ·exact zHN hv
def Comes (pr:Prog) (F:XF) (args:List Value) (h:Heap) (v:Value):Prop :=
 wpc pr F.body (fun e t h'=>(e=.normal∨e=.ret)∧z0 t h' F.results=some v∧Grows h h') (zs args 0 .leaf) h
theorem Comes.of {pr:Prog} {F:XF} {args:List Value} {h:Heap} {v:Value} (hw:wpk pr F.body [] (fun e t h'=>(e=.normal∨e=.ret)∧z0 t h' F.results=some v∧Grows h h') (zs args 0 .leaf) h):Comes pr F args h v:=hw.out
def Heap.at (h:Heap) (n:Nat):Heap:={ h with next:=n }
theorem HWF.at {h:Heap} (wf:HWF h) {n:Nat} (hn:h.next≤n):HWF (h.at n) :=
 ⟨fun A hA=>wf.fresh A (Nat.le_trans hn hA),fun A c hc=>⟨Nat.lt_of_lt_of_le (wf.fam A c hc).1 hn,(wf.fam A c hc).2⟩,fun A c f h1 h2=>wf.top A c f h1 h2⟩
theorem HRel.at {P:Program} {base:Nat} {ρ:Ren} {h:Heap} {w:World} (hr:HRel P base ρ h w) (n:Nat):HRel P base ρ (h.at n) w:=hr.congr (fun _=>rfl) (fun _=>rfl)
theorem HRel.unat {P:Program} {base:Nat} {ρ:Ren} {h:Heap} {w:World} {n:Nat} (hr:HRel P base ρ (h.at n) w):HRel P base ρ h w:=hr.congr (fun _=>rfl) (fun _=>rfl)
theorem zEo {P:Program} {Pg:Prog} (ok:XOK P Pg) {f:Nat} {fn:Func} {F:XF} (hf:P.funcs[f]?=some fn) (hF:zt P fn=some F) {args:List Value} {h:Heap} {v:Value} (hn:args.length=F.nargs)
  (hk:∀base ρ w args',HRel P base ρ h w→LRel ρ args args'→∃v0,VRel ρ v v0) (hc:∀n,h.next≤n→HWF (h.at n)→Comes Pg F args (h.at n) v):zBV P f args h v h:=by
 intro base ρ w args' hr wf _ hargs
 obtain⟨N,hN⟩:=hr.fin
 have hle:h.next≤max N h.next:=Nat.le_max_right _ _
 obtain⟨e,t',h1,⟨n,hrun⟩,he,hres,hg⟩:=hc (max N h.next) hle (wf.at hle)
 obtain⟨hcode,_⟩:=zG8 ok n
 unfold zt at hF
 split at hF
 ·rename_i c hbody
  split at hF
  ·rename_i x r hx hr'
   split at hF
   ·rename_i hsz
    cases hF
    obtain⟨hnx,hw⟩:=hcode _ _ _ _ _ _ _ _ hx hrun
    refine (callsIn_wide (n:=0)).1 (callsIn_of_wp_marks hf hbody trivial (hw none (.inl rfl) base w.heap.size ρ [] _ w _ (zHY hargs (by simp only at hn;omega)) rfl (Nat.le_refl _) (zFO _ _ _ _) (hr.at _) (wf.at hle) (fun A h2 _=>hN A (by have:(h.at (max N h.next)).next=max N h.next:=rfl;omega)) fun a' w' ρ' D' q1 q2 _ qm q3 q4 q5=>?_))
    obtain⟨v0,hv0⟩:=hk base ρ w args' hr hargs
    obtain⟨ds,rfl,d1,d2⟩:=qm
    have fin:=zFJ (F:=Fence.wide) (n:=0) (P:=P) (fn:=fn) (tmps:=a'.tmps) (R:=fun e w'=>∃v' ρ',e=.returned v'∧HRel P base ρ' h w'∧HWF h∧Ext base ρ h w ρ' h w'∧VRel ρ' v v') hr.le (Nat.le_refl _) (fun w2 k1 k2=>by
     obtain⟨v',g1,g2⟩:=zIG k1 q1 hr' hres
     have hrel:HRel P base ρ h w2:=(HRel.drop (wf.at hle) (hr.at _) k1 k2.mono hg).unat
     have hext:Ext base ρ h w ρ h w2:=⟨fun _ _ h=>h,fun _ h=>absurd rfl h,Nat.le_refl _,fun _ _ h=>h,fun _ _ _=>⟨rfl,rfl⟩,k2.below,k2.frame,fun A l h1 h2=>(by rw[h1] at h2;cases h2)⟩
     exact⟨v',g1,v',ρ,rfl,hrel,wf,hext,hv0.back k2.mono g2⟩) ds w' d1 d2 q3 q5
    rcases he with rfl|rfl
    ·simp only[zA0,bodyPostM];rw[q2];exact fin
    ·simp only[zA0,bodyPostM];rw[q2];exact fin
   ·cases hF
  ·cases hF
 ·cases hF
end Go.X
namespace Go.X
abbrev T (i:Nat):Operand:=.tmp i
abbrev C (v:Value):Operand:=.const v
end Go.X
end
section
namespace Go.X
theorem wpo_nil {pr:Prog} {K:Fr→Heap→Prop} {t:Fr} {h:Heap}:wpo pr [] K t h=K t h:=rfl
theorem wpo_cons {pr:Prog} {x:XO} {l:List XO} {K:Fr→Heap→Prop} {t:Fr} {h:Heap}:wpo pr (x::l) K t h=∃r,zm (cfi pr) t h x=some r∧wpo pr l K (t.put x.dst r.1) r.2:=by
 simp only[wpo]
 apply propext
 constructor
 ·rintro⟨v,h',h1,h2⟩;exact⟨(v,h'),h1,h2⟩
 ·rintro⟨⟨v,h'⟩,h1,h2⟩;exact⟨v,h',h1,h2⟩
theorem wps_nil {pr:Prog} {K:Fr→Heap→Prop} {t:Fr} {h:Heap}:wps pr [] K t h=K t h:=rfl
theorem wps_cons {pr:Prog} {x:XO} {l:List XO} {K:Fr→Heap→Prop} {t:Fr} {h:Heap}:wps pr (x::l) K t h=∃r,zm (cfi pr) t h x=some r∧r.2=h∧wps pr l K (t.put x.dst r.1) h:=by
 simp only[wps]
 apply propext
 constructor
 ·rintro⟨v,h1,h2⟩;exact⟨(v,h),h1,rfl,h2⟩
 ·rintro⟨⟨v,h'⟩,h1,h2,h3⟩;cases h2;exact⟨v,h1,h3⟩
theorem zEN {α:Type} {a:α} {p:α→Prop}:(∃r,some a=some r∧p r)=p a:=by simp
theorem some_ex2 {α:Type} {a:α} {q p:α→Prop}:(∃r,some a=some r∧q r∧p r)=(q a∧p a):=by simp
section
variable {cf:CallF} {t:Fr} {h:Heap} {d:Option Nat}
theorem zOS {op:XOp}:zm cf t h ⟨d,op,none⟩=zk cf t h op:=rfl
theorem zOQ {op:XOp} {s:Nat} {b:Bool}:zm cf t h ⟨d,op,some (s,b)⟩=cond (zq t (some (s,b))) (zk cf t h op) (some (.tuple #[],h)):=rfl
def zCs (h:Heap):Option Value→Option (Value×Heap)
 | some v=>some (v,h)
 | none=>none
theorem zOg {v:Value}:zCs h (some v)=some (v,h):=rfl
theorem stepO_p {o:POp}:zk cf t h (.p o)=zCs h (zB t o):=by simp only[zk,zCs];cases zB t o<;>rfl
theorem stepO_r {o:ROp}:zk cf t h (.r o)=zCs h (zh t h o):=by simp only[zk,zCs];cases zh t h o<;>rfl
theorem zON {f:Nat} {asx:List Operand} {pr:Prog}:zk (cfi pr) t h (.call (.func f) asx)=cfi pr f (asx.map t.eval) h:=by
 simp[zk,Fr.eval]
theorem cfi_at {pr:Prog} {f:Nat} {g:List Value→Heap→Option (Value×Heap)} {asx:List Value} {r:Value×Heap} (hg:pr.prim f=some g) (hr:g asx h=some r):cfi pr f asx h=some r:=zG6 hg hr
theorem eval_tmp {i:Nat}:t.eval (.tmp i)=t.get i:=rfl
theorem zNK {v:Value}:t.eval (.const v)=v:=rfl
theorem put_some {i:Nat} {v:Value}:t.put (some i) v=PT.set t i v:=rfl
theorem put_none {v:Value}:t.put none v=t:=rfl
theorem get_put {i j:Nat} {v:Value}:Fr.get (PT.set t i v) j=if j=i then v else Fr.get t j:=Fr.get_set t i j v
theorem p_mov {x:Operand}:zB t (.mov x)=some (t.eval x):=rfl
theorem p_bin {op:BinOp} {x y:Operand}:zB t (.bin op x y)=binX op (t.eval x) (t.eval y):=rfl
theorem p_un {op:UnOp} {x:Operand}:zB t (.un op x)=unX op (t.eval x):=rfl
def lenSV:Value→Option Value|.string s=>some (.int .i64 s.data.toList.length)|_=>none
theorem p_lenS {x:Operand}:zB t (.lenS x)=lenSV (t.eval x):=by simp only[zB,lenSV];split<;>simp_all
theorem lenSV_s {s:ByteArray}:lenSV (.string s)=some (.int .i64 s.data.toList.length):=rfl
def lenVV:Value→Option Value|.slice _ n _=>some (.int .i64 n)|_=>none
theorem p_lenV {x:Operand}:zB t (.lenV x)=lenVV (t.eval x):=by simp only[zB,lenVV];split<;>simp_all
theorem lenVV_s {a:Option Addr} {n c:Nat}:lenVV (.slice a n c)=some (.int .i64 n):=rfl
def zAQ (k:IntKind):Value→Option Value|.int _ n=>some (.int k (k.wrap n))|_=>none
theorem p_cint {k:IntKind} {x:Operand}:zB t (.cint k x)=zAQ k (t.eval x):=by simp only[zB,zAQ];split<;>simp_all
theorem zA {k k':IntKind} {n:Int}:zAQ k (.int k' n)=some (.int k (k.wrap n)):=rfl
def pickV:Value→Value→Value→Option Value|.bool b,x,y=>some (if b then x else y)|_,_,_=>none
theorem p_pick {c x y:Operand}:zB t (.pick c x y)=pickV (t.eval c) (t.eval x) (t.eval y):=by simp only[zB,pickV];split<;>simp_all
theorem pickV_b {b:Bool} {x y:Value}:pickV (.bool b) x y=some (if b then x else y):=rfl
def eqlV (neg:Bool):Option Bool→Option Value|some b=>some (.bool (if neg then !b else b))|none=>none
theorem p_eql {neg:Bool} {k:EqK} {x y:Operand}:zB t (.eql neg k x y)=eqlV neg (eqX k (t.eval x) (t.eval y)):=by simp only[zB,eqlV];cases eqX k (t.eval x) (t.eval y)<;>rfl
theorem zND {neg b:Bool}:eqlV neg (some b)=some (.bool (if neg then !b else b)):=rfl
theorem eqX_s {a b:ByteArray}:eqX .str (.string a) (.string b)=some (a.data.toList==b.data.toList):=rfl
theorem eqX_i {k:IntKind} {a b:Int}:eqX .int (.int k a) (.int k b)=some (a==b):=by simp[eqX]
theorem eqX_b {a b:Bool}:eqX .bool (.bool a) (.bool b)=some (a==b):=rfl
theorem zGk {k:IntKind} {a b:Int}:binX .add (.int k a) (.int k b)=some (.int k (k.wrap (a+b))):=by simp[binX,zn]
theorem zGn {k:IntKind} {a b:Int}:binX .sub (.int k a) (.int k b)=some (.int k (k.wrap (a - b))):=by simp[binX,zn]
theorem zGl {k:IntKind} {a b:Int}:binX .mul (.int k a) (.int k b)=some (.int k (k.wrap (a*b))):=by simp[binX,zn]
theorem bin_and {k:IntKind} {a b:Int}:binX .and (.int k a) (.int k b)=some (.int k (k.wrap (BitVec.ofInt k.bits a &&& BitVec.ofInt k.bits b).toNat)):=by simp[binX,zn]
theorem bin_or {k:IntKind} {a b:Int}:binX .or (.int k a) (.int k b)=some (.int k (k.wrap (BitVec.ofInt k.bits a ||| BitVec.ofInt k.bits b).toNat)):=by simp[binX,zn]
theorem bin_xor {k:IntKind} {a b:Int}:binX .xor (.int k a) (.int k b)=some (.int k (k.wrap (BitVec.ofInt k.bits a ^^^ BitVec.ofInt k.bits b).toNat)):=by simp[binX,zn]
theorem bin_lss {k:IntKind} {a b:Int}:binX .lss (.int k a) (.int k b)=some (.bool (decide (a<b))):=by simp only[binX,zn,zDE,zBL,if_true]
theorem bin_leq {k:IntKind} {a b:Int}:binX .leq (.int k a) (.int k b)=some (.bool (decide (a≤b))):=by simp only[binX,zn,zDE,zBL,if_true]
theorem bin_gtr {k:IntKind} {a b:Int}:binX .gtr (.int k a) (.int k b)=some (.bool (decide (a>b))):=by simp only[binX,zn,zDE,zBL,if_true]
theorem bin_geq {k:IntKind} {a b:Int}:binX .geq (.int k a) (.int k b)=some (.bool (decide (a≥b))):=by simp only[binX,zn,zDE,zBL,if_true]
theorem bin_rem {k:IntKind} {a b:Int} (hb:b≠0):binX .rem (.int k a) (.int k b)=some (.int k (a.tmod b)):=by simp[binX,zn,hb]
theorem bin_shl {k k':IntKind} {a b:Int} (hb:0≤b):binX .shl (.int k a) (.int k' b)=some (.int k (k.wrap (a*2 ^ (min b.toNat k.bits)))):=by
 simp only[binX];rw[if_neg (by omega)]
theorem zGm {k k':IntKind} {a b:Int} (hb:0≤b):binX .shr (.int k a) (.int k' b)=some (.int k (a.fdiv (2 ^ (min b.toNat k.bits)))):=by
 simp only[binX];rw[if_neg (by omega)]
theorem un_not {b:Bool}:unX .not (.bool b)=some (.bool (!b)):=rfl
theorem un_neg {k:IntKind} {n:Int}:unX .neg (.int k n)=some (.int k (k.wrap (0 - n))):=rfl
end
end Go.X
namespace Go.X
def ifB (v:Value) (p q:Prop):Prop:=match v with|.bool true=>p|.bool false=>q|_=>False
theorem ifB_bool {b:Bool} {p q:Prop}:ifB (.bool b) p q=((b=true→p)∧(b=false→q)):=by cases b<;>simp[ifB]
theorem ifB_t {p q:Prop}:ifB (.bool true) p q=p:=rfl
theorem ifB_f {p q:Prop}:ifB (.bool false) p q=q:=rfl
theorem zK {pr:Prog} {k:List KI} {Q:XE→Fr→Heap→Prop} {t:Fr} {h:Heap} {c:Operand} {a b:XC} (hw:ifB (t.eval c) (wpk pr a k Q t h) (wpk pr b k Q t h)):wpk pr (.cond c a b) k Q t h:=by
 cases hv:t.eval c with
 | bool x =>
  rw[hv] at hw
  cases x with
  | true=>exact wpk_if hv (fun _=>hw) (fun h=>by cases h)
  | false=>exact wpk_if hv (fun h=>by cases h) (fun _=>hw)
 | _=>rw[hv] at hw;exact hw.elim
theorem res_tmp {t:Fr} {h:Heap} {i:Nat}:z0 t h [.tmp i]=some (t.get i):=rfl
theorem res_none {t:Fr} {h:Heap}:z0 t h []=some (.tuple #[]):=rfl
theorem res_two {t:Fr} {h:Heap} {i j:Nat}:z0 t h [.tmp i,.tmp j]=some (.tuple #[t.get i,t.get j]):=rfl
theorem zN5 {t:Fr} {h:Heap} {i j k:Nat}:z0 t h [.tmp i,.tmp j,.tmp k]=some (.tuple #[t.get i,t.get j,t.get k]):=rfl
end Go.X
namespace Go.X
def zAb (x:Option Value) (d y:Nat):Option Nat:=match x with
 | none=>some d
 | some (.int _ i)=>if 0≤i∧i≤y then some i.toNat else none
 | some _=>none
theorem boundX_v {t:Fr} {x:Option Operand} {d y:Nat}:zAx t x d y=zAb (x.map t.eval) d y:=by
 cases x with
 | none=>rfl
 | some x=>simp only[zAx,zAb,Option.map];cases t.eval x<;>rfl
def zAU (len cap:Nat) (lo hi mx:Option Value):Option (Nat×Nat×Nat) :=
 match zAb mx cap cap with
 | some m=>match zAb hi len m with
  | some h=>match zAb lo 0 h with
   | some l=>some (l,h,m)
   | none=>none
  | none=>none
 | none=>none
theorem zGp {t:Fr} {len cap:Nat} {lo hi mx:Option Operand}:zAy t len cap lo hi mx=zAU len cap (lo.map t.eval) (hi.map t.eval) (mx.map t.eval):=by
 unfold zAy zAU
 simp only[boundX_v]
 cases zAb (Option.map t.eval mx) cap cap with
 | none=>rfl
 | some m =>
  dsimp only
  cases zAb (Option.map t.eval hi) len m with
  | none=>rfl
  | some e =>
   dsimp only
   cases zAb (Option.map t.eval lo) 0 e<;>rfl
def cutV (s:List UInt8):Option (Nat×Nat×Nat)→Option Value
 | some (l,e,_)=>some (.string (zY ((s.drop l).take (e - l))))
 | none=>none
def slcSV (v:Value) (lo hi:Option Value):Option Value:=match v with
 | .string s=>cutV s.data.toList (zAU s.data.toList.length s.data.toList.length lo hi none)
 | _=>none
theorem p_slcS {t:Fr} {x:Operand} {lo hi:Option Operand}:zB t (.slcS x lo hi)=slcSV (t.eval x) (lo.map t.eval) (hi.map t.eval):=by
 simp only[zB,slcSV]
 cases t.eval x<;>try rfl
 simp only[zGp,Option.map]
 split<;>simp_all [cutV]
end Go.X
namespace Go.X
theorem eval_T {t:Fr} {i:Nat}:t.eval (T i)=t.get i:=rfl
theorem eval_C {t:Fr} {v:Value}:t.eval (C v)=v:=rfl
end Go.X
namespace Go.X
theorem res_tmpE {t:Fr} {h:Heap} {i:Nat} {v:Value}:(z0 t h [.tmp i]=some v)=(t.get i=v):=by simp[res_tmp]
theorem zN4 {t:Fr} {h:Heap} {v:Value}:(z0 t h []=some v)=(.tuple #[]=v):=by simp[res_none]
theorem res_twoE {t:Fr} {h:Heap} {i j:Nat} {v:Value}:(z0 t h [.tmp i,.tmp j]=some v)=(.tuple #[t.get i,t.get j]=v):=by simp[res_two]
theorem zN6 {t:Fr} {h:Heap} {i j k:Nat} {v:Value}:(z0 t h [.tmp i,.tmp j,.tmp k]=some v)=(.tuple #[t.get i,t.get j,t.get k]=v):=by simp[zN5]
end Go.X
namespace Go.X
theorem imp_t {p:Prop}:(True→p)=p:=propext ⟨fun h=>h trivial,fun h _=>h⟩
theorem imp_f {p:Prop}:(False→p)=True:=propext ⟨fun _=>trivial,fun _ h=>h.elim⟩
end Go.X
end
section
namespace Go.X
def uw (k:IntKind) (x:Nat):Value:=.int k ((x % 2 ^ k.bits:Nat):Int)
theorem zF9 {k:IntKind} (hk:k.signed=false) (n:Int):k.wrap n=n % (2 ^ k.bits:Int):=by
 simp[IntKind.wrap,hk]
theorem zAu {k:IntKind} (hk:k.signed=false) (n:Nat):k.wrap (n:Int)=((n % 2 ^ k.bits:Nat):Int):=by
 rw[zF9 hk];simp
section
variable {k:IntKind} {x y:Nat}
theorem zEU (h:x % 2 ^ k.bits=y % 2 ^ k.bits):uw k x=uw k y:=by unfold uw;rw[h]
theorem uw_mod:uw k (x % 2 ^ k.bits)=uw k x:=zEU (Nat.mod_mod _ _)
theorem zFx (hk:k.signed=false):binX .add (uw k x) (uw k y)=some (uw k (x+y)):=by
 unfold uw
 rw[zGk,←Int.natCast_add,zAu hk,←Nat.add_mod]
theorem zF0 (hk:k.signed=false):binX .mul (uw k x) (uw k y)=some (uw k (x*y)):=by
 unfold uw
 rw[zGl,←Int.natCast_mul,zAu hk,←Nat.mul_mod]
theorem zBZ (n m:Nat):BitVec.ofInt n ((m:Nat):Int)=BitVec.ofNat n m:=by simp
theorem zF5 (hk:k.signed=false):binX .xor (uw k x) (uw k y)=some (uw k (x ^^^ y)):=by
 unfold uw
 rw[bin_xor,zBZ,zBZ,zAu hk]
 simp only[BitVec.toNat_xor,BitVec.toNat_ofNat,Nat.mod_mod,Nat.xor_mod_two_pow]
theorem zET (hk:k.signed=false):binX .and (uw k x) (uw k y)=some (uw k (x &&& y)):=by
 unfold uw
 rw[bin_and,zBZ,zBZ,zAu hk]
 simp only[BitVec.toNat_and,BitVec.toNat_ofNat,Nat.mod_mod,Nat.and_mod_two_pow]
theorem uw_or (hk:k.signed=false):binX .or (uw k x) (uw k y)=some (uw k (x ||| y)):=by
 unfold uw
 rw[bin_or,zBZ,zBZ,zAu hk]
 simp only[BitVec.toNat_or,BitVec.toNat_ofNat,Nat.mod_mod,Nat.or_mod_two_pow]
theorem uw_shl {k':IntKind} (hk:k.signed=false) {n:Nat} (hn:n≤k.bits):binX .shl (uw k x) (.int k' (n:Int))=some (uw k (x <<< n)):=by
 unfold uw
 rw[bin_shl (by omega),Int.toNat_natCast,Nat.min_eq_left hn]
 have:(((x % 2 ^ k.bits:Nat):Int)*2 ^ n)=(((x % 2 ^ k.bits)*2 ^ n:Nat):Int):=by simp
 rw[this,zAu hk,Nat.shiftLeft_eq,Nat.mul_mod,Nat.mod_mod,←Nat.mul_mod]
theorem zF2 {k':IntKind} {n:Nat} (hn:n≤k.bits):binX .shr (uw k x) (.int k' (n:Int))=some (uw k ((x % 2 ^ k.bits) >>> n)):=by
 unfold uw
 rw[zGm (by omega),Int.toNat_natCast,Nat.min_eq_left hn]
 have h1:(((x % 2 ^ k.bits:Nat):Int).fdiv (2 ^ n))=(((x % 2 ^ k.bits) / 2 ^ n:Nat):Int):=by
  rw[Int.fdiv_eq_ediv_of_nonneg _ (by exact Int.le_of_lt (Int.pow_pos (by omega)))]
  simp
 rw[h1,Nat.shiftRight_eq_div_pow]
 rw[Nat.mod_eq_of_lt (Nat.lt_of_le_of_lt (Nat.div_le_self _ _) (Nat.mod_lt _ (Nat.two_pow_pos _)))]
theorem zIp {k':IntKind} (hk:k.signed=false) {n:Nat}:zAQ k (.int k' (n:Int))=some (uw k n):=by
 unfold uw
 rw[zA,zAu hk]
theorem zCr {k':IntKind} (hk:k.signed=false) (hk':k.bits≤k'.bits):zAQ k (uw k' x)=some (uw k x):=by
 unfold uw
 rw[zA,zAu hk,Nat.mod_mod_of_dvd _ (Nat.pow_dvd_pow 2 hk')]
theorem zFy {k':IntKind} (hk:k.signed=false):zAQ k (uw k' x)=some (uw k (x % 2 ^ k'.bits)):=by
 unfold uw
 rw[zA,zAu hk]
theorem zFz (hk:k.signed=false):unX .xor (uw k x)=some (uw k (2 ^ k.bits - 1 - x % 2 ^ k.bits)):=by
 unfold uw
 have hmax:(if k.signed=true then (-1:Int) else k.max)=((2 ^ k.bits - 1:Nat):Int):=by
  rw[hk];simp only[Bool.false_eq_true,if_false,IntKind.max,hk]
  rw[Int.natCast_sub (Nat.two_pow_pos _)];simp
 simp only[unX,hmax]
 rw[zBZ,zBZ,zAu hk]
 congr 4
 have hx:x % 2 ^ k.bits<2 ^ k.bits:=Nat.mod_lt _ (Nat.two_pow_pos _)
 have h2:BitVec.ofNat k.bits (2 ^ k.bits - 1)=BitVec.allOnes k.bits:=by
  apply BitVec.eq_of_toNat_eq;simp
 rw[h2,BitVec.allOnes_xor]
 simp[BitVec.toNat_not]
end
theorem zOa:IntKind.u8.signed=false:=rfl
theorem zOZ:IntKind.u64.signed=false:=rfl
theorem zFw:IntKind.u8.bits=8:=rfl
theorem zCG:IntKind.u32.bits=32:=rfl
theorem zFv:IntKind.u64.bits=64:=rfl
section
variable {k k':IntKind} {x:Nat}
theorem zF1 {n:Nat} (hk:k.signed=false) (hn:n≤k.bits):binX .shl (uw k x) (.int k' (OfNat.ofNat n))=some (uw k (x <<< n)):=uw_shl hk hn
theorem zF3 {n:Nat} (hn:n≤k.bits):binX .shr (uw k x) (.int k' (OfNat.ofNat n))=some (uw k ((x % 2 ^ k.bits) >>> n)):=zF2 hn
theorem uw_lit {n:Nat} (hn:n<2 ^ k.bits):Value.int k (OfNat.ofNat n)=uw k n:=by
 unfold uw;rw[Nat.mod_eq_of_lt hn];rfl
theorem uw_nat {n:Nat} (hn:n<2 ^ k.bits):Value.int k (n:Int)=uw k n:=by
 unfold uw;rw[Nat.mod_eq_of_lt hn]
theorem zF4 {c:Nat} (hk:k.signed=false) (hc:2 ^ k.bits - 1=c):binX .sub (.int k (OfNat.ofNat c)) (uw k x)=some (uw k (c - x % 2 ^ k.bits)):=by
 unfold uw
 rw[zGn]
 have hx:x % 2 ^ k.bits<2 ^ k.bits:=Nat.mod_lt _ (Nat.two_pow_pos _)
 have:((OfNat.ofNat c:Int) - ((x % 2 ^ k.bits:Nat):Int))=((c - x % 2 ^ k.bits:Nat):Int):=by
  rw[Int.natCast_sub (by omega)];rfl
 rw[this,zAu hk]
end
section
variable {k':IntKind} {x y:Nat}
theorem add_u8:binX .add (uw .u8 x) (uw .u8 y)=some (uw .u8 (x+y)):=zFx rfl
theorem mul_u8:binX .mul (uw .u8 x) (uw .u8 y)=some (uw .u8 (x*y)):=zF0 rfl
theorem xor_u8:binX .xor (uw .u8 x) (uw .u8 y)=some (uw .u8 (x ^^^ y)):=zF5 rfl
theorem and_u8:binX .and (uw .u8 x) (uw .u8 y)=some (uw .u8 (x &&& y)):=zET rfl
theorem or_u8:binX .or (uw .u8 x) (uw .u8 y)=some (uw .u8 (x ||| y)):=uw_or rfl
theorem shl_u8 {n:Nat} (hn:n≤8):binX .shl (uw .u8 x) (.int k' (OfNat.ofNat n))=some (uw .u8 (x <<< n)):=zF1 rfl hn
theorem shr_u8 {n:Nat} (hn:n≤8):binX .shr (uw .u8 x) (.int k' (OfNat.ofNat n))=some (uw .u8 ((x % 256) >>> n)):=zF3 hn
theorem com_u8:unX .xor (uw .u8 x)=some (uw .u8 (255 - x % 256)):=zFz rfl
theorem subM_u8:binX .sub (.int .u8 255) (uw .u8 x)=some (uw .u8 (255 - x % 256)):=zF4 rfl rfl
theorem nat_u8 {n:Nat} (hn:n<256):Value.int .u8 (n:Int)=uw .u8 n:=uw_nat hn
end
section
variable {k':IntKind} {x y:Nat}
theorem add_u32:binX .add (uw .u32 x) (uw .u32 y)=some (uw .u32 (x+y)):=zFx rfl
theorem mul_u32:binX .mul (uw .u32 x) (uw .u32 y)=some (uw .u32 (x*y)):=zF0 rfl
theorem xor_u32:binX .xor (uw .u32 x) (uw .u32 y)=some (uw .u32 (x ^^^ y)):=zF5 rfl
theorem and_u32:binX .and (uw .u32 x) (uw .u32 y)=some (uw .u32 (x &&& y)):=zET rfl
theorem or_u32:binX .or (uw .u32 x) (uw .u32 y)=some (uw .u32 (x ||| y)):=uw_or rfl
theorem zIa {n:Nat} (hn:n≤32):binX .shl (uw .u32 x) (.int k' (OfNat.ofNat n))=some (uw .u32 (x <<< n)):=zF1 rfl hn
theorem zFr {n:Nat} (hn:n≤32):binX .shr (uw .u32 x) (.int k' (OfNat.ofNat n))=some (uw .u32 ((x % 4294967296) >>> n)):=zF3 hn
theorem shlV_u32 {n:Nat} (hn:n≤32):binX .shl (uw .u32 x) (.int k' (n:Int))=some (uw .u32 (x <<< n)):=uw_shl rfl hn
theorem zIb {n:Nat} (hn:n≤32):binX .shr (uw .u32 x) (.int k' (n:Int))=some (uw .u32 ((x % 4294967296) >>> n)):=zF2 hn
theorem com_u32:unX .xor (uw .u32 x)=some (uw .u32 (4294967295 - x % 4294967296)):=zFz rfl
theorem subM_u32:binX .sub (.int .u32 4294967295) (uw .u32 x)=some (uw .u32 (4294967295 - x % 4294967296)):=zF4 rfl rfl
end
section
variable {k':IntKind} {x y:Nat}
theorem add_u64:binX .add (uw .u64 x) (uw .u64 y)=some (uw .u64 (x+y)):=zFx rfl
theorem mul_u64:binX .mul (uw .u64 x) (uw .u64 y)=some (uw .u64 (x*y)):=zF0 rfl
theorem xor_u64:binX .xor (uw .u64 x) (uw .u64 y)=some (uw .u64 (x ^^^ y)):=zF5 rfl
theorem and_u64:binX .and (uw .u64 x) (uw .u64 y)=some (uw .u64 (x &&& y)):=zET rfl
theorem or_u64:binX .or (uw .u64 x) (uw .u64 y)=some (uw .u64 (x ||| y)):=uw_or rfl
theorem shl_u64 {n:Nat} (hn:n≤64):binX .shl (uw .u64 x) (.int k' (OfNat.ofNat n))=some (uw .u64 (x <<< n)):=zF1 rfl hn
theorem shr_u64 {n:Nat} (hn:n≤64):binX .shr (uw .u64 x) (.int k' (OfNat.ofNat n))=some (uw .u64 ((x % 18446744073709551616) >>> n)):=zF3 hn
theorem shrV_u64 {n:Nat} (hn:n≤64):binX .shr (uw .u64 x) (.int k' (n:Int))=some (uw .u64 ((x % 18446744073709551616) >>> n)):=zF2 hn
theorem com_u64:unX .xor (uw .u64 x)=some (uw .u64 (18446744073709551615 - x % 18446744073709551616)):=zFz rfl
theorem subM_u64:binX .sub (.int .u64 18446744073709551615) (uw .u64 x)=some (uw .u64 (18446744073709551615 - x % 18446744073709551616)):=zF4 rfl rfl
end
theorem zM3 {x:Nat}:zAQ .u8 (uw .u8 x)=some (uw .u8 x):=zCr rfl (by decide)
theorem zM1 {x:Nat}:zAQ .u8 (uw .u32 x)=some (uw .u8 x):=zCr rfl (by decide)
theorem zM2 {x:Nat}:zAQ .u8 (uw .u64 x)=some (uw .u8 x):=zCr rfl (by decide)
theorem zMx {x:Nat}:zAQ .u32 (uw .u8 x)=some (uw .u32 (x % 256)):=zFy rfl
theorem zMv {x:Nat}:zAQ .u32 (uw .u32 x)=some (uw .u32 x):=zCr rfl (by decide)
theorem zMw {x:Nat}:zAQ .u32 (uw .u64 x)=some (uw .u32 x):=zCr rfl (by decide)
theorem zM0 {x:Nat}:zAQ .u64 (uw .u8 x)=some (uw .u64 (x % 256)):=zFy rfl
theorem zMy {x:Nat}:zAQ .u64 (uw .u32 x)=some (uw .u64 (x % 4294967296)):=zFy rfl
theorem zMz {x:Nat}:zAQ .u64 (uw .u64 x)=some (uw .u64 x):=zCr rfl (by decide)
theorem wrap_i64 {x:Int} (h1:-9223372036854775808≤x) (h2:x<9223372036854775808):IntKind.i64.wrap x=x:=by
 simp only[IntKind.wrap,IntKind.bits,IntKind.signed]
 simp only[Bool.true_and,decide_eq_true_eq,Int.reducePow,Nat.reduceSub,ge_iff_le]
 split<;>omega
end Go.X
end
section
namespace Go.X
def Var (h:Heap) (A:Nat) (l:List Value):Prop:=A<h.next∧h.blks.get A=some (.cells ⟨l,A,0,false⟩)∧∃s n,h.fams.get A=some ⟨s,A,n⟩
def Heap.wr (h:Heap) (A:Nat) (l:List Value):Heap:={ h with blks:=h.blks.set A (.cells ⟨l,A,0,false⟩),fams:=h.fams.set A ⟨h.next,A,match h.fams.get A with|some f=>f.top|none=>0⟩ }
section
variable {h h0:Heap} {A B:Nat} {l m:List Value}
theorem wr_next:(h.wr A l).next=h.next:=rfl
theorem new_next:(h.new l).next=h.next+1:=rfl
theorem Var.ok (hv:Var h A l):h.okCells A=some ⟨l,A,0,false⟩:=by
 obtain⟨_,h1,s,n,h2⟩:=hv
 unfold Heap.okCells
 rw[h1]
 dsimp only
 rw[h2]
 simp
theorem Var.load (hv:Var h A l) {i:Nat} {sp:Option Nat}:h.load ⟨A,i,sp⟩=l[i]?:=by simp only[Heap.load,hv.ok]
theorem Var.loadN (hv:Var h A l) {i n:Nat} {sp:Option Nat}:h.loadN ⟨A,i,sp⟩ n=zAD l i n:=by simp only[Heap.loadN,hv.ok]
theorem Var.all (hv:Var h A l) {sp:Option Nat}:h.loadN ⟨A,0,sp⟩ l.length=some l:=by
 rw[hv.loadN];simp[zAD,Nat.ble_eq_true_of_le (Nat.le_refl l.length)]
theorem Var.store (hv:Var h A l) {i:Nat} {sp:Option Nat} {vs:List Value} (hi:i+vs.length≤l.length) (ho:vs.all oneC=true):h.store ⟨A,i,sp⟩ vs=some (h.wr A (putN l i vs)):=by
 obtain⟨_,_,s,n,h2⟩:=id hv
 simp only[Heap.store,hv.ok]
 have hb:(i+vs.length).ble l.length=true:=Nat.ble_eq_true_of_le hi
 rw[hb,ho]
 simp[h2,Heap.wr]
theorem Var.wr (hv:Var h A l):Var (h.wr A m) A m:=⟨hv.1,PT.get_set_eq _ _ _,h.next,_,PT.get_set_eq _ _ _⟩
theorem Var.wr_ne (hv:Var h B l) (hne:B≠A):Var (h.wr A m) B l:=by
 obtain⟨h0,h1,s,n,h2⟩:=hv
 exact⟨h0,by rw[←h1];exact PT.get_set_ne _ _ hne,s,n,by rw[←h2];exact PT.get_set_ne _ _ hne⟩
theorem Var.new_self:Var (h.new l) h.next l:=⟨Nat.lt_succ_self _,PT.get_set_eq _ _ _,_,_,PT.get_set_eq _ _ _⟩
theorem Var.new_old (hv:Var h B l):Var (h.new m) B l:=by
 obtain⟨h0,h1,s,n,h2⟩:=hv
 have hne:B≠h.next:=by omega
 exact⟨Nat.lt_succ_of_lt h0,by rw[←h1];exact PT.get_set_ne _ _ hne,s,n,by rw[←h2];exact PT.get_set_ne _ _ hne⟩
theorem Grows.new:Grows h (h.new l):=⟨Nat.le_succ _,fun A hA=>PT.get_set_ne _ _ (by omega),fun A hA=>PT.get_set_ne _ _ (by omega)⟩
theorem zNu:(h.newB l).next=h.next+1:=rfl
theorem Grows.newB:Grows h (h.newB l):=⟨Nat.le_succ _,fun A hA=>PT.get_set_ne _ _ (by omega),fun A hA=>PT.get_set_ne _ _ (by omega)⟩
theorem Grows.wr (hg:Grows h0 h) (hA:h0.next≤A):Grows h0 (h.wr A l) :=
 ⟨hg.next,fun B hB=>(PT.get_set_ne _ _ (by omega)).trans (hg.blks B hB),fun B hB=>(PT.get_set_ne _ _ (by omega)).trans (hg.fams B hB)⟩
variable {cf:CallF} {t:Fr}
def mkH (h:Heap):Option (NBlk×Mk)→Option (Value×Heap)
 | some (b,mk)=>some (mk.val h.next,h.push b)
 | none=>none
theorem stepO_a {o:AOp}:zk cf t h (.a o)=mkH h (zAA t o):=by simp only[zk,mkH];cases zAA t o<;>rfl
theorem zNs {mk:Mk}:mkH h (some (.cells l,mk))=some (mk.val h.next,h.new l):=rfl
theorem zNr {mk:Mk}:mkH h (some (.bytes l,mk))=some (mk.val h.next,h.newB l):=rfl
theorem stepO_e {o:EOp}:zk cf t h (.e o)=effX t h o:=rfl
theorem al_alloc {z:List Value}:zAA t (.alloc z)=some (.cells z,.ptr):=rfl
theorem al_box {x:Operand}:zAA t (.box x)=some (.cells (zi (t.eval x)),.ptr):=rfl
def cs2bV:Value→Option (NBlk×Mk)
 | .string s=>some (.bytes (zV s.data.toList),.slice s.data.toList.length s.data.toList.length (some 1))
 | _=>none
theorem al_cs2b {x:Operand}:zAA t (.cs2b x)=cs2bV (t.eval x):=by simp only[zAA,cs2bV];cases t.eval x<;>rfl
theorem cs2bV_s {s:List UInt8}:cs2bV (.string (zY s))=some (.bytes (zV s),.slice s.length s.length (some 1)):=rfl
theorem val_ptr {id:Nat}:Mk.val id .ptr=.pointer (some ⟨id,0,none⟩):=rfl
theorem zOb {id n c:Nat} {sp:Option Nat}:Mk.val id (.slice n c sp)=.slice (some ⟨id,0,sp⟩) n c:=rfl
def zCT:Option Heap→Option (Value×Heap)
 | some h=>some (.tuple #[],h)
 | none=>none
theorem zM8:zCT (some h)=some (.tuple #[],h):=rfl
def zAt (h:Heap) (n:Nat) (a v:Value):Option (Value×Heap):=match a with
 | .pointer (some a)=>if (zi v).length=n then (if n=0 then none else zCT (h.store a (zi v))) else none
 | _=>none
theorem e_storeV {n:Nat} {a v:Operand}:effX t h (.store n a v)=zAt h n (t.eval a) (t.eval v):=by
 simp only[effX,zAt]
 cases t.eval a with
 | pointer a =>
  cases a with
  | none=>rfl
  | some a =>
   dsimp only
   split
   ·split
    ·rfl
    ·cases h.store a (zi (t.eval v))<;>rfl
   ·rfl
 | _=>rfl
theorem zW {a:Addr} {v:Value} (hv:zi v=[v]):zAt h 1 (.pointer (some a)) v=zCT (h.store a [v]):=by simp[zAt,hv]
theorem zOT {n:Nat} {a:Addr} {cs:List Value} (hn:cs.length=n) (h0:n≠0):zAt h n (.pointer (some a)) (.agg cs.toArray)=zCT (h.store a cs):=by
 simp[zAt,zi,hn,h0]
theorem zDo {k:IntKind} {x:Nat}:zi (uw k x)=[uw k x]:=rfl
theorem zMp {k:IntKind} {x:Int}:zi (.int k x)=[.int k x]:=rfl
theorem zMq {s:ByteArray}:zi (.string s)=[.string s]:=rfl
theorem zMo {b:Bool}:zi (.bool b)=[.bool b]:=rfl
def zFK (h:Heap):Value→Option Value|.pointer (some a)=>h.load a|_=>none
theorem zDS {a:Operand}:zh t h (.load1 a)=zFK h (t.eval a):=by
 simp only[zh,zFK]
 cases t.eval a with
 | pointer a=>cases a<;>rfl
 | _=>rfl
theorem zDG {a:Addr}:zFK h (.pointer (some a))=h.load a:=rfl
def aggV:Option (List Value)→Option Value|some l=>some (.agg l.toArray)|none=>none
def zFL (h:Heap) (n:Nat):Value→Option Value|.pointer (some a)=>aggV (h.loadN a n)|_=>none
theorem zDT {n:Nat} {a:Operand}:zh t h (.loadN n a)=zFL h n (t.eval a):=by
 simp only[zh,zFL]
 cases t.eval a with
 | pointer a =>
  cases a with
  | none=>rfl
  | some a=>dsimp only;cases h.loadN a n<;>rfl
 | _=>rfl
theorem zDH {n:Nat} {a:Addr}:zFL h n (.pointer (some a))=aggV (h.loadN a n):=rfl
theorem zCM:aggV (some l)=some (.agg l.toArray):=rfl
def zC8 (n esz:Nat):Value→Value→Option Value
 | .pointer (some a),.int _ i=>if 0≤i∧i<n then some (.pointer (some ⟨a.block,a.off+i.toNat*esz,a.spot⟩)) else none
 | _,_=>none
theorem p_iaddrA {n esz:Nat} {x i:Operand}:zB t (.iaddrA n esz x i)=zC8 n esz (t.eval x) (t.eval i):=by
 simp only[zB,zC8]
 cases t.eval x with
 | pointer a =>
  cases a with
  | none=>cases t.eval i<;>rfl
  | some a=>cases t.eval i<;>rfl
 | _=>rfl
theorem zBI {n:Nat} {k:IntKind} {i:Nat} (hi:i<n):zC8 n 1 (.pointer (some ⟨A,0,none⟩)) (.int k (OfNat.ofNat i))=some (.pointer (some ⟨A,i,none⟩)):=by
 have e:(OfNat.ofNat i:Int)=(i:Int):=rfl
 simp only[zC8,e]
 rw[if_pos (by omega)]
 simp
theorem zBg {n:Nat} {k:IntKind} {i:Nat} (hi:i<n):zC8 n 1 (.pointer (some ⟨A,0,none⟩)) (.int k (i:Int))=some (.pointer (some ⟨A,i,none⟩)):=zBI hi
end
end Go.X
namespace Go.X
theorem zIW {α:Type}:∀ (p:List Bool) (t:PT α) (a b:α),PT.setP (PT.setP t p a) p b=PT.setP t p b
 | [],t,a,b=>by cases t<;>rfl
 | c::p,t,a,b=>by cases t<;>cases c<;>simp only[PT.setP]<;>rw[zIW p]
theorem set_set {α:Type} (t:PT α) (n:Nat) (a b:α):(t.set n a).set n b=t.set n b:=zIW _ _ _ _
section
variable {h:Heap} {A:Nat} {l m:List Value}
theorem wr_wr:(h.wr A l).wr A m=h.wr A m:=by
 unfold Heap.wr
 simp only[set_set,PT.get_set_eq]
theorem Var.wr_load (hv:Var h A m) {i:Nat}:(h.wr A l).load ⟨A,i,none⟩=l[i]?:=hv.wr.load
theorem Var.wr_store (hv:Var h A m) {i:Nat} {v:Value} (hi:i<l.length) (ho:oneC v=true):(h.wr A l).store ⟨A,i,none⟩ [v]=some (h.wr A (l.set i v)):=by
 rw[hv.wr.store (show i+1≤l.length from hi) (by simp[ho]),wr_wr]
 congr 2
 simp only[putN,List.length_singleton]
 rw[List.set_eq_take_append_cons_drop,if_pos hi]
 simp
end
end Go.X
namespace Go.X
section
variable {h:Heap} {A:Nat} {l m:List Value}
theorem Var.storeAll (hv:Var h A l) {n:Nat} {vs:List Value} (hn:vs.length=n) (hl:l.length=n) (h0:n≠0) (ho:vs.all oneC=true):zAt h n (.pointer (some ⟨A,0,none⟩)) (.agg vs.toArray)=some (.tuple #[],h.wr A vs):=by
 rw[zOT hn h0,hv.store (by omega) ho]
 simp[putN,zCT,hn,hl]
 rw[List.drop_of_length_le (by omega)]
 simp
theorem Var.loadAll (hv:Var h A l) {n:Nat} (hl:l.length=n) {sp:Option Nat}:h.loadN ⟨A,0,sp⟩ n=some l:=by subst hl;exact hv.all
theorem zFg {t:Fr} {i n:Nat} {a:Addr} {vs:List Value} (ht:t.get i=.pointer (some a)) (hl:h.loadN a n=some vs):z0 t h [.cellN i n]=some (.agg vs.toArray):=by
 simp[z0,zBS,resX,ht,hl,zDa]
theorem zCg {k:IntKind} {l:List Nat}:(l.map (uw k)).all oneC=true:=by
 rw[List.all_eq_true];intro v hv
 obtain⟨x,_,rfl⟩:=List.mem_map.1 hv
 rfl
end
end Go.X
namespace Go.X
theorem zF7 {h:Heap} {o:Option Value} {v:Value} {p:Value×Heap→Prop} (ho:o=some v) (hp:p (v,h)):∃r,zCs h o=some r∧p r:=⟨(v,h),by rw[ho];rfl,hp⟩
end Go.X
namespace Go.X
theorem Grows.ok {h h':Heap} (hg:Grows h h') (wf:HWF h) {A:Nat} {c:zAT} (hc:h.okCells A=some c):h'.okCells A=some c:=by
 have hb:=(okCells_iff.1 hc).1
 rw[zD7 (hg.blks A (wf.lt hb)) (fun c' hc'=>hg.fams c'.fam (wf.fam A c' hc').1)]
 exact hc
theorem Grows.load {h h':Heap} (hg:Grows h h') (wf:HWF h) {a:Addr} {v:Value} (hl:h.load a=some v):h'.load a=some v:=by
 unfold Heap.load at *
 split at hl
 ·rename_i c hc;rw[hg.ok wf hc];exact hl
 ·cases hl
theorem Grows.loadN {h h':Heap} (hg:Grows h h') (wf:HWF h) {a:Addr} {n:Nat} {l:List Value} (hl:h.loadN a n=some l):h'.loadN a n=some l:=by
 unfold Heap.loadN at *
 split at hl
 ·rename_i c hc;rw[hg.ok wf hc];exact hl
 ·cases hl
theorem zHg {h:Heap} {a:Addr} {n:Nat} {l:List Value} (hl:h.loadN a n=some l) {i:Nat} {v:Value} (hv:l[i]?=some v) {sp:Option Nat}:h.load ⟨a.block,a.off+i,sp⟩=some v:=by
 unfold Heap.loadN at hl
 unfold Heap.load
 split at hl
 ·rename_i c hc
  rw[hc]
  unfold zAD at hl
  cases hb:(a.off+n).ble c.cells.length with
  | false=>rw[hb] at hl;cases hl
  | true =>
   rw[hb] at hl
   cases hl
   dsimp only
   rw[List.getElem?_take] at hv
   split at hv
   ·rw[List.getElem?_drop] at hv;exact hv
   ·cases hv
 ·cases hl
def zC9 (esz:Nat):Value→Value→Option Value
 | .slice (some a) len _,.int _ i=>if 0≤i∧i<len then some (.pointer (some ⟨a.block,a.off+i.toNat*esz,none⟩)) else none
 | _,_=>none
theorem zH0 {t:Fr} {esz:Nat} {x i:Operand}:zB t (.iaddrS esz x i)=zC9 esz (t.eval x) (t.eval i):=by
 simp only[zB,zC9]
 cases t.eval x with
 | slice a l c =>
  cases a with
  | none=>cases t.eval i<;>rfl
  | some a=>cases t.eval i<;>rfl
 | _=>rfl
theorem zDA {a:Addr} {n c i:Nat} {k:IntKind} (hi:i<n):zC9 1 (.slice (some a) n c) (.int k (i:Int))=some (.pointer (some ⟨a.block,a.off+i,none⟩)):=by
 simp only[zC9]
 rw[if_pos (by omega)]
 simp
end Go.X
namespace Go.X
theorem zX {h:Heap} {a:Addr} {k:IntKind} {x:Nat}:zAt h 1 (.pointer (some a)) (uw k x)=zCT (h.store a [uw k x]):=zW rfl
theorem zOH {l:List Value} {i:Nat} {v w:Value}:(l.set i v).set i w=l.set i w:=List.set_set _
end Go.X
end
section
namespace Go.X
open Go.RowKit
abbrev Prim:=List Value→Heap→Option (Value×Heap)
def Tab (P:Program) (l:List (Nat×Prim)):Prog:=⟨fun f=>(P.funcs[f]?).bind (zt P),fun f=>(l.find? (fun q=>q.1.beq f)).map (·.2)⟩
theorem Tab.nil {P:Program} (hm:P.follows .mixedOrders=true):XOK P (Tab P []):=by
 refine⟨hm,fun f F hF=>?_,fun f g hg=>by cases hg⟩
 simp only[Tab,Option.bind_eq_some_iff] at hF
 exact hF
theorem Tab.cons {P:Program} {l:List (Nat×Prim)} (ok:XOK P (Tab P l)) {f:Nat} {g:Prim}
  (hg:∀args h v h',g args h=some (v,h')→zBW P f∧h.next≤h'.next∧zBV P f args h v h'):XOK P (Tab P ((f,g)::l)):=by
 refine⟨ok.mixed,ok.code,fun k g' hk args h v h' hr=>?_⟩
 simp only[Tab,List.find?_cons] at hk
 cases hb:f.beq k with
 | false=>rw[hb] at hk;exact ok.prim k g' hk args h v h' hr
 | true =>
  rw[hb] at hk
  cases hk
  rw[←Nat.eq_of_beq_eq_true hb]
  exact hg args h v h' hr
def zg (s:List Value→Option Value):Prim:=fun args h=>match s args with|some v=>some (v,h)|none=>none
theorem zH8 {s:List Value→Option Value} {args:List Value} {h:Heap} {v:Value} (hs:s args=some v):zg s args h=some (v,h):=by simp[zg,hs]
theorem zEn {P:Program} {f:Nat} {fn:Func} {F:XF} (hf:P.funcs[f]?=some fn) (hF:zt P fn=some F):zBW P f:=by
 unfold zt at hF
 split at hF
 ·rename_i c hbody
  split at hF
  ·split at hF
   ·rename_i hsz;exact⟨fn,hf,hsz.2,by rw[hbody];rfl⟩
   ·cases hF
  ·cases hF
 ·cases hF
theorem Tab.pure {P:Program} {l:List (Nat×Prim)} (ok:XOK P (Tab P l)) {f:Nat} {fn:Func} {F:XF} (hf:P.funcs[f]?=some fn) (hF:zt P fn=some F) {s:List Value→Option Value}
  (hs:∀args v,s args=some v→args.length=F.nargs∧zy v=true∧∀h,Comes (Tab P l) F args h v):XOK P (Tab P ((f,zg s)::l)):=by
 refine Tab.cons ok fun args h v h' hr=>?_
 unfold zg at hr
 split at hr
 ·rename_i v1 hv
  cases hr
  obtain⟨h1,h2,h3⟩:=hs args v hv
  exact⟨zEn hf hF,Nat.le_refl _,zEo ok hf hF h1 (fun _ _ _ _ _ _=>⟨v,zCX h2⟩) fun n _ _=>h3 _⟩
 ·cases hr
theorem zAV {pr:Prog} {f:Nat} {s:List Value→Option Value} {args:List Value} {h:Heap} {v:Value} (hp:pr.prim f=some (zg s)) (hs:s args=some v):cfi pr f args h=some (v,h):=zG6 hp (zH8 hs)
end Go.X
end
section
namespace Go.X
open Go.RowKit
theorem zNw {ρ:Ren} {v v':Value} (hv:zp v=true) (h:VRel ρ v v'):v'=v:=by
 cases h with
 | bool b=>rfl
 | int k n=>rfl
 | float k n=>rfl
 | string s=>rfl
 | nilptr=>rfl
 | ptr h=>cases hv
 | nilslice=>rfl
 | slice h=>cases hv
 | nilmap=>rfl
 | map h=>cases hv
 | yield h=>cases hv
 | func=>cases hv
 | nilFunc=>rfl
 | iface h=>cases hv
 | nilIface=>rfl
 | agg=>cases hv
 | tuple=>cases hv
theorem zNx {ρ:Ren} {l l':List Value} (h:LRel ρ l l') (hl:l.all zp=true):l'=l:=by
 induction h with
 | nil=>rfl
 | cons h _ ih =>
  simp only[List.all_cons,Bool.and_eq_true] at hl
  rw[zNw hl.1 h,ih hl.2]
theorem zGg {a b:Array Value} (h:a.toList=b.toList):a=b:=by cases a;cases b;exact congrArg _ h
theorem zHM {ρ:Ren} {v v':Value} (hv:zCW v=true) (h:VRel ρ v v'):v'=v:=by
 cases h with
 | bool b=>rfl
 | int k n=>rfl
 | float k n=>rfl
 | string s=>rfl
 | nilptr=>rfl
 | ptr h=>cases hv
 | nilslice=>rfl
 | slice h=>cases hv
 | nilmap=>rfl
 | map h=>cases hv
 | yield h=>cases hv
 | func=>cases hv
 | nilFunc=>rfl
 | iface h=>cases hv
 | nilIface=>rfl
 | agg ha h=>exact congrArg _ (zGg (zNx (zBK ha h) hv))
 | tuple ha h=>cases hv
theorem zNT {ρ:Ren} {l l':List Value} (h:LRel ρ l l') (hl:l.all zCW=true):l'=l:=by
 induction h with
 | nil=>rfl
 | cons h _ ih =>
  simp only[List.all_cons,Bool.and_eq_true] at hl
  rw[zHM hl.1 h,ih hl.2]
theorem zDx {ρ:Ren} {v v':Value} (hv:zy v=true) (h:VRel ρ v v'):v'=v:=by
 cases h with
 | tuple ha h=>exact congrArg _ (zGg (zNT (zBK ha h) hv))
 | bool b=>rfl
 | int k n=>rfl
 | float k n=>rfl
 | string s=>rfl
 | nilptr=>rfl
 | ptr h=>cases hv
 | nilslice=>rfl
 | slice h=>cases hv
 | nilmap=>rfl
 | map h=>cases hv
 | yield h=>cases hv
 | func=>cases hv
 | nilFunc=>rfl
 | iface h=>cases hv
 | nilIface=>rfl
 | agg ha h=>exact zHM (ρ:=ρ) hv (.agg ha h)
theorem zNU {ρ ρ':Ren} {l l':List Value} (h:LRel ρ l l') (hl:l.all zy=true):LRel ρ' l l':=by
 induction h with
 | nil=>exact .nil
 | cons h _ ih =>
  simp only[List.all_cons,Bool.and_eq_true] at hl
  refine .cons ?_ (ih hl.2)
  rw[zDx hl.1 h]
  exact zCX hl.1
theorem HRel.below {P:Program} {base:Nat} {ρ:Ren} {h:Heap} {w w':World} (hr:HRel P base ρ h w) (hb:Below w.heap.size w w'):HRel P base ρ h w':=by
 refine⟨Nat.le_trans hr.le hb.size,fun A l hA=>Nat.lt_of_lt_of_le (hr.bnd A l hA) hb.size,hr.found,?_,hr.alias,?_,hr.malias,hr.fin,fun A c f l h1 h2 h3 h4 h5=>(hr.mark A c f l h1 h2 h3 h4 h5).same (hb.block _ (hr.bnd A l h5)),
  hr.loops.sameW (fun A l hA _=>hb.block _ (hr.bnd A l hA))⟩
 ·intro A c l hc hA
  obtain⟨cs,T,fz,h1,h2⟩:=hr.cells A c l hc hA
  exact⟨cs,T,fz,by rw[hb.block _ (hr.bnd A l hA)];exact h1,h2⟩
 ·intro A l es st hes hA
  obtain⟨es',cl,h1,h2⟩:=hr.maps A l es st hes hA
  exact⟨es',cl,by rw[hb.block _ (hr.bnd A l hA)];exact h1,h2⟩
theorem zGz {P:Program} {Pg:Prog} (ok:XOK P Pg) {n f:Nat} {args:List Value} {v:Value} {h':Heap} (hc:call Pg n f args Heap.empty=some (v,h')) (ha:args.all zy=true) (hv:zy v=true) (h:Heap) :
  zBV P f args h v h:=by
 intro base ρ w args' hr wf hpre hargs
 refine (zG0 ok hc (zNU hargs ha) w).mono fun e w' hq=>?_
 obtain⟨v',ρ',rfl,q1,q2,q3⟩:=hq
 obtain rfl:=zDx hv q2
 exact⟨_,ρ,rfl,hr.below q3,wf,⟨fun _ _ h=>h,fun _ h=>absurd rfl h,Nat.le_refl _,fun _ _ h=>h,fun _ _ _=>⟨rfl,rfl⟩,q3.mono hr.le,fun r h1 _=>q3.block r h1,fun A l h1 h2=>by rw[h1] at h2;cases h2⟩,zCX hv⟩
theorem zGy {P:Program} {Pg:Prog} (ok:XOK P Pg) {n f:Nat} {args:List Value} {v:Value} {h h':Heap} (hc:call Pg n f args h=some (v,h')):zBW P f :=
 ((zGx ok n).fn f args h v h' hc).1
theorem Tab.closed {P:Program} {l:List (Nat×Prim)} (ok:XOK P (Tab P l)) {f:Nat} {s:List Value→Option Value}
  (hs:∀args v,s args=some v→args.all zy=true∧zy v=true∧∃n h',call (Tab P l) n f args Heap.empty=some (v,h')):XOK P (Tab P ((f,zg s)::l)):=by
 refine Tab.cons ok fun args h v h' hr=>?_
 unfold zg at hr
 split at hr
 ·rename_i v1 hv
  cases hr
  obtain⟨h1,h2,n,h',h3⟩:=hs args v hv
  exact⟨zGy ok h3,Nat.le_refl _,zGz ok h3 h1 h2 h⟩
 ·cases hr
end Go.X
end
section
namespace Go.X
open Go.RowKit
end Go.X
end
section
namespace Go.X
open Go.RowKit
def zD1 (esz bytes:Nat) (h:Heap) (a:Addr) (n cap i:Nat) (m:Nat) (news:List Value):Option (Value×Heap) :=
 match h.loadN a (n*esz),h.append esz bytes (.slice (some a) n cap) m news with
 | some olds,some (.slice (some b) n' cap',h1)=>match h1.store ⟨b.block,b.off+i*esz,none⟩ (news++olds.drop (i*esz)) with
  | some h2=>some (.slice (some b) n' cap',h2)
  | none=>none
 | _,_=>none
def zCy (h:Heap) (a va:Addr):Bool:=match h.okCells a.block,h.okCells va.block with
 | some c,some d=>!(c.fam.beq d.fam)&&!c.ro&&!d.ro&&(match h.fams.get d.fam with|some f=>f.since.beq 0|none=>false)
 | _,_=>false
def zBh (esz bytes:Nat):Prim:=fun args h=>match args with
 | [.slice base n cap,.int .i64 i,.slice (some va) m vc] =>
  if m=0∨i<0∨(n:Int)<i then none else
  match h.loadN va (m*esz) with
  | none=>none
  | some news=>if i=(n:Int) then h.append esz bytes (.slice base n cap) m news else
   match base with
   | none=>none
   | some a=>if zCy h a va=true then zD1 esz bytes h a n cap i.toNat m news else none
 | _=>none
structure InsFn (P:Program) (f:Nat) (st el:TypeId) (sz by_:Nat) (z:Value):Prop where
 call:zBW P f
 und:P.underlying st=some (.slice el)
 info:(P.info? el).map (fun i=>(i.zero,i.size,i.bytes))=some (some z,sz,by_)
 zero:z9 P el=some z.cells.toList
 size:zZ P el=some sz
 bytes:zBD P el=some by_
 zlen:z.cells.toList.length=sz
 by0:by_≠0
 sz0:sz≠0
 end_:∀ (base:Option Addr) (n c m vc:Nat) (va:Option Addr) (v:Value) (w w':World),0<m→n≤c→(base=none→n=0)→(Builtin.append_ #[st,st] st #[.slice base n c,.slice va m vc]).run P w=.ok v w' →
  Calls P f #[.slice base n c,.int .i64 n,.slice va m vc] w fun e w1=>e=.returned v∧w1=w'
 shift:∀ (b off n c i vb voff m vc:Nat) (cs vs:List Value) (w:World),i<n→0<m→n+m≤c→n+m≤9223372036854775807→vb≠b→cs.length=n*sz→vs.length=m*sz →
  (∀j v,cs[j]?=some v→w.cell? ⟨b,off+j,none⟩=some v)→(∀j,j<(n+m)*sz→(w.cell? ⟨b,off+j,none⟩).isSome=true)→(∀j,j<(n+m)*sz→w.frozen? ⟨b,off+j,none⟩=false) →
  (∀j v,vs[j]?=some v→w.cell? ⟨vb,voff+j,none⟩=some v)→(∀v∈cs.drop (i*sz),v.oneCell'=true)→(∀v∈vs,v.oneCell'=true) →
  ∀ (tA tB:TypeId) (kA kB:Nat),w.shape? vb=some (tA,kA)→w.shape? b=some (tB,kB)→kB≠0→w.frozen? ⟨vb,voff,none⟩=false→w.frozen? ⟨vb,kA,none⟩=false →
  Calls P f #[.slice (some ⟨b,off,none⟩) n c,.int .i64 i,.slice (some ⟨vb,voff,none⟩) m vc] w fun e w' =>
   e=.returned (.slice (some ⟨b,off,none⟩) (n+m) c)∧w'=(w.drew.setCells b (off+(i+m)*sz) (cs.drop (i*sz))).setCells b (off+i*sz) vs
 grow:∀ (b off n c i vb voff m vc:Nat) (cs vs:List Value) (w:World),i<n→0<m→n≤c→c<n+m→(n+m)*by_≤140737488355328→cs.length=n*sz→vs.length=m*sz →
  (∀j v,cs[j]?=some v→w.cell? ⟨b,off+j,none⟩=some v)→(∀j v,vs[j]?=some v→w.cell? ⟨vb,voff+j,none⟩=some v)→(∀v∈cs.drop (i*sz),v.oneCell'=true)→(∀v∈vs,v.oneCell'=true) →
  Calls P f #[.slice (some ⟨b,off,none⟩) n c,.int .i64 i,.slice (some ⟨vb,voff,none⟩) m vc] w fun e w' =>
   e=.returned (.slice (some ⟨w.heap.size,0,none⟩) (n+m) (grownCap w (n+m) c el)) ∧
   w'=(((w.alloc (.cells ((cs.take (i*sz)).toArray++Builtin.zeroCells z.cells (n+m - i)++Builtin.zeroCells z.cells (grownCap w (n+m) c el - (n+m))) el)).drew.setCells w.heap.size (i*sz) vs).drew).setCells w.heap.size ((i+m)*sz) (cs.drop (i*sz))
section
variable {P:Program} {f:Nat} {st el:TypeId} {sz by_:Nat} {z:Value} {ρ:Ren} {w w':World} {base:Nat} {h h' h1:Heap}
theorem zGe (I:InsFn P f st el sz by_ z) (hr:HRel P base ρ h w) (wf:HWF h) {s s' vs' v1:Value} {va:Addr} {m vc:Nat} {news:List Value} (hs:VRel ρ s s') (hv:VRel ρ (.slice (some va) m vc) vs') (hm:m≠0)
  (hn:h.loadN va (m*sz)=some news) (ha:h.append sz by_ s m news=some (v1,h1)) (hpre:∀A,h.next≤A→A<h1.next→ρ A=none) :
  ∃v1' w1 ρ1,(Builtin.append_ #[st,st] st #[s',vs']).run P w=.ok v1' w1∧HRel P base ρ1 h1 w1∧HWF h1∧Ext base ρ h w ρ1 h1 w1∧VRel ρ1 v1 v1':=by
 have hst:zAP P base ρ h w (fun|.tmp 0=>s'|_=>vs') ⟨none,.call { callee:=.builtin .append,args:=#[.tmp 0,.tmp 1],argTypes:=#[st,st] },st,"",#[],none⟩ v1 h1:=by
  refine zEx (t:=(PT.leaf.set 0 s).set 1 (.slice (some va) m vc)) (sx:=.tmp 0) (x:=.tmp 1) hr wf hpre rfl rfl rfl rfl I.und (.inl ⟨el,I.und⟩) I.zero I.size I.bytes I.zlen hs hv ?_
  have e0:Fr.eval ((PT.leaf.set 0 s).set 1 (.slice (some va) m vc)) (.tmp 0)=s:=by simp[Fr.eval,Fr.get,PT.get_set]
  have e1:Fr.eval ((PT.leaf.set 0 s).set 1 (.slice (some va) m vc)) (.tmp 1)=.slice (some va) m vc:=by simp[Fr.eval,Fr.get,PT.get_set]
  simp only[effX,e0,e1,if_neg hm,hn,ha]
 obtain⟨v',w1,ρ1,hrun,q1,q2,q3,q4⟩:=hst
 obtain⟨cs,hb⟩:=zA7 (P:=P) (e:=fun|.tmp 0=>s'|_=>vs') (o:=⟨none,.call { callee:=.builtin .append,args:=#[.tmp 0,.tmp 1],argTypes:=#[st,st] },st,"",#[],none⟩) w rfl
 have hb':(execOp (fun|.tmp 0=>s'|_=>vs') ⟨none,.call { callee:=.builtin .append,args:=#[.tmp 0,.tmp 1],argTypes:=#[st,st] },st,"",#[],none⟩).run P w=((Builtin.append_ #[st,st] st #[s',vs']).run P w).andThen fun r w=>.ok (.value r) w:=by
  rw[hb]
  simp[builtin]
 rw[hb'] at hrun
 cases hq:(Builtin.append_ #[st,st] st #[s',vs']).run P w with
 | ok r w2 =>
  rw[hq] at hrun
  rcases hrun with hrun|⟨hrun,_⟩
  ·cases hrun;exact⟨_,_,ρ1,rfl,q1,q2,q3,q4⟩
  ·cases hrun
 | halt a b =>
  rw[hq] at hrun
  rcases hrun with hrun|⟨hrun,_⟩<;>cases hrun
theorem HRel.swap (hr:HRel P base ρ h w) (he:w'.heap=w.heap):HRel P base ρ h w':=hr.heap_eq he
theorem Ext.swap {ρ':Ren} {w1:World} (hx:Ext base ρ h w ρ' h' w1) (he:w'.heap=w1.heap) (h1:w'.os=w.os) (h2:w'.tape=w.tape) (h3:w'.output=w.output):Ext base ρ h w ρ' h' w' :=
 ⟨hx.mono,hx.new,hx.next,hx.keep,hx.phan,⟨h1,h2,h3,by rw[he];exact hx.below.size,fun k hk=>by rw[he];exact hx.below.block k hk⟩,fun r h1 h2=>by rw[he];exact hx.frame r h1 h2,hx.newb⟩
theorem zG5 {cs ds:Array Value} {T:TypeId} {fz:Nat×Nat} (h:cs.toList=ds.toList):Obj.cells cs T fz=Obj.cells ds T fz:=by
 rw[Array.toList_inj.1 h]
theorem zBr {l a b c:List Value} (o:Nat) (hl:l=a++b++c) (ho:o=a.length) {vs:List Value} (hv:vs.length=b.length):putN l o vs=a++vs++c:=by
 subst hl ho
 unfold putN
 rw[hv,←List.length_append,List.drop_left,List.append_assoc a b c,List.take_left]
theorem zNZ {b:Nat} {cs:Array Value} {T:TypeId} {fz:Nat×Nat} (hb:w.heap[b]?=some (.cells cs T fz)) {A O1 O2 R news g:List Value} (hl:cs.toList=A++(O1++O2)++g++R) (hg:g.length=news.length) :
  ((w.drew.setCells b (A.length+(O1.length+news.length)) O2).setCells b (A.length+O1.length) news).heap=((w.setCells b (A.length+(O1.length+O2.length)) news).setCells b (A.length+O1.length) (news++O2)).heap:=by
 have hsz:cs.size=A.length+(O1.length+O2.length)+g.length+R.length:=by
  have:=congrArg List.length hl
  simpa [Nat.add_assoc] using this
 obtain⟨c1,p1,p2,p3,p4,_⟩:=zAm b O2 (A.length+(O1.length+news.length)) w.drew cs T fz hb (by omega)
 have hs1:c1.toList=A++O1++(O2++g).take news.length++O2++R:=by
  rw[p2]
  have e:cs.toList=(A++O1++(O2++g).take news.length)++(O2++g).drop news.length++R:=by
   rw[hl]
   simp only[List.append_assoc]
   congr 2
   rw[←List.append_assoc,←List.append_assoc ((O2++g).take news.length),List.take_append_drop]
  refine zBr (b:=(O2++g).drop news.length) _ e ?_ ?_
  ·simp;omega
  ·simp;omega
 have hl1:c1.size=cs.size:=by
  have:=congrArg List.length hs1
  simp at this
  omega
 obtain⟨c2,r1,r2,r3,r4,_⟩:=zAm b news (A.length+O1.length) _ c1 T fz p1 (by omega)
 have hs2:c2.toList=(A++O1)++news++(O2++R):=by
  rw[r2]
  refine zBr (b:=(O2++g).take news.length) _ (by rw[hs1];simp[List.append_assoc]) (by simp) (by simp;omega)
 obtain⟨d1,u1,u2,u3,u4,_⟩:=zAm b news (A.length+(O1.length+O2.length)) w cs T fz hb (by omega)
 have ht1:d1.toList=(A++O1++O2)++news++R:=by
  rw[u2]
  exact zBr (b:=g) _ (by rw[hl];simp[List.append_assoc]) (by simp) hg.symm
 have hm1:d1.size=cs.size:=by
  have:=congrArg List.length ht1
  simp at this
  omega
 obtain⟨d2,y1,y2,y3,y4,_⟩:=zAm b (news++O2) (A.length+O1.length) _ d1 T fz u1 (by simp;omega)
 have ht2:d2.toList=(A++O1)++(news++O2)++R:=by
  rw[y2]
  exact zBr (b:=O2++news) _ (by rw[ht1];simp[List.append_assoc]) (by simp) (by simp;omega)
 refine Array.ext_getElem? fun r=>?_
 by_cases e:r=b
 ·subst e
  rw[r1,y1]
  congr 1
  exact zG5 (by rw[hs2,ht2];simp[List.append_assoc])
 ·rw[r3 r e,p3 r e,y3 r e,u3 r e]
  rfl
theorem heap_alloc {w:World} {o:Obj}:(w.alloc o).heap=w.heap.push o:=rfl
theorem zNY {A O2 V:List Value} {Z1 Z2:Array Value} {T:TypeId} (hz:Z1.size=V.length+O2.length) :
  ((((w.alloc (.cells (A.toArray++Z1++Z2) T)).drew.setCells w.heap.size A.length V).drew).setCells w.heap.size (A.length+V.length) O2).heap =
   ((w.drew.alloc (.cells ((A++O2++V).toArray++Z2) T)).setCells w.heap.size A.length (V++O2)).heap:=by
 have hb:(w.alloc (.cells (A.toArray++Z1++Z2) T)).drew.heap[w.heap.size]?=some (.cells (A.toArray++Z1++Z2) T (0,0)):=by
  show (w.heap.push _)[w.heap.size]?=_
  simp
 have hb2:(w.drew.alloc (.cells ((A++O2++V).toArray++Z2) T)).heap[w.heap.size]?=some (.cells ((A++O2++V).toArray++Z2) T (0,0)):=by
  show (w.heap.push _)[w.heap.size]?=_
  simp
 obtain⟨c1,p1,p2,p3,p4,_⟩:=zAm w.heap.size V A.length (w.alloc (.cells (A.toArray++Z1++Z2) T)).drew _ T (0,0) hb (by simp;omega)
 have hs1:c1.toList=A++V++(Z1.toList.drop V.length++Z2.toList):=by
  rw[p2]
  refine zBr (b:=Z1.toList.take V.length) _ ?_ rfl (by simp;omega)
  simp only[Array.toList_append,List.append_assoc]
  congr 1
  rw[←List.append_assoc,List.take_append_drop]
 have hl1:c1.size=A.length+V.length+O2.length+Z2.size:=by
  have:=congrArg List.length hs1
  simp at this
  omega
 obtain⟨c2,r1,r2,r3,r4,_⟩:=zAm w.heap.size O2 (A.length+V.length) ((w.alloc (.cells (A.toArray++Z1++Z2) T)).drew.setCells w.heap.size A.length V).drew c1 T (0,0) p1 (by omega)
 have hs2:c2.toList=(A++V)++O2++Z2.toList:=by
  rw[r2]
  exact zBr (b:=Z1.toList.drop V.length) _ (by rw[hs1];simp[List.append_assoc]) (by simp) (by simp;omega)
 obtain⟨d1,u1,u2,u3,u4,_⟩:=zAm w.heap.size (V++O2) A.length (w.drew.alloc (.cells ((A++O2++V).toArray++Z2) T)) _ T (0,0) hb2 (by simp;omega)
 have ht1:d1.toList=A++(V++O2)++Z2.toList:=by
  rw[u2]
  exact zBr (b:=O2++V) _ (by simp[List.append_assoc]) rfl (by simp;omega)
 refine Array.ext_getElem? fun r=>?_
 by_cases e:r=w.heap.size
 ·subst e
  rw[r1,u1]
  congr 1
  exact zG5 (by rw[hs2,ht1];simp[List.append_assoc])
 ·rw[r3 r e,u3 r e]
  show ((w.alloc (.cells (A.toArray++Z1++Z2) T)).drew.setCells w.heap.size A.length V).heap[r]?=_
  rw[p3 r e]
  show (w.heap.push _)[r]?=(w.heap.push _)[r]?
  rw[Array.getElem?_push,Array.getElem?_push,if_neg e,if_neg e]
theorem zPR (c:Array Value) (k:Nat):(Builtin.zeroCells c k).size=k*c.size:=by simp[Builtin.zeroCells]
theorem zHZ {args:List Value} {v:Value} (hr:zBh sz by_ args h=some (v,h')):h.next≤h'.next:=by
 unfold zBh at hr
 split at hr
 ·split at hr
  ·cases hr
  ·split at hr
   ·cases hr
   ·split at hr
    ·exact zDi hr
    ·split at hr
     ·cases hr
     ·split at hr
      ·unfold zD1 at hr
       split at hr
       ·rename_i h1 ha
        split at hr
        ·rename_i h2 hs
         cases hr
         rw[zEO hs]
         exact zDi ha
        ·cases hr
       ·cases hr
      ·cases hr
 ·cases hr
theorem zFp (b:Nat):∀ (vs:List Value) (o:Nat) (w:World),(w.setCells b o vs).os=w.os∧(w.setCells b o vs).tape=w.tape∧(w.setCells b o vs).output=w.output
 | [],_,_=>⟨rfl,rfl,rfl⟩
 | v::vs,o,w=>by
  have:=zFp b vs (o+1) (w.setCell ⟨b,o,none⟩ v)
  exact this
theorem zMa {a va:Addr} (ha:zCy h a va=true):∃c d f,h.okCells a.block=some c∧h.okCells va.block=some d∧c.fam≠d.fam∧c.ro=false∧d.ro=false∧h.fams.get d.fam=some f∧f.since=0:=by
 unfold zCy at ha
 split at ha
 ·rename_i c d hc hd
  simp only[Bool.and_eq_true,Bool.not_eq_true'] at ha
  obtain⟨⟨⟨h1,h2⟩,h3⟩,h4⟩:=ha
  split at h4
  ·rename_i f hf
   refine⟨c,d,f,hc,hd,fun e=>?_,h2,h3,hf,by simpa using h4⟩
   rw[e] at h1
   simp at h1
  ·cases h4
 ·cases ha
theorem zHn {l l':List Value} (hl:LRel ρ l l') (ho:l.all oneC=true):∀u∈l',u.oneCell'=true:=by
 intro u hu
 rw[zFW]
 obtain⟨j,hj,rfl⟩:=List.getElem_of_mem hu
 have hj':j<l.length:=by rw[hl.length];exact hj
 rw[←zFX (hl.get j hj' hj)]
 exact List.all_eq_true.1 ho _ (by simp)
set_option maxHeartbeats 1000000 in
theorem zNi (I:InsFn P f st el sz by_ z) {args:List Value} {v:Value} (hr:zBh sz by_ args h=some (v,h')):zBV P f args h v h':=by
 have hnx:=zHZ hr
 intro base ρ w args' hrel wf hpre hargs
 unfold zBh at hr
 split at hr
 case h_2=>cases hr
 rename_i bs n cap i va m vc
 split at hr
 ·cases hr
 rename_i hcond
 simp only[not_or] at hcond
 obtain⟨hm0,hi0,hin⟩:=hcond
 split at hr
 ·cases hr
 rename_i news hnews
 cases hargs with
 | @cons _ s' _ rest g1 hs2 =>
 cases hs2 with
 | @cons _ i' _ rest2 g2 hs3 =>
 cases hs3 with
 | @cons _ v' _ rest3 g3 hs4 =>
 cases hs4
 cases g2
 obtain⟨Lv,av',vc',hLv,rfl,hvle,hvcc,hvaddr,hvex,hvqq⟩:=g3.slice_inv
 have hav:=hvaddr (by omega)
 subst hav
 split at hr
 ·
  rename_i hin'
  subst hin'
  obtain⟨v1',w1,ρ1,q1,q2,q3,q4,q5⟩:=zGe I hrel wf g1 g3 hm0 hnews hr hpre
  cases bs with
  | none =>
   obtain⟨rfl,rfl,rfl⟩:=g1.nilslice_inv
   refine (I.end_ none 0 0 m vc' _ v1' w w1 (by omega) (Nat.le_refl _) (fun _=>rfl) q1).mono fun e w2 hq=>?_
   obtain⟨rfl,rfl⟩:=hq
   exact⟨v1',ρ1,rfl,q2,q3,q4,q5⟩
  | some a =>
   obtain⟨L,a',c',hL,rfl,hle,hcc,haddr,hex,hqq⟩:=g1.slice_inv
   refine (I.end_ (some a') n c' m vc' _ v1' w w1 (by omega) (by omega) (fun h=>by cases h) q1).mono fun e w2 hq=>?_
   obtain⟨rfl,rfl⟩:=hq
   exact⟨v1',ρ1,rfl,q2,q3,q4,q5⟩
 ·rename_i hne
  split at hr
  ·cases hr
  rename_i a
  split at hr
  case isFalse=>cases hr
  rename_i hap
  obtain⟨k,rfl⟩:∃k:Nat,i=(k:Int):=⟨i.toNat,by omega⟩
  have hkn:k<n:=by omega
  rw[Int.toNat_natCast] at hr
  obtain⟨c,d,f0,hc,hd,hfam,hcro,hdro,hf0,hf00⟩:=zMa hap
  unfold zD1 at hr
  split at hr
  case h_2=>cases hr
  rename_i olds b1 n' cap' h1 holds happ
  split at hr
  case h_2=>cases hr
  rename_i h2 hst
  simp only[Option.some.injEq,Prod.mk.injEq] at hr
  obtain⟨rfl,rfl⟩:=hr
  obtain⟨L,a',c',hL,rfl,hle,hcc,haddr,hex,hqq⟩:=g1.slice_inv
  have ha':=haddr (by omega)
  subst ha'
  have hnext1:=zDi happ
  have hnext2:=zEO hst
  obtain⟨v1',w1,ρ1,q1,q2,q3,q4,q5⟩:=zGe I hrel wf g1 g3 hm0 hnews happ (fun A h1 h2=>hpre A h1 (by omega))
  have hLb:L.b≠Lv.b:=fun e=>by
   by_cases eb:a.block=va.block
   ·rw[eb,hd] at hc;cases hc;exact hfam rfl
   ·exact hfam (hrel.alias a.block va.block c d L Lv eb hc hd hL hLv e).1
  obtain⟨cs,T,fz,hheap,hsz,hbd,hlr,hw0⟩:=hrel.cells a.block c L hc hL
  obtain⟨hbase,hfz⟩:=hw0 hcro
  obtain⟨ds,T2,fz2,hheap2,hsz2,hbd2,hlr2,hw2⟩:=hrel.cells va.block d Lv hd hLv
  obtain⟨hbase2,hfz2⟩:=hw2 hdro
  have hmark:=hrel.mark va.block d f0 Lv hd hf0 hf00 hdro hLv ds T2 fz2 hheap2
  obtain⟨c0,hc0,hab,holds'⟩:=Heap.loadN_some holds
  rw[hc] at hc0;cases hc0
  obtain⟨d0,hd0,hdb,hnews'⟩:=Heap.loadN_some hnews
  rw[hd] at hd0;cases hd0
  obtain⟨i0,hi0',hz0,hzs,hzb⟩:=Go.info_parts I.info
  obtain⟨olds2,ho2⟩:∃l,l=(cs.toList.drop (L.o+a.off)).take (n*sz):=⟨_,rfl⟩
  obtain⟨news2,hn2⟩:∃l,l=(ds.toList.drop (Lv.o+va.off)).take (m*sz):=⟨_,rfl⟩
  have hol:LRel ρ olds olds2:=by
   have:=(hlr.drop a.off).take (n*sz)
   rw[List.drop_take,List.drop_drop,List.take_take,Nat.min_eq_left (by omega)] at this
   rw[holds',ho2];exact this
  have hnl:LRel ρ news news2:=by
   have:=(hlr2.drop va.off).take (m*sz)
   rw[List.drop_take,List.drop_drop,List.take_take,Nat.min_eq_left (by omega)] at this
   rw[hnews',hn2];exact this
  have hol2:olds2.length=n*sz:=by rw[ho2];simp;omega
  have hnl2:news2.length=m*sz:=by rw[hn2];simp;omega
  have hks:k*sz+(n - k)*sz=n*sz:=by rw[←Nat.add_mul];congr 1;omega
  have hsz0:=I.sz0
  have hms:0<m*sz:=Nat.mul_pos (by omega) (by omega)
  have hcell1:∀j v,olds2[j]?=some v→w.cell? ⟨L.b,L.o+a.off+j,none⟩=some v:=fun j v hj=>by
   rw[ho2,List.getElem?_take] at hj
   split at hj
   ·rw[List.getElem?_drop] at hj
    simp only[World.cell?,hheap]
    simpa using hj
   ·cases hj
  have hcell2:∀j v,news2[j]?=some v→w.cell? ⟨Lv.b,Lv.o+va.off+j,none⟩=some v:=fun j v hj=>by
   rw[hn2,List.getElem?_take] at hj
   split at hj
   ·rw[List.getElem?_drop] at hj
    simp only[World.cell?,hheap2]
    simpa using hj
   ·cases hj
  obtain⟨c1,f1,hc1,hro1,hlen1,hone1,hf1,_⟩:=zEP hst
  simp only[List.all_append,Bool.and_eq_true] at hone1
  have h1n:∀u∈news2,u.oneCell'=true:=zHn hnl hone1.1
  have h1o:∀u∈olds2.drop (k*sz),u.oneCell'=true:=zHn (hol.drop (k*sz)) hone1.2
  obtain⟨L1,a1',c1',hL1,rfl,hle1,hcc1,haddr1,hex1,hqq1⟩:=q5.slice_inv
  have hlr3:LRel ρ1 (news++olds.drop (k*sz)) (news2++olds2.drop (k*sz)):=LRel.mono q4.mono (hnl.append (hol.drop (k*sz)))
  obtain⟨s1,s2,s3,s4⟩:=zIj P q2 q3 (a:=⟨b1.block,b1.off+k*sz,none⟩) hL1 hst hlr3
  have hx2:=Ext.trans q3 (fun A h1 h2=>hpre A h1 (by omega)) q4 s4
  have hfrz:w.frozen? ⟨Lv.b,Lv.o+va.off,none⟩=false:=by
   simp only[World.frozen?,hheap2]
   have:=hfz2 (Lv.o+va.off) (by omega)
   simp only[Bool.and_eq_false_iff,decide_eq_false_iff_not]
   omega
  have hfrz2:w.frozen? ⟨Lv.b,ds.size,none⟩=false:=by
   simp only[World.frozen?,hheap2]
   simp only[Bool.and_eq_false_iff,decide_eq_false_iff_not]
   omega
  have hbytes:(n+m)*by_≤140737488355328:=by
   unfold Heap.append at happ
   simp only[if_neg hm0] at happ
   split at happ
   ·cases happ
   ·rename_i hb
    simp only[not_or] at hb
    unfold zj at hb
    omega
  have hby0:=I.by0
  have hsum:n+m≤140737488355328:=Nat.le_trans (Nat.le_mul_of_pos_right _ (by omega)) hbytes
  by_cases hroom:n+m≤c'
  ·
   have hspace:L.o+a.off+(n+m)*sz≤cs.size:=by
    by_cases hcap:n+m≤cap
    ·have:∃h3,h.store ⟨a.block,a.off+n*sz,none⟩ news=some h3:=by
      unfold Heap.append at happ
      simp only[if_neg hm0] at happ
      split at happ
      ·cases happ
      ·simp only[hc,if_pos hcap] at happ
       split at happ
       ·rename_i h3 e;exact⟨h3,e⟩
       ·cases happ
     obtain⟨h3,e3⟩:=this
     obtain⟨c4,_,hc4,_,hl4,_⟩:=zEP e3
     simp only at hc4 hl4
     rw[hc] at hc4;cases hc4
     have:news.length=m*sz:=by rw[hnl.length,hnl2]
     rw[Nat.add_mul];omega
    ·cases hsp:a.spot with
     | none=>have:=hex hsp;omega
     | some q =>
      have:q=sz:=by
       unfold Heap.append at happ
       simp only[if_neg hm0] at happ
       split at happ
       ·cases happ
       ·simp only[hc,if_neg hcap,hsp] at happ
        split at happ
        ·cases happ
        ·split at happ
         ·cases happ
         ·rename_i hq;simp only[not_or] at hq;omega
      subst this
      have:=hqq _ hsp
      have h5:(n+m)*q≤c'*q:=Nat.mul_le_mul_right _ hroom
      omega
   have hsplit:cs.toList=cs.toList.take (L.o+a.off)++(olds2.take (k*sz)++olds2.drop (k*sz))++(cs.toList.drop (L.o+a.off+n*sz)).take (m*sz)++cs.toList.drop (L.o+a.off+(n+m)*sz):=by
    rw[List.take_append_drop,ho2,Nat.add_mul,←Nat.add_assoc,←List.drop_drop (i:=m*sz),List.append_assoc,List.take_append_drop,←List.drop_drop (i:=n*sz),List.append_assoc,List.take_append_drop,List.take_append_drop]
   have hlA:(cs.toList.take (L.o+a.off)).length=L.o+a.off:=by simp;omega
   have hl1:(olds2.take (k*sz)).length=k*sz:=by simp;omega
   have hl2:(olds2.drop (k*sz)).length=n*sz - k*sz:=by simp[hol2]
   have hg:((cs.toList.drop (L.o+a.off+n*sz)).take (m*sz)).length=news2.length:=by rw[Nat.add_mul] at hspace;simp[hnl2];omega
   have hheq:=zNZ hheap hsplit hg
   rw[hlA,hl1,hl2,hnl2] at hheq
   have hcl:∀j,j<cs.size→(w.cell? ⟨L.b,j,none⟩).isSome=true:=fun j hj=>by
    simp only[World.cell?,hheap]
    rw[Array.getElem?_eq_getElem hj];rfl
   have hfr:∀j,j<cs.size→w.frozen? ⟨L.b,j,none⟩=false:=fun j hj=>by
    simp only[World.frozen?,hheap]
    have:=hfz j (by omega)
    simp only[Bool.and_eq_false_iff,decide_eq_false_iff_not]
    omega
   have hmul:(n+m)*sz=n*sz+m*sz:=Nat.add_mul _ _ _
   have hst1:=run_storeCells_cells (P:=P) L.b (L.o+a.off+n*sz) news2 0 w (fun j hj=>hcl _ (by omega)) (fun j hj=>hfr _ (by omega)) h1n
   have hsrc:Src P i0.size (.slice (some ⟨Lv.b,Lv.o+va.off,none⟩) m vc') m news2 w:=fun w3 hw3=>⟨rfl,by
    rw[hzs]
    refine run_firstCells_some (P:=P) w3 sz m _ m vc' news2 hnl2 fun j u hj=>?_
    rw[zAZ]
    have:=hcell2 j u hj
    simpa [World.cell?,hw3] using this⟩
   have hfit:=zDW (ty:=st) (b:=some ⟨L.b,L.o+a.off,none⟩) (len:=n) (cap:=c') I.und (.inl ⟨el,I.und⟩) hi0' hsrc hroom
   rw[q1,hzs] at hfit
   simp only[zAZ] at hfit
   rw[Nat.add_zero] at hst1
   rw[hst1] at hfit
   simp only[Result.andThen_ok,Result.ok.injEq,Value.slice.injEq,Option.some.injEq] at hfit
   obtain⟨⟨rfl,rfl,rfl⟩,rfl⟩:=hfit
   have he1:=haddr1 (by omega)
   simp only[Addr.mk.injEq,and_true] at he1
   obtain⟨he2,he3⟩:=he1
   refine (I.shift L.b (L.o+a.off) n c1' k Lv.b (Lv.o+va.off) m vc' olds2 news2 w hkn (by omega) hroom (by omega) (Ne.symm hLb) hol2 hnl2 hcell1 (fun j hj=>hcl _ (by omega)) (fun j hj=>hfr _ (by omega)) hcell2 h1o h1n T2 T ds.size cs.size (by simp[World.shape?,hheap2]) (by simp[World.shape?,hheap]) (by omega) hfrz hfrz2).mono fun e w3 hq=>?_
   obtain⟨rfl,rfl⟩:=hq
   have hE:((w.drew.setCells L.b (L.o+a.off+(k+m)*sz) (olds2.drop (k*sz))).setCells L.b (L.o+a.off+k*sz) news2).heap=((w.setCells L.b (L.o+a.off+n*sz) news2).setCells L1.b (L1.o+(b1.off+k*sz)+0) (news2++olds2.drop (k*sz))).heap:=by
    rw[show k*sz+(n*sz - k*sz)=n*sz by omega] at hheq
    rw[←he2,Nat.add_mul,show L1.o+(b1.off+k*sz)+0=L.o+a.off+k*sz by omega]
    exact hheq
   obtain⟨x1,z1,z2,z3,z4,z5,z6,z7⟩:=zAm L.b (olds2.drop (k*sz)) (L.o+a.off+(k+m)*sz) w.drew cs T fz hheap (by rw[hl2,Nat.add_mul];omega)
   have hx1:x1.size=cs.size:=by
    have:x1.toList.length=cs.toList.length:=by rw[z2,zBs (by rw[hl2,Nat.add_mul];simp;omega)]
    simpa using this
   obtain⟨x2,y1,y2,y3,y4,y5,y6,y7⟩:=zAm L.b news2 (L.o+a.off+k*sz) _ x1 T fz z1 (by omega)
   refine⟨_,ρ1,rfl,s2.swap hE,s3,hx2.swap hE ?_ ?_ ?_,q5⟩
   ·rw[y5,z5];rfl
   ·rw[y6,z6];rfl
   ·rw[y7,z7];rfl
  ·
   have hfitb:Builtin.nextslicecap (n+m) c'*i0.bytes≤281474976710656:=by rw[hzb];exact growslice_fits (by omega) hbytes
   have hold:(Builtin.firstCells i0.size n (.slice (some ⟨L.b,L.o+a.off,none⟩) n c')).run P w.drew=.ok olds2.toArray w.drew:=by
    rw[hzs]
    refine run_firstCells_some (P:=P) w.drew sz n _ n c' olds2 hol2 fun j u hj=>?_
    rw[zAZ]
    exact hcell1 j u hj
   have hsrc:Go.Src P i0.size st (.slice (some ⟨Lv.b,Lv.o+va.off,none⟩) m vc') m news2 w:=by
    rw[hzs]
    exact Go.Src.ofSlice w I.und _ m vc' news2 hnl2 (fun j u hj=>by rw[zAZ];exact hcell2 j u hj) h1n
   have hgr:=run_append_grow_src (P:=P) w st st st el i0 z I.und hi0' hz0 (some ⟨L.b,L.o+a.off,none⟩) n c' olds2 hold _ m news2 hsrc (by omega) (by omega) hfitb
   rw[q1] at hgr
   simp only[Result.ok.injEq,Value.slice.injEq,Option.some.injEq] at hgr
   obtain⟨⟨rfl,rfl,rfl⟩,rfl⟩:=hgr
   have he1:=haddr1 (by omega)
   simp only[Addr.mk.injEq,and_true] at he1
   obtain⟨he2,he3⟩:=he1
   have hcat:olds2.take (k*sz)++olds2.drop (k*sz)=olds2:=List.take_append_drop _ _
   have hl1:(olds2.take (k*sz)).length=k*sz:=by simp;omega
   have hl2:(olds2.drop (k*sz)).length=n*sz - k*sz:=by simp[hol2]
   have hz1:(Builtin.zeroCells z.cells (n+m - k)).size=news2.length+(olds2.drop (k*sz)).length:=by
    have hzl:z.cells.size=sz:=by have:=I.zlen;simpa using this
    rw[zPR,hzl,hl2,hnl2,show n+m - k=(n - k)+m by omega,Nat.add_mul]
    omega
   have hheq:=zNY (w:=w) (T:=el) (Z2:=Builtin.zeroCells z.cells (grownCap w (n+m) c' el - (n+m))) hz1 (A:=olds2.take (k*sz))
   rw[hcat,hl1,hnl2] at hheq
   refine (I.grow L.b (L.o+a.off) n c' k Lv.b (Lv.o+va.off) m vc' olds2 news2 w hkn (by omega) (by omega) (by omega) hbytes hol2 hnl2 hcell1 hcell2 h1o h1n).mono fun e w3 hq=>?_
   obtain⟨rfl,rfl⟩:=hq
   have hE:((((w.alloc (.cells ((olds2.take (k*sz)).toArray++Builtin.zeroCells z.cells (n+m - k)++Builtin.zeroCells z.cells (grownCap w (n+m) c' el - (n+m))) el)).drew.setCells w.heap.size (k*sz) news2).drew).setCells w.heap.size ((k+m)*sz) (olds2.drop (k*sz))).heap =
     ((w.drew.alloc (.cells ((olds2++news2).toArray++Builtin.zeroCells z.cells (grownCap w (n+m) c' el - (n+m))) el)).setCells L1.b (L1.o+(b1.off+k*sz)+0) (news2++olds2.drop (k*sz))).heap:=by
    rw[←he2,Nat.add_mul,show L1.o+(b1.off+k*sz)+0=k*sz by omega]
    exact hheq
   have r1:=zFp w.heap.size (olds2.drop (k*sz)) ((k+m)*sz) ((w.alloc (.cells ((olds2.take (k*sz)).toArray++Builtin.zeroCells z.cells (n+m - k)++Builtin.zeroCells z.cells (grownCap w (n+m) c' el - (n+m))) el)).drew.setCells w.heap.size (k*sz) news2).drew
   have r2:=zFp w.heap.size news2 (k*sz) (w.alloc (.cells ((olds2.take (k*sz)).toArray++Builtin.zeroCells z.cells (n+m - k)++Builtin.zeroCells z.cells (grownCap w (n+m) c' el - (n+m))) el)).drew
   refine⟨_,ρ1,rfl,s2.swap hE,s3,hx2.swap hE ?_ ?_ ?_,q5⟩
   ·rw[r1.1];exact r2.1
   ·rw[r1.2.1];exact r2.2.1
   ·rw[r1.2.2];exact r2.2.2
end
end Go.X
end
section
namespace Go.X
set_option linter.unusedVariables false
structure Keeps (W:Nat→Prop) (h h':Heap):Prop where
 next:h.next≤h'.next
 blks:∀A,A<h.next→¬W A→h'.blks.get A=h.blks.get A
 fams:∀A,A<h.next→¬W A→h'.fams.get A=h.fams.get A
def none1:Nat→Prop:=fun _=>False
section
variable {W V:Nat→Prop} {h h0 h1 h2:Heap} {A:Nat} {l:List Value}
theorem Keeps.refl:Keeps W h h:=⟨Nat.le_refl _,fun _ _ _=>rfl,fun _ _ _=>rfl⟩
theorem Keeps.mono (a:Keeps W h h1) (hW:∀A,A<h.next→W A→V A):Keeps V h h1:=⟨a.next,fun A hA hn=>a.blks A hA fun w=>hn (hW A hA w),fun A hA hn=>a.fams A hA fun w=>hn (hW A hA w)⟩
theorem Keeps.trans (a:Keeps W h h1) (b:Keeps V h1 h2) (hV:∀A,A<h.next→V A→W A):Keeps W h h2 :=
 ⟨Nat.le_trans a.next b.next,fun A hA hn=>(b.blks A (Nat.lt_of_lt_of_le hA a.next) fun v=>hn (hV A hA v)).trans (a.blks A hA hn),
  fun A hA hn=>(b.fams A (Nat.lt_of_lt_of_le hA a.next) fun v=>hn (hV A hA v)).trans (a.fams A hA hn)⟩
theorem Keeps.grows (a:Keeps W h0 h1) (hW:∀A,A<h0.next→¬W A):Grows h0 h1:=⟨a.next,fun A hA=>a.blks A hA (hW A hA),fun A hA=>a.fams A hA (hW A hA)⟩
theorem Grows.keeps (a:Grows h0 h1):Keeps W h0 h1:=⟨a.next,fun A hA _=>a.blks A hA,fun A hA _=>a.fams A hA⟩
theorem Grows.then (a:Grows h0 h1) (b:Keeps W h1 h2) (hW:∀A,A<h0.next→¬W A):Grows h0 h2:=Keeps.grows (Keeps.trans (W:=W) a.keeps b (fun _ _ w=>w)) hW
theorem Keeps.wr:Keeps (fun B=>B=A) h (h.wr A l):=⟨Nat.le_refl _,fun B _ hn=>PT.get_set_ne _ _ hn,fun B _ hn=>PT.get_set_ne _ _ hn⟩
theorem Keeps.new:Keeps W h (h.new l):=Grows.new.keeps
theorem Keeps.newB:Keeps W h (h.newB l):=Grows.newB.keeps
theorem Var.keep {B:Nat} (hv:Var h B l) (hk:Keeps W h h1) (hB:¬W B):Var h1 B l:=by
 obtain⟨h0,h2,s,n,h3⟩:=hv
 exact⟨Nat.lt_of_lt_of_le h0 hk.next,by rw[hk.blks B h0 hB];exact h2,s,n,by rw[hk.fams B h0 hB];exact h3⟩
theorem Var.grow {B:Nat} (hv:Var h B l) (hk:Grows h h1):Var h1 B l:=hv.keep (W:=none1) hk.keeps id
def Own (h:Heap) (S:Nat→Prop) (esz:Nat) (v:Value) (n:Nat) (l:List Value):Prop :=
 l.length=n*esz∧((v=.slice none 0 0∧n=0) ∨
  ∃B off sp cap c f,v=.slice (some ⟨B,off,sp⟩) n cap∧S B∧S c.fam∧B<h.next∧c.fam<h.next∧h.blks.get B=some (.cells c)∧h.fams.get c.fam=some f∧(B=f.who∨f.since≤B)∧f.since≤h.next ∧
   c.ro=false∧n≤cap∧off+cap*esz≤c.cells.length∧(c.cells.drop off).take (n*esz)=l∧(sp=none∨sp=some esz))
variable {S T:Nat→Prop} {esz n m:Nat} {v:Value} {new:List Value}
theorem Own.nil:Own h S esz (.slice none 0 0) 0 []:=⟨by simp,.inl ⟨rfl,rfl⟩⟩
theorem Own.mono (ho:Own h S esz v n l) (hS:∀A,S A→T A):Own h T esz v n l:=by
 obtain⟨h1,h2⟩:=ho
 refine⟨h1,?_⟩
 rcases h2 with h2|⟨B,off,sp,cap,c,f,a1,a2,a3,a4⟩
 ·exact .inl h2
 ·exact .inr ⟨B,off,sp,cap,c,f,a1,hS _ a2,hS _ a3,a4⟩
theorem Own.keep (ho:Own h S esz v n l) (hk:Keeps W h h1) (hW:∀A,S A→¬W A):Own h1 S esz v n l:=by
 obtain⟨h1',h2⟩:=ho
 refine⟨h1',?_⟩
 rcases h2 with h2|⟨B,off,sp,cap,c,f,a1,a2,a3,a4,a5,a6,a7,a8,a14,a9⟩
 ·exact .inl h2
 ·exact .inr ⟨B,off,sp,cap,c,f,a1,a2,a3,Nat.lt_of_lt_of_le a4 hk.next,Nat.lt_of_lt_of_le a5 hk.next,by rw[hk.blks B a4 (hW _ a2)];exact a6,by rw[hk.fams _ a5 (hW _ a3)];exact a7,a8,Nat.le_trans a14 hk.next,a9⟩
theorem Own.grow (ho:Own h S esz v n l) (hk:Grows h h1):Own h1 S esz v n l:=ho.keep (W:=none1) hk.keeps (fun _ _=>id)
theorem Own.nil_of (ho:Own h S esz v 0 l):l=[]:=by
 have:=ho.1;simp at this;exact this
theorem Own.shape (ho:Own h S esz v n l):∃a cap,v=.slice a n cap∧(n≠0→∃B off sp,a=some ⟨B,off,sp⟩∧h.loadN ⟨B,off,sp⟩ (n*esz)=some l∧∀j,j<n*esz→h.load ⟨B,off+j,none⟩=l[j]?):=by
 obtain⟨h1,⟨rfl,rfl⟩|⟨B,off,sp,cap,c,f,rfl,a2,a3,a4,a5,a6,a7,a8,a14,a9,a10,a11,a12,a13⟩⟩:=ho
 ·exact⟨none,0,rfl,fun h=>absurd rfl h⟩
 ·have hok:h.okCells B=some c:=okCells_iff.2 ⟨a6,f,a7,a8⟩
  have hle:n*esz≤cap*esz:=Nat.mul_le_mul_right _ a10
  refine⟨some ⟨B,off,sp⟩,cap,rfl,fun _=>⟨B,off,sp,rfl,?_,fun j hj=>?_⟩⟩
  ·simp only[Heap.loadN,hok,zAD]
   rw[Nat.ble_eq_true_of_le (by omega)]
   simp[a12]
  ·simp only[Heap.load,hok]
   rw[←a12,List.getElem?_take,if_pos hj,List.getElem?_drop]
theorem Own.append (ho:Own h S esz v n l) {bytes:Nat} (hm:new.length=m*esz) (hone:new.all oneC=true) (he:esz≠0) (hb:bytes≠0) (hroom:(n+m)*bytes≤zj) :
  ∃v' h',h.append esz bytes v m new=some (v',h')∧Own h' (fun A=>S A∨h.next≤A) esz v' (n+m) (l++new)∧Keeps S h h':=by
 obtain⟨h1,hv⟩:=ho
 by_cases h0:m=0
 ·subst h0
  have:new=[]:=by simpa using hm
  subst this
  refine⟨v,h,?_,?_,Keeps.refl⟩
  ·rcases hv with ⟨rfl,rfl⟩|⟨B,off,sp,cap,c,f,rfl,_⟩<;>simp[Heap.append]
  ·refine Own.mono ⟨by simpa using h1,?_⟩ (fun A hA=>Or.inl hA)
   simpa using hv
 ·have hcond:¬(esz=0∨bytes=0∨zj<(n+m)*bytes∨new.length≠m*esz∨new.all oneC=false):=by
   rw[hone];simp[he,hb,hm];omega
  rcases hv with ⟨rfl,rfl⟩|⟨B,off,sp,cap,c,f,rfl,a2,a3,a4,a5,a6,a7,a8,a14,a9,a10,a11,a12,a13⟩
  ·obtain rfl:l=[]:=by simpa using h1
   refine⟨.slice (some ⟨h.next,0,some esz⟩) (0+m) (0+m),h.new new,?_,?_,Keeps.new (l:=new)⟩
   ·unfold Heap.append
    simp only[if_neg h0]
    rw[if_neg (by simpa using hcond)]
   ·refine⟨by simpa using hm,.inr ⟨h.next,0,some esz,0+m,⟨new,h.next,0,false⟩,_,rfl,Or.inr (Nat.le_refl _),Or.inr (Nat.le_refl _),Nat.lt_succ_self _,Nat.lt_succ_self _,PT.get_set_eq _ _ _,PT.get_set_eq _ _ _,.inl rfl,Nat.zero_le _,rfl,Nat.le_refl _,?_,?_,.inr rfl⟩⟩
    ·simp[hm]
    ·simp[←hm]
  ·have hok:h.okCells B=some c:=okCells_iff.2 ⟨a6,f,a7,a8⟩
   have hle:n*esz≤cap*esz:=Nat.mul_le_mul_right _ a10
   unfold Heap.append
   simp only[if_neg h0]
   rw[if_neg hcond]
   simp only[hok]
   by_cases hc:n+m≤cap
   ·
    have hle2:(n+m)*esz≤cap*esz:=Nat.mul_le_mul_right _ hc
    rw[Nat.add_mul] at hle2
    rw[if_pos hc]
    have hst:h.store ⟨B,off+n*esz,none⟩ new=some { h with blks:=h.blks.set B (.cells { c with cells:=putN c.cells (off+n*esz) new }),fams:=h.fams.set c.fam { f with since:=h.next,who:=B } }:=by
     simp only[Heap.store,hok]
     rw[Nat.ble_eq_true_of_le (by omega),hone]
     simp[a9,a7]
    rw[hst]
    refine⟨_,_,rfl,⟨by simp[h1,hm,Nat.add_mul],.inr ⟨B,off,sp,cap,{ c with cells:=putN c.cells (off+n*esz) new },{ f with since:=h.next,who:=B },rfl,.inl a2,.inl a3,a4,a5,PT.get_set_eq _ _ _,PT.get_set_eq _ _ _,.inl rfl,Nat.le_refl _,a9,hc,?_,?_,a13⟩⟩,⟨Nat.le_refl _,?_,?_⟩⟩
    ·simp only[putN,List.length_append,List.length_take,List.length_drop];omega
    ·simp only[putN]
     rw[←a12,List.append_assoc,List.drop_append_of_le_length (by simp;omega),Nat.add_mul,List.drop_take]
     have e:off+n*esz - off=n*esz:=by omega
     rw[e]
     have e2:((c.cells.drop off).take (n*esz)).length=n*esz:=by simp;omega
     rw[List.take_append,e2]
     rw[List.take_of_length_le (by rw[e2];omega)]
     congr 1
     rw[show n*esz+m*esz - n*esz=m*esz by omega,List.take_append_of_le_length (by omega),List.take_of_length_le (by omega)]
    ·intro A _ hn;exact PT.get_set_ne _ _ fun e=>hn (e▸a2)
    ·intro A _ hn;exact PT.get_set_ne _ _ fun e=>hn (e▸a3)
   ·rw[if_neg hc,if_neg (by omega)]
    rcases a13 with rfl|rfl
    ·refine⟨_,_,rfl,⟨by simp[h1,hm,Nat.add_mul],.inr ⟨h.next,0,some esz,n+m,⟨(c.cells.drop off).take (n*esz)++new,h.next,0,false⟩,_,rfl,Or.inr (Nat.le_refl _),Or.inr (Nat.le_refl _),Nat.lt_succ_self _,Nat.lt_succ_self _,PT.get_set_eq _ _ _,PT.get_set_eq _ _ _,.inl rfl,Nat.zero_le _,rfl,Nat.le_refl _,?_,?_,.inr rfl⟩⟩,Keeps.new⟩
     ·rw[a12];simp[h1,hm,Nat.add_mul]
     ·rw[a12,List.drop_zero,List.take_of_length_le (by simp[h1,hm,Nat.add_mul])]
    ·have hro:¬((esz≠esz)∨c.ro=true):=by simp[a9]
     simp only
     rw[if_neg hro]
     simp only[a7]
     refine⟨_,_,rfl,⟨by simp[h1,hm,Nat.add_mul],.inr ⟨h.next,0,some esz,n+m,⟨(c.cells.drop off).take (n*esz)++new,c.fam,c.delta+off,false⟩,_,rfl,Or.inr (Nat.le_refl _),.inl a3,Nat.lt_succ_self _,Nat.lt_succ_of_lt a5,PT.get_set_eq _ _ _,PT.get_set_eq _ _ _,?_,?_,rfl,Nat.le_refl _,?_,?_,.inr rfl⟩⟩,⟨Nat.le_succ _,?_,?_⟩⟩
     ·split
      ·right;exact a14
      ·left;rfl
     ·split
      ·exact Nat.le_succ_of_le a14
      ·exact Nat.le_succ _
     ·rw[a12];simp[h1,hm,Nat.add_mul]
     ·rw[a12,List.drop_zero,List.take_of_length_le (by simp[h1,hm,Nat.add_mul])]
     ·intro A hA _;exact PT.get_set_ne _ _ (by omega)
     ·intro A _ hn;exact PT.get_set_ne _ _ fun e=>hn (e▸a3)
end
end Go.X
namespace Go.X
def zAH:List Value→List (Nat×Nat×Value)→Option (List Value)
 | cells,[]=>some cells
 | cells,(off,size,v)::rest=>if (zi v).length=size∧off+size≤cells.length then zAH (putN cells off (zi v)) rest else none
theorem zE6 {t:Fr}:∀ {ps:List (Nat×Nat×Operand)} {z:List Value},fill t z ps=zAH z (ps.map fun q=>(q.1,q.2.1,t.eval q.2.2))
 | [],z=>rfl
 | (o,s,x)::r,z=>by
  simp only[fill,List.map_cons,zAH]
  split
  ·exact zE6
  ·rfl
theorem p_build {t:Fr} {z:List Value} {ps:List (Nat×Nat×Operand)}:zB t (.build z ps)=aggV (zAH z (ps.map fun q=>(q.1,q.2.1,t.eval q.2.2))):=by
 simp only[zB,aggV,zE6]
 split<;>rename_i h<;>simp only[h]
def zEj (len:Nat):Option (List Value)→Option (NBlk×Mk)
 | some cs=>some (.cells cs,.slice len len none)
 | none=>none
theorem zMW {t:Fr} {z:List Value} {n:Nat} {ps:List (Nat×Nat×Operand)}:zAA t (.bslice z n ps)=zEj n (zAH z (ps.map fun q=>(q.1,q.2.1,t.eval q.2.2))):=by
 simp only[zAA,zEj,zE6]
 split<;>rename_i h<;>simp only[h]
theorem zMf {n:Nat} {cs:List Value}:zEj n (some cs)=some (.cells cs,.slice n n none):=rfl
theorem zNN {z:List Value}:zAH z []=some z:=rfl
theorem zE4 {z v:Value} (hv:zi v=[v]):zAH [z] [(0,1,v)]=some [v]:=by simp[zAH,hv,putN]
theorem fillV_uw {z:Value} {k:IntKind} {x:Nat}:zAH [z] [(0,1,uw k x)]=some [uw k x]:=zE4 rfl
def nilcV:Value→Option Value
 | .pointer (some a)=>some (.pointer (some a))
 | .func (.func f) a b=>some (.func (.func f) a b)
 | _=>none
theorem p_nilc {t:Fr} {x:Operand}:zB t (.nilc x)=nilcV (t.eval x):=by simp only[zB,nilcV];split<;>simp_all
theorem nilcV_p {a:Addr}:nilcV (.pointer (some a))=some (.pointer (some a)):=rfl
def zE3 (o:Nat):Value→Option Value
 | .pointer (some a)=>some (.pointer (some ⟨a.block,a.off+o,a.spot⟩))
 | _=>none
theorem p_faddr {t:Fr} {o:Nat} {x:Operand}:zB t (.faddr o x)=zE3 o (t.eval x):=by simp only[zB,zE3];split<;>simp_all
theorem faddrV_p {o:Nat} {a:Addr}:zE3 o (.pointer (some a))=some (.pointer (some ⟨a.block,a.off+o,a.spot⟩)):=rfl
theorem eqX_pn {a:Option Addr}:eqX .nptr (.pointer a) (.pointer none)=some a.isNone:=by simp[eqX]
end Go.X
namespace Go.X
theorem Var.store1 {h:Heap} {A i:Nat} {l:List Value} {v:Value} {sp:Option Nat} (hv:Var h A l) (hi:i<l.length) (ho:oneC v=true):h.store ⟨A,i,sp⟩ [v]=some (h.wr A (l.set i v)):=by
 rw[hv.store (vs:=[v]) (show i+1≤l.length from hi) (by simp[ho])]
 congr 2
 simp only[putN,List.length_singleton]
 rw[List.set_eq_take_append_cons_drop,if_pos hi]
 simp
end Go.X
namespace Go.X
section
variable {W S T:Nat→Prop} {h h0 h1 h2:Heap} {A:Nat} {l:List Value} {esz n m:Nat} {v:Value} {new:List Value} {t:Fr}
def zAK (esz:Nat) (v:Value) (lo hi mx:Option Value):Option Value:=match v with
 | .slice a len cap=>match zAU len cap lo hi mx with
  | some (l,e,m)=>(match a with
   | none=>some (.slice none (e - l) (m - l))
   | some a=>if a.spot=none∨a.spot=some esz then some (.slice (some ⟨a.block,a.off+l*esz,a.spot⟩) (e - l) (m - l)) else none)
  | none=>none
 | _=>none
theorem p_slc {x:Operand} {lo hi mx:Option Operand}:zB t (.slc esz x lo hi mx)=zAK esz (t.eval x) (lo.map t.eval) (hi.map t.eval) (mx.map t.eval):=by
 simp only[zB,zAK]
 cases t.eval x<;>try rfl
 simp only[zGp]
 rfl
theorem Own.from (ho:Own h S esz v n l) {j:Nat} {k:IntKind} (hj:j≤n):∃v',zAK esz v (some (.int k (j:Int))) none none=some v'∧Own h S esz v' (n - j) (l.drop (j*esz)):=by
 obtain⟨h1,hv⟩:=ho
 have hlen:(l.drop (j*esz)).length=(n - j)*esz:=by rw[List.length_drop,h1,Nat.sub_mul]
 have hb:∀cap,n≤cap→zAU n cap (some (.int k (j:Int))) none none=some (j,n,cap):=fun cap hc=>by
  simp only[zAU,zAb]
  rw[if_pos (by omega)]
  simp
 rcases hv with ⟨rfl,rfl⟩|⟨B,off,sp,cap,c,f,rfl,a2,a3,a4,a5,a6,a7,a8,a14,a9,a10,a11,a12,a13⟩
 ·obtain rfl:j=0:=by omega
  refine⟨.slice none 0 0,?_,hlen,.inl ⟨rfl,rfl⟩⟩
  simp only[zAK,hb 0 (Nat.le_refl _)]
 ·refine⟨.slice (some ⟨B,off+j*esz,sp⟩) (n - j) (cap - j),?_,hlen,.inr ⟨B,off+j*esz,sp,cap - j,c,f,rfl,a2,a3,a4,a5,a6,a7,a8,a14,a9,by omega,?_,?_,a13⟩⟩
  ·simp only[zAK,hb cap a10]
   rw[if_pos a13]
  ·have:j*esz≤cap*esz:=Nat.mul_le_mul_right _ (by omega)
   rw[Nat.sub_mul];omega
  ·rw[←a12,List.drop_take,List.drop_drop,Nat.sub_mul]
theorem Own.to (ho:Own h S esz v n l) {j:Nat} {k:IntKind} (hj:j≤n):∃v',zAK esz v none (some (.int k (j:Int))) none=some v'∧Own h S esz v' j (l.take (j*esz)):=by
 obtain⟨h1,hv⟩:=ho
 have hle:j*esz≤n*esz:=Nat.mul_le_mul_right _ hj
 have hlen:(l.take (j*esz)).length=j*esz:=by rw[List.length_take,h1];omega
 have hb:∀cap,n≤cap→zAU n cap none (some (.int k (j:Int))) none=some (0,j,cap):=fun cap hc=>by
  simp only[zAU,zAb]
  rw[if_pos (by omega)]
  simp
 rcases hv with ⟨rfl,rfl⟩|⟨B,off,sp,cap,c,f,rfl,a2,a3,a4,a5,a6,a7,a8,a14,a9,a10,a11,a12,a13⟩
 ·obtain rfl:j=0:=by omega
  refine⟨.slice none 0 0,?_,hlen,.inl ⟨rfl,rfl⟩⟩
  simp only[zAK,hb 0 (Nat.le_refl _)]
 ·refine⟨.slice (some ⟨B,off,sp⟩) j cap,?_,hlen,.inr ⟨B,off,sp,cap,c,f,rfl,a2,a3,a4,a5,a6,a7,a8,a14,a9,by omega,a11,?_,a13⟩⟩
  ·simp only[zAK,hb cap a10]
   rw[if_pos a13]
   simp
  ·rw[←a12,List.take_take,Nat.min_eq_left hle]
def zAw (h:Heap) (esz bytes:Nat) (s x:Value):Option (Value×Heap):=match x with
 | .string str=>h.append esz bytes s str.data.toList.length (zV str.data.toList)
 | .slice none n _=>if n=0 then h.append esz bytes s 0 [] else none
 | .slice (some a) n _=>if n=0 then h.append esz bytes s 0 [] else match h.loadN a (n*esz) with
  | some l=>h.append esz bytes s n l
  | none=>none
 | _=>none
theorem zNA {bytes:Nat} {s x:Operand}:effX t h (.append esz bytes s x)=zAw h esz bytes (t.eval s) (t.eval x):=by
 simp only[effX,zAw]
 cases t.eval x with
 | slice a n c =>
  cases a with
  | none=>rfl
  | some a =>
   dsimp only
   split
   ·rfl
   ·cases h.loadN a (n*esz)<;>rfl
 | _=>rfl
theorem zMb {bytes:Nat} {s:Value} {b:List UInt8}:zAw h esz bytes s (.string (zY b))=h.append esz bytes s b.length (zV b):=by simp only[zAw,zEt]
theorem Own.src (ho:Own h S esz v n l) {bytes:Nat} {s:Value}:zAw h esz bytes s v=h.append esz bytes s n l:=by
 obtain⟨a,cap,rfl,hs⟩:=ho.shape
 by_cases h0:n=0
 ·subst h0
  obtain rfl:=ho.nil_of
  cases a<;>simp[zAw]
 ·obtain⟨B,off,sp,rfl,h1,_⟩:=hs h0
  simp only[zAw]
  rw[if_neg h0]
  simp only[h1]
theorem Var.src (hv:Var h A l) {bytes:Nat} {s:Value} (hl:l.length=n*esz) (h0:n≠0) {sp:Option Nat} {c:Nat}:zAw h esz bytes s (.slice (some ⟨A,0,sp⟩) n c)=h.append esz bytes s n l:=by
 simp only[zAw]
 rw[if_neg h0]
 have:=hv.loadAll hl (sp:=sp)
 simp only[this]
theorem Var.own (hv:Var h A l) (hf:∀s n,h.fams.get A=some ⟨s,A,n⟩→s≤h.next) (hS:S A) (hl:l.length=n*esz):Own h S esz (.slice (some ⟨A,0,none⟩) n n) n l:=by
 obtain⟨h1,h2,s,k,h3⟩:=hv
 exact⟨hl,.inr ⟨A,0,none,n,⟨l,A,0,false⟩,_,rfl,hS,hS,h1,h1,h2,h3,.inl rfl,hf s k h3,rfl,Nat.le_refl _,by simp[hl],by simp[←hl],.inl rfl⟩⟩
end
theorem zDn {a b:List UInt8}:zV (a++b)=zV a++zV b:=by simp[zV]
theorem zEp {a:List UInt8}:(zV a).length=a.length:=by simp[zV]
theorem zG2 {a:List UInt8} {n:Nat}:(zV a).drop n=zV (a.drop n):=by simp[zV,List.map_drop]
theorem zG3 {a:List UInt8} {n:Nat}:(zV a).take n=zV (a.take n):=by simp[zV,List.map_take]
theorem zC1 {x:Nat}:zV [UInt8.ofNat x]=[uw .u8 x]:=by simp[zV,uw,zFw]
theorem zG1 {a:List UInt8}:(zV a).all oneC=true:=by
 rw[List.all_eq_true];intro v hv
 obtain⟨x,_,rfl⟩:=List.mem_map.1 hv
 rfl
end Go.X
namespace Go.X
theorem zG4 {l:List Value}:zi (.agg l.toArray)=l:=by simp[zi]
end Go.X
namespace Go.X
theorem Own.cell {h:Heap} {S:Nat→Prop} {esz n:Nat} {v:Value} {l:List Value} (ho:Own h S esz v n l):zi v=[v]:=by
 obtain⟨a,c,rfl,_⟩:=ho.shape;rfl
theorem Own.one {h:Heap} {S:Nat→Prop} {esz n:Nat} {v:Value} {l:List Value} (ho:Own h S esz v n l):oneC v=true:=by
 obtain⟨a,c,rfl,_⟩:=ho.shape;rfl
theorem Own.lenV {h:Heap} {S:Nat→Prop} {esz n:Nat} {v:Value} {l:List Value} (ho:Own h S esz v n l):lenVV v=some (.int .i64 n):=by
 obtain⟨a,c,rfl,_⟩:=ho.shape;rfl
theorem Own.store {h h1:Heap} {S:Nat→Prop} {esz n D i:Nat} {v:Value} {l m:List Value} (ho:Own h S esz v n l) (hD:Var h1 D m) (hi:i<m.length):zAt h1 1 (.pointer (some ⟨D,i,none⟩)) v=some (.tuple #[],h1.wr D (m.set i v)):=by
 rw[zW ho.cell,hD.store1 hi ho.one];rfl
end Go.X
namespace Go.X
section
variable {h:Heap} {S:Nat→Prop} {n:Nat} {v:Value} {t:Fr}
def zDz (n:Nat):Value→Value→Option Value
 | .agg cs,.int _ i=>if 0≤i∧i<n then cs.toList[i.toNat]? else none
 | _,_=>none
theorem p_idxA1 {x i:Operand}:zB t (.idxA1 n x i)=zDz n (t.eval x) (t.eval i):=by
 simp only[zB,zDz];split<;>simp_all
theorem zNb {l:List Value} {k:IntKind} {i:Nat} (hi:i<n):zDz n (.agg l.toArray) (.int k (i:Int))=l[i]?:=by
 simp only[zDz];rw[if_pos (by omega)];simp
def zCR (h:Heap):Value→Option Value
 | .slice none _ _=>some (.string (zY []))
 | .slice (some a) len _=>if len=0 then some (.string (zY [])) else match h.loadN a len with
  | some l=>(match zAz l with|some bs=>some (.string (zY bs))|none=>none)
  | none=>none
 | _=>none
theorem r_cb2sV {x:Operand}:zh t h (.cb2s x)=zCR h (t.eval x):=by
 simp only[zh,zCR]
 cases t.eval x with
 | slice a n c =>
  cases a with
  | none=>rfl
  | some a =>
   dsimp only
   split
   ·rfl
   ·cases h.loadN a n with
    | none=>rfl
    | some l=>dsimp only;cases zAz l<;>rfl
 | _=>rfl
theorem zGq:∀l:List UInt8,zAz (zV l)=some l
 | []=>rfl
 | b::l=>by
  have:=zGq l
  unfold zV at this ⊢
  simp[zAz,this]
theorem Own.cb2s {b:List UInt8} (ho:Own h S 1 v n (zV b)):zCR h v=some (.string (zY b)):=by
 obtain⟨a,cap,rfl,hs⟩:=ho.shape
 by_cases h0:n=0
 ·subst h0
  have:=ho.nil_of
  obtain rfl:b=[]:=by cases b with|nil=>rfl|cons x b=>simp[zV] at this
  cases a<;>simp[zCR]
 ·obtain⟨B,off,sp,rfl,h1,_⟩:=hs h0
  simp only[zCR]
  rw[if_neg h0]
  rw[Nat.mul_one] at h1
  simp only[h1,zGq]
theorem rem_nat {k:IntKind} {a b:Nat} (hb:b≠0):binX .rem (.int k (a:Int)) (.int k (b:Int))=some (.int k ((a % b:Nat):Int)):=by
 rw[bin_rem (by omega),Int.ofNat_tmod]
end
end Go.X
namespace Go.X
theorem zNM {z:Value} {k:IntKind} {x:Int}:zAH [z] [(0,1,.int k x)]=some [.int k x]:=zE4 rfl
theorem zNO {z:Value} {x:ByteArray}:zAH [z] [(0,1,.string x)]=some [.string x]:=zE4 rfl
end Go.X
namespace Go.X
section
variable {S:Nat→Prop} {h:Heap} {esz n:Nat} {v:Value} {l:List Value}
theorem Own.bound (ho:Own h S esz v n l):Own h (fun A=>S A∧A<h.next) esz v n l:=by
 obtain⟨h1,h2⟩:=ho
 refine⟨h1,?_⟩
 rcases h2 with h2|⟨B,off,sp,cap,c,f,a1,a2,a3,a4,a5,a6⟩
 ·exact .inl h2
 ·exact .inr ⟨B,off,sp,cap,c,f,a1,⟨a2,a4⟩,⟨a3,a5⟩,a4,a5,a6⟩
theorem Own.both (ho:Own h S esz v n l) {i j:Nat} {k k':IntKind} (hi:i≤j) (hj:j≤n):∃v',zAK esz v (some (.int k (i:Int))) (some (.int k' (j:Int))) none=some v'∧Own h S esz v' (j - i) ((l.drop (i*esz)).take ((j - i)*esz)):=by
 obtain⟨v1,e1,o1⟩:=ho.from (j:=i) (k:=k) (by omega)
 obtain⟨v2,e2,o2⟩:=o1.to (j:=j - i) (k:=k') (by omega)
 refine⟨v2,?_,o2⟩
 obtain⟨a,cap,rfl,hs⟩:=ho.shape
 have hc:n≤cap∨(a=none∧n=0∧cap=0):=by
  rcases ho.2 with ⟨q,rfl⟩|⟨B,off,sp,cap',c,f,q,a2,a3,a4,a5,a6,a7,a8,a14,a9,a10,a11⟩
  ·cases q;exact .inr ⟨rfl,rfl,rfl⟩
  ·cases q;exact .inl a10
 have hn:n≤cap:=by rcases hc with h|⟨_,rfl,rfl⟩<;>omega
 have b1:zAU n cap (some (.int k (i:Int))) none none=some (i,n,cap):=by
  simp only[zAU,zAb];rw[if_pos (by omega)];simp
 have b2:zAU n cap (some (.int k (i:Int))) (some (.int k' (j:Int))) none=some (i,j,cap):=by
  simp only[zAU,zAb];rw[if_pos (by omega)];simp only;rw[if_pos (by omega)];simp
 have b3:zAU (n - i) (cap - i) none (some (.int k' ((j - i:Nat):Int))) none=some (0,j - i,cap - i):=by
  simp only[zAU,zAb];rw[if_pos (by omega)];simp
 simp only[zAK,b1] at e1
 simp only[zAK,b2]
 cases a with
 | none =>
  cases e1
  simp only[zAK,b3] at e2
  cases e2;simp
 | some a =>
  dsimp only at e1 ⊢
  by_cases hsp:a.spot=none∨a.spot=some esz
  ·rw[if_pos hsp] at e1 ⊢
   cases e1
   simp only[zAK,b3] at e2
   rw[if_pos hsp] at e2
   cases e2;simp
  ·rw[if_neg hsp] at e1;cases e1
theorem Own.newSlice {sp:Option Nat} (hl:l.length=n*esz) (hsp:sp=none∨sp=some esz):Own (h.new l) (fun A=>A=h.next) esz (.slice (some ⟨h.next,0,sp⟩) n n) n l :=
 ⟨hl,.inr ⟨h.next,0,sp,n,⟨l,h.next,0,false⟩,⟨0,h.next,l.length⟩,rfl,rfl,rfl,Nat.lt_succ_self _,Nat.lt_succ_self _,PT.get_set_eq _ _ _,PT.get_set_eq _ _ _,.inl rfl,Nat.zero_le _,rfl,Nat.le_refl _,by simp[hl],by simp[←hl],hsp⟩⟩
theorem Own.newB {sp:Option Nat} (hl:l.length=n*esz) (hsp:sp=none∨sp=some esz):Own (h.newB l) (fun A=>A=h.next) esz (.slice (some ⟨h.next,0,sp⟩) n n) n l :=
 ⟨hl,.inr ⟨h.next,0,sp,n,⟨l,h.next,0,false⟩,⟨h.next+1,h.next,l.length⟩,rfl,rfl,rfl,Nat.lt_succ_self _,Nat.lt_succ_self _,PT.get_set_eq _ _ _,PT.get_set_eq _ _ _,.inl rfl,Nat.le_refl _,rfl,Nat.le_refl _,by simp[hl],by simp[←hl],hsp⟩⟩
end
theorem zMl {b:List UInt8} {i:Nat} (hi:i<b.length):(zV b)[i]?=some (uw .u8 (b.getD i 0).toNat):=by
 simp only[zV,List.getElem?_map,List.getElem?_eq_getElem hi,Option.map_some,List.getD_eq_getElem?_getD,Option.getD_some,uw,zFw]
 have:=(b[i]).toNat_lt
 rw[Nat.mod_eq_of_lt (by simpa using this)]
end Go.X
namespace Go.X
def extV (i:Nat):Value→Option Value|.tuple vs=>vs.toList[i]?|_=>none
theorem p_ext {t:Fr} {x:Operand} {i:Nat}:zB t (.ext x i)=extV i (t.eval x):=by simp only[zB,extV];split<;>simp_all
theorem extV_20 {a b:Value}:extV 0 (.tuple #[a,b])=some a:=rfl
theorem extV_21 {a b:Value}:extV 1 (.tuple #[a,b])=some b:=rfl
theorem extV_30 {a b c:Value}:extV 0 (.tuple #[a,b,c])=some a:=rfl
theorem extV_31 {a b c:Value}:extV 1 (.tuple #[a,b,c])=some b:=rfl
theorem extV_32 {a b c:Value}:extV 2 (.tuple #[a,b,c])=some c:=rfl
end Go.X
end
section
namespace Go.X
set_option linter.unusedVariables false
def chkd (full:List XO):List (Nat×Nat×List Nat)→List (Fr×Heap)→Nat→Prop
 | [],_,_=>True
 | c::cs,tr,i=>(if (c.1=i∧c.2.1≤i)∨(c.2.1=i∧c.1≤i) then zAG full tr.reverse c.1 c.2.1 c.2.2=true else True)∧chkd full cs tr i
theorem chkd_nil {full:List XO} {tr:List (Fr×Heap)} {i:Nat}:chkd full [] tr i=True:=rfl
theorem zMu {full:List XO} {tr:List (Fr×Heap)} {i:Nat} {c:Nat×Nat×List Nat} {cs:List (Nat×Nat×List Nat)}:chkd full (c::cs) tr i=((if (c.1=i∧c.2.1≤i)∨(c.2.1=i∧c.1≤i) then zAG full tr.reverse c.1 c.2.1 c.2.2=true else True)∧chkd full cs tr i):=rfl
def wpd (pr:Prog) (full:List XO) (cs:List (Nat×Nat×List Nat)):Nat→List (Fr×Heap)→List XO→(Fr→Heap→Prop)→Fr→Heap→Prop
 | i,tr,[],K,t,h=>chkd full cs ((t,h)::tr) i∧K t h
 | i,tr,x::l,K,t,h=>chkd full cs ((t,h)::tr) i∧∃r,zm (cfi pr) t h x=some r∧wpd pr full cs (i+1) ((t,h)::tr) l K (t.put x.dst r.1) r.2
section
variable {pr:Prog} {full:List XO} {cs:List (Nat×Nat×List Nat)} {i:Nat} {tr:List (Fr×Heap)} {K:Fr→Heap→Prop} {t:Fr} {h:Heap}
theorem wpd_nil:wpd pr full cs i tr [] K t h=(chkd full cs ((t,h)::tr) i∧K t h):=rfl
theorem wpd_cons {x:XO} {l:List XO}:wpd pr full cs i tr (x::l) K t h=(chkd full cs ((t,h)::tr) i∧∃r,zm (cfi pr) t h x=some r∧wpd pr full cs (i+1) ((t,h)::tr) l K (t.put x.dst r.1) r.2):=rfl
theorem zMr {l:List XO} {p q:List (Fr×Heap)} {j k:Nat} (hc:zAG l p j k []=true):zAG l (p++q) j k []=true:=by
 unfold zAG at *
 split at hc
 ·rename_i o t h t' h' h1 h2 h3
  have e2:(p++q)[j]?=some (t,h):=by rw[List.getElem?_append_left (List.getElem?_eq_some_iff.1 h2).1];exact h2
  have e3:(p++q)[k]?=some (t',h'):=by rw[List.getElem?_append_left (List.getElem?_eq_some_iff.1 h3).1];exact h3
  rw[h1,e2,e3]
  exact hc
 ·cases hc
theorem zEr {c:Nat×Nat×List Nat}:∀ {cs:List (Nat×Nat×List Nat)},chkd full cs tr i→c∈cs→(c.1=i∧c.2.1≤i)∨(c.2.1=i∧c.1≤i)→zAG full tr.reverse c.1 c.2.1 c.2.2=true
 | [],_,hm,_=>by simp at hm
 | d::cs,⟨h1,h2⟩,hm,hi=>by
  rcases List.mem_cons.1 hm with rfl|hm
  ·rw[if_pos hi] at h1;exact h1
  ·exact zEr h2 hm hi
theorem zIv (hp:cs.all (fun c=>c.2.2.isEmpty)=true):∀ {l:List XO} {i:Nat} {tr:List (Fr×Heap)} {t:Fr} {h:Heap},tr.length=i→wpd pr full cs i tr l K t h →
  ∃tr2 t' h',opsT (cfi pr) l t h=some tr2∧tr2.getLast?=some (t',h')∧K t' h'∧tr2.length=l.length+1 ∧
   ∀c∈cs,i≤max c.1 c.2.1→max c.1 c.2.1≤i+l.length→zAG full (tr.reverse++tr2) c.1 c.2.1 c.2.2=true
 | [],i,tr,t,h,hi,⟨h1,h2⟩=>by
  refine⟨[(t,h)],t,h,rfl,rfl,h2,rfl,fun c hc g1 g2=>?_⟩
  have:=zEr h1 hc (by simp at g2;omega)
  simpa using this
 | x::l,i,tr,t,h,hi,⟨h1,r,h2,h3⟩=>by
  obtain⟨tr2,t',h',a1,a2,a3,a4,a5⟩:=zIv hp (i:=i+1) (tr:=(t,h)::tr) (by simp[hi]) h3
  refine⟨(t,h)::tr2,t',h',?_,?_,a3,by simp[a4],fun c hc g1 g2=>?_⟩
  ·obtain⟨v,h4⟩:=r
   simp only[opsT,h2]
   simp only at a1
   rw[a1]
  ·cases tr2 with
   | nil=>simp at a4
   | cons q tr2=>simpa using a2
  ·by_cases hk:max c.1 c.2.1=i
   ·have hpc:c.2.2=[]:=by
     rw[List.all_eq_true] at hp
     simpa using hp c hc
    have:=zEr h1 hc (by omega)
    rw[hpc] at this ⊢
    have h5:=zMr (q:=tr2) this
    simpa using h5
   ·have:=a5 c hc (by omega) (by simp at g2 ⊢;omega)
    simpa using this
def inAll (n:Nat) (cs:List (Nat×Nat×List Nat)):Bool:=cs.all fun c=>c.2.2.isEmpty&&(Nat.ble c.1 n&&Nat.ble c.2.1 n)
theorem zM {k:List KI} {Q:XE→Fr→Heap→Prop} {l:List XO} (hp:inAll l.length cs=true) (hw:wpd pr l cs 0 [] l (kont pr k Q) t h):wpk pr (.draw l cs) k Q t h:=by
 unfold inAll at hp
 have hp1:cs.all (fun c=>c.2.2.isEmpty)=true:=by
  rw[List.all_eq_true] at hp ⊢
  intro c hc
  have:=hp c hc
  simp only[Bool.and_eq_true] at this
  exact this.1
 obtain⟨tr,t',h',h1,h2,h3,h4,h5⟩:=zIv hp1 (i:=0) (tr:=[]) rfl hw
 obtain⟨n,hn⟩:=zEB h1
 refine⟨.normal,t',h',⟨n+1,?_⟩,h3.out⟩
 have hchk:zAN l tr cs=true:=by
  unfold zAN
  rw[List.all_eq_true]
  intro c hc
  rw[List.all_eq_true] at hp
  have:=hp c hc
  simp only[Bool.and_eq_true] at this
  have b1:=Nat.le_of_ble_eq_true this.2.1
  have b2:=Nat.le_of_ble_eq_true this.2.2
  have:=h5 c hc (by omega) (by omega)
  simpa using this
 simp only[run,hn n (Nat.le_refl n),hchk,cond_true,h2]
theorem zMs {l:List XO} {tr:List (Fr×Heap)} {j k:Nat} {d:Option Nat} {op:ROp} {t t':Fr} {h h':Heap} {v:Value}
  (h1:l[j]?=some ⟨d,.r op,none⟩) (h2:tr[j]?=some (t,h)) (h3:tr[k]?=some (t',h')) (h4:zh t h op=some v) (h5:zh t h' op=some v):zAG l tr j k []=true:=by
 unfold zAG
 rw[h1,h2,h3]
 simp only[zAf,h4,h5,zEM,Bool.or_true]
end
end Go.X
namespace Go.X
theorem zDq {l:List XO} {tr:List (Fr×Heap)} {j k:Nat} {d:Option Nat} {op:ROp} {t t':Fr} {h h':Heap}
  (h1:l[j]?=some ⟨d,.r op,none⟩) (h2:tr[j]?=some (t,h)) (h3:tr[k]?=some (t',h')) (h4:(zh t h op).isSome=true) (h5:zh t h' op=zh t h op):zAG l tr j k []=true:=by
 obtain⟨v,hv⟩:=Option.isSome_iff_exists.1 h4
 exact zMs h1 h2 h3 hv (by rw[h5,hv])
end Go.X
end
section
namespace Go.X
set_option linter.unusedVariables false
section
variable {S:Nat→Prop} {h:Heap} {n:Nat} {v:Value} {l:List Value}
end
theorem zIo (x:UInt8):uw .u8 x.toNat=.int .u8 x.toNat:=by
 unfold uw
 rw[zFw,Nat.mod_eq_of_lt (by simpa using x.toNat_lt)]
end Go.X
namespace Go.X
def idxSV:Value→Value→Option Value
 | .string s,.int _ i=>if 0≤i then (match s.data.toList[i.toNat]? with|some b=>some (.int .u8 b.toNat)|none=>none) else none
 | _,_=>none
theorem p_idxS {t:Fr} {x i:Operand}:zB t (.idxS x i)=idxSV (t.eval x) (t.eval i):=by
 simp only[zB,idxSV]
 cases t.eval x<;>try rfl
theorem zHW {s:List UInt8} {k:IntKind} {i:Nat} (hi:i<s.length):idxSV (.string (zY s)) (.int k (i:Int))=some (uw .u8 (s.getD i 0).toNat):=by
 simp only[idxSV,zEt]
 rw[if_pos (by omega)]
 simp only[Int.toNat_natCast,List.getElem?_eq_getElem hi,zIo,List.getD_eq_getElem?_getD,Option.getD_some]
end Go.X
namespace Go.X
def wantV (v:Value) (w:Bool):Bool:=match v with|.bool b=>b==w|_=>false
theorem zOc {t:Fr} {s:Nat} {w:Bool}:zq t (some (s,w))=wantV (t.get s) w:=by
 simp only[zq,wantV];split<;>simp_all
theorem wantV_t {b:Bool}:wantV (.bool b) true=b:=by cases b<;>rfl
theorem wantV_f {b:Bool}:wantV (.bool b) false=!b:=by cases b<;>rfl
end Go.X
namespace Go.X
section
variable {s:List UInt8} {n m:Nat} {k k':IntKind}
end
end Go.X
namespace Go.X
abbrev E3 (a b:List XO):Prop:=(∀ (pr:Prog) (K:Fr→Heap→Prop) (t:Fr) (h:Heap),wpo pr a K t h=wpo pr b K t h)∧(∀ (pr:Prog) (K:Fr→Heap→Prop) (t:Fr) (h:Heap),wps pr a K t h=wps pr b K t h) ∧
 ∀ (pr:Prog) (u:List XO) (c:List (Nat×Nat×List Nat)) (i:Nat) (r:List (Fr×Heap)) (K:Fr→Heap→Prop) (t:Fr) (h:Heap),wpd pr u c i r a K t h=wpd pr u c i r b K t h
theorem E3.rfl {a:List XO}:E3 a a:=⟨fun _ _ _ _=>Eq.refl _,fun _ _ _ _=>Eq.refl _,fun _ _ _ _ _ _ _ _=>Eq.refl _⟩
end Go.X
end
section
namespace Go.X
set_option linter.unusedVariables false
section
variable {S:Nat→Prop} {h g:Heap} {n m sz bytes:Nat} {v:Value} {l lit:List Value}
theorem Own.putAt (ho:Own h S sz v n l) (h0:n≠0) {k:Nat} {vs:List Value} (hk:k+vs.length≤n*sz) (hone:vs.all oneC=true):∃B off sp cap h',v=.slice (some ⟨B,off,sp⟩) n cap∧h.store ⟨B,off+k,none⟩ vs=some h'∧Own h' S sz v n (putN l k vs)∧Keeps S h h':=by
 obtain⟨h1,hv⟩:=ho
 rcases hv with ⟨rfl,rfl⟩|⟨B,off,sp,cap,c,f,rfl,a2,a3,a4,a5,a6,a7,a8,a14,a9,a10,a11,a12,a13⟩
 ·exact absurd rfl h0
 ·have hok:h.okCells B=some c:=okCells_iff.2 ⟨a6,f,a7,a8⟩
  have hnc:n*sz≤cap*sz:=Nat.mul_le_mul_right _ a10
  have hst:h.store ⟨B,off+k,none⟩ vs=some { h with blks:=h.blks.set B (.cells { c with cells:=putN c.cells (off+k) vs }),fams:=h.fams.set c.fam { f with since:=h.next,who:=B } }:=by
   simp only[Heap.store,hok]
   rw[Nat.ble_eq_true_of_le (show off+k+vs.length≤c.cells.length by omega)]
   simp[a9,a7,hone]
  refine⟨B,off,sp,cap,_,rfl,hst,⟨?_,.inr ⟨B,off,sp,cap,{ c with cells:=putN c.cells (off+k) vs },{ f with since:=h.next,who:=B },rfl,a2,a3,a4,a5,PT.get_set_eq _ _ _,PT.get_set_eq _ _ _,.inl rfl,Nat.le_refl _,a9,a10,?_,?_,a13⟩⟩,⟨Nat.le_refl _,?_,?_⟩⟩
  ·rw[zBs (by omega)];exact h1
  ·rw[zBs (by omega)];exact a11
  ·show ((putN c.cells (off+k) vs).drop off).take (n*sz)=_
   rw[zEw (by omega) (by omega),a12]
  ·intro A _ hn;exact PT.get_set_ne _ _ fun e=>hn (e▸a2)
  ·intro A _ hn;exact PT.get_set_ne _ _ fun e=>hn (e▸a3)
theorem putN_mid {a b c:List Value}:putN (a++b++c) a.length (c++b)=a++c++b:=by
 have:=zBr (l:=a++b++c) (a:=a) (b:=b++c) (c:=[]) a.length (by simp) rfl (vs:=c++b) (by simp;omega)
 simpa using this
theorem Own.insert (ho:Own g S sz v n l) (hlit:lit.length=m*sz) (hm:m≠0) (hone:lit.all oneC=true) (hlone:l.all oneC=true) (hsz:sz≠0) (hby:bytes≠0) (hroom:(n+m)*bytes≤zj) {i:Nat} (hi:i≤n) :
  ∃v' h',zBh sz bytes [v,.int .i64 (i:Int),.slice (some ⟨g.next,0,none⟩) m m] (g.new lit)=some (v',h')∧Own h' (fun A=>S A∨g.next<A) sz v' (n+m) (l.take (i*sz)++lit++l.drop (i*sz))∧Keeps S (g.new lit) h':=by
 have hV:Var (g.new lit) g.next lit:=Var.new_self
 have hO:=ho.grow (Grows.new (l:=lit))
 have hll:l.length=n*sz:=ho.1
 obtain⟨v1,h1,e1,hO1,k1⟩:=hO.append (bytes:=bytes) (m:=m) (new:=lit) hlit hone hsz hby hroom
 have hld:(g.new lit).loadN ⟨g.next,0,none⟩ (m*sz)=some lit:=hV.loadAll hlit
 have hmono:∀A,(S A∨(g.new lit).next≤A)→(S A∨g.next<A):=fun A hA=>hA.imp id fun q=>by
  have:(g.new lit).next=g.next+1:=rfl
  omega
 obtain⟨b,cap,hv,hsh⟩:=hO.shape
 have hcond:¬(m=0∨(i:Int)<0∨(n:Int)<(i:Int)):=by omega
 by_cases hin:i=n
 ·subst hin
  refine⟨v1,h1,?_,?_,k1⟩
  ·rw[hv] at e1 ⊢
   simp only[zBh]
   rw[if_neg hcond,hld]
   simp only[if_true]
   exact e1
  ·rw[List.take_of_length_le (by omega),List.drop_of_length_le (by omega),List.append_nil]
   exact hO1.mono hmono
 ·have hn0:n≠0:=by omega
  obtain⟨B,off,sp,rfl,hl1,_⟩:=hsh hn0
  have hmul:(n+m)*sz=n*sz+m*sz:=Nat.add_mul _ _ _
  have his:i*sz≤n*sz:=Nat.mul_le_mul_right _ hi
  obtain⟨B1,off1,sp1,cap1,h2,rfl,st,hO2,k2⟩:=hO1.putAt (by omega) (k:=i*sz) (vs:=lit++l.drop (i*sz)) (by simp only[List.length_append,List.length_drop];omega) (by
   rw[List.all_append,hone,Bool.true_and,List.all_eq_true]
   intro x hx
   exact List.all_eq_true.1 hlone x (List.mem_of_mem_drop hx))
  have hap:zCy (g.new lit) ⟨B,off,sp⟩ ⟨g.next,0,none⟩=true:=by
   obtain⟨_,hv2⟩:=ho
   rcases hv2 with ⟨e,rfl⟩|⟨B2,off2,sp2,cap2,c,f,e,a2,a3,a4,a5,a6,a7,a8,a14,a9,a10,a11,a12,a13⟩
   ·exact absurd rfl hn0
   ·rw[hv] at e
    cases e
    have hok:(g.new lit).okCells B=some c:=by
     refine okCells_iff.2 ⟨?_,f,?_,a8⟩
     ·rw[←a6];exact PT.get_set_ne _ _ (by omega)
     ·rw[←a7];exact PT.get_set_ne _ _ (by omega)
    have hok2:(g.new lit).okCells g.next=some ⟨lit,g.next,0,false⟩:=okCells_iff.2 ⟨PT.get_set_eq _ _ _,⟨0,g.next,lit.length⟩,PT.get_set_eq _ _ _,.inl rfl⟩
    have hf2:(g.new lit).fams.get g.next=some ⟨0,g.next,lit.length⟩:=PT.get_set_eq _ _ _
    have hne:c.fam.beq g.next=false:=by
     cases hb:c.fam.beq g.next with
     | false=>rfl
     | true=>have:=Nat.eq_of_beq_eq_true hb;omega
    simp only[zCy,hok,hok2,hf2,a9,hne]
    rfl
  refine⟨.slice (some ⟨B1,off1,sp1⟩) (n+m) cap1,h2,?_,?_,(k1.trans k2 fun A hA q=>?_)⟩
  ·rw[hv] at e1 ⊢
   simp only[zBh]
   rw[if_neg hcond,hld]
   simp only
   rw[if_neg (by omega),if_pos hap,Int.toNat_natCast]
   simp only[zD1,hl1,e1,st]
  ·have e:putN (l++lit) (i*sz) (lit++l.drop (i*sz))=l.take (i*sz)++lit++l.drop (i*sz):=by
    have h3:(l.take (i*sz)).length=i*sz:=by simp;omega
    have:=putN_mid (a:=l.take (i*sz)) (b:=l.drop (i*sz)) (c:=lit)
    rw[List.take_append_drop,h3] at this
    exact this
   rw[e] at hO2
   exact hO2.mono hmono
  ·rcases q with q|q
   ·exact q
   ·omega
end
end Go.X
end
section
namespace Go.X
def lemS:=PLift.up (And.intro (And.intro (And.intro (And.intro (And.intro (And.intro (@zOQ) (@zOc)) (And.intro (@wantV_t) (@wantV_f))) (And.intro (And.intro (@p_idxS) (@p_ext)) (And.intro (@extV_20) (And.intro (@extV_21) (@extV_30))))) (And.intro (And.intro (And.intro (@extV_31) (@extV_32)) (And.intro (@p_nilc) (@nilcV_p))) (And.intro (And.intro (@p_faddr) (@faddrV_p)) (And.intro (@wpd_cons) (And.intro (@wpd_nil) (@zMu)))))) (And.intro (And.intro (And.intro (And.intro (@chkd_nil) (@wpo_cons)) (And.intro (@wpo_nil) (@wps_cons))) (And.intro (And.intro (@wps_nil) (@zOS)) (And.intro (@stepO_p) (And.intro (@stepO_r) (@zON))))) (And.intro (And.intro (And.intro (@p_mov) (@p_lenS)) (And.intro (@p_lenV) (@p_bin))) (And.intro (And.intro (@p_un) (@p_cint)) (And.intro (@p_pick) (And.intro (@p_eql) (@zOg))))))) (And.intro (And.intro (And.intro (And.intro (And.intro (@zEN) (@some_ex2)) (And.intro (@put_some) (@put_none))) (And.intro (And.intro (@zNK) (@eval_tmp)) (And.intro (@get_put) (And.intro (@lenSV_s) (@lenVV_s))))) (And.intro (And.intro (And.intro (@pickV_b) (@zND)) (And.intro (@eqX_s) (@eqX_i))) (And.intro (And.intro (@eqX_b) (@zGk)) (And.intro (@zGn) (And.intro (@zGl) (@bin_lss)))))) (And.intro (And.intro (And.intro (And.intro (@bin_leq) (@bin_gtr)) (And.intro (@bin_geq) (@un_not))) (And.intro (And.intro (@un_neg) (@zEt)) (And.intro (@ifB_bool) (And.intro (@ifB_t) (@ifB_f))))) (And.intro (And.intro (And.intro (@p_slcS) (@res_tmpE)) (And.intro (@res_twoE) (@zN6))) (And.intro (And.intro (@zN4) (@eval_C)) (And.intro (@eval_T) (And.intro (@imp_t) (@imp_f))))))))
def lemH:=PLift.up (And.intro (And.intro (And.intro (And.intro (And.intro (@zNM) (@zNO)) (And.intro (@r_cb2sV) (@p_idxA1))) (And.intro (And.intro (@zG4) (@zNA)) (And.intro (@zMb) (And.intro (@p_slc) (@stepO_a))))) (And.intro (And.intro (And.intro (@stepO_e) (And.intro (@zNs) (@zNr))) (And.intro (@al_alloc) (@al_box))) (And.intro (And.intro (@al_cs2b) (@cs2bV_s)) (And.intro (@val_ptr) (And.intro (@zOb) (@zM8)))))) (And.intro (And.intro (And.intro (And.intro (@e_storeV) (@zDo)) (And.intro (@zMp) (@zMq))) (And.intro (And.intro (@zMo) (@zDS)) (And.intro (@zDG) (And.intro (@zDT) (@zDH))))) (And.intro (And.intro (And.intro (@zCM) (@p_iaddrA)) (And.intro (@wr_next) (And.intro (@new_next) (@zNu)))) (And.intro (And.intro (@p_build) (@zMW)) (And.intro (@zMf) (And.intro (@zNN) (@fillV_uw)))))))
def lemW:=PLift.up (And.intro (And.intro (And.intro (And.intro (And.intro (@add_u8) (@mul_u8)) (And.intro (@xor_u8) (@and_u8))) (And.intro (And.intro (@or_u8) (@shl_u8)) (And.intro (@shr_u8) (And.intro (@com_u8) (@subM_u8))))) (And.intro (And.intro (And.intro (@add_u32) (@mul_u32)) (And.intro (@xor_u32) (@and_u32))) (And.intro (And.intro (@or_u32) (@zIa)) (And.intro (@zFr) (And.intro (@com_u32) (@subM_u32)))))) (And.intro (And.intro (And.intro (And.intro (@add_u64) (@mul_u64)) (And.intro (@xor_u64) (@and_u64))) (And.intro (And.intro (@or_u64) (@shl_u64)) (And.intro (@shr_u64) (And.intro (@com_u64) (@subM_u64))))) (And.intro (And.intro (And.intro (@zM3) (@zM1)) (And.intro (@zM2) (@zMx))) (And.intro (And.intro (@zMv) (@zMw)) (And.intro (@zM0) (And.intro (@zMy) (@zMz)))))))
def lemC:=PLift.up (And.intro (And.intro (And.intro (And.intro (@Int.cast_ofNat_Int) (And.intro (@beq_self_eq_true.{0}) (@cond_true.{1}))) (And.intro (And.intro (@cond_false.{1}) (@Bool.not_eq_true')) (And.intro (@Bool.not_eq_false') (@beq_iff_eq.{0})))) (And.intro (And.intro (And.intro (@beq_eq_false_iff_ne.{0}) (@Option.isNone_some.{0})) (And.intro (@Option.isNone_none.{0}) (@Nat.zero_add))) (And.intro (And.intro (@and_self) (@and_false)) (And.intro (@false_and) (@or_false))))) (And.intro (And.intro (And.intro (And.intro (@false_or) (@or_self)) (And.intro (@if_true.{1}) (@if_false.{1}))) (And.intro (And.intro (@decide_eq_true_eq) (@decide_eq_false_iff_not)) (And.intro (@List.map_cons.{0,0}) (@List.map_nil.{0,0})))) (And.intro (And.intro (And.intro (@true_and) (@Option.map_some.{0,0})) (And.intro (@Option.map_none.{0,0}) (@decide_true))) (And.intro (And.intro (@decide_false) (@Bool.not_true)) (And.intro (@Bool.not_false) (@and_true))))))
end Go.X
end
section
namespace Go.X
set_option linter.unusedVariables false
section
variable {pr:Prog} {full:List XO} {cs:List (Nat×Nat×List Nat)} {i:Nat} {tr:List (Fr×Heap)} {K:Fr→Heap→Prop} {t:Fr} {h:Heap}
end
end Go.X
end
