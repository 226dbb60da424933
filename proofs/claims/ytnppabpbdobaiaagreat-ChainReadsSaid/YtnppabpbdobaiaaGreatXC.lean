/- Rules for running code by the interpreter, and its equations. -/
import Derived.Shelf.Spec.SlicesInsertGrow
import Derived.Test.YtnppabpbdobaiaaGreatXB
set_option linter.unusedSimpArgs false
set_option linter.unusedVariables false
set_option maxHeartbeats 2000000
open Nat renaming reduceLeDiff → zam, reduceEqDiff → zan, reduceAdd → zao
open Int renaming reduceBEq → zap, reduceLT → zaq, reduceLE → zar, reduceGT → zas, reduceGE → zat, reduceEq → zau, reduceAdd → zav, reduceSub → zaw, reduceMul → zax
section
namespace Go.X
open Go.RowKit
structure CLe (cf cf':CallF):Prop where
 fn:∀f a h r,cf f a h=some r→cf' f a h=some r
 yl:∀f a h r,cf.yl f a h=some r→cf'.yl f a h=some r
theorem zL9 {cf cf':CallF} (hc:CLe cf cf') {t:Fr} {h:Heap} {x:XO} {r:Value×Heap} (hs:zu cf t h x=some r):zu cf' t h x=some r:=by
 unfold zu at *
 cases hw:zAD t x.guard<;>rw[hw] at hs<;>simp only[cond_true,cond_false] at *
 ·exact hs
 ·cases hx:x.op<;>rw[hx] at hs<;>simp only[zs] at *<;>try exact hs
  split at hs
  ·exact hc.fn _ _ _ _ hs
  ·rename_i l first caps _
   cases hb:(first.isEmpty&&caps.isEmpty)<;>rw[hb] at hs
   ·cases hs
   ·exact hc.yl _ _ _ _ hs
  ·cases hs
theorem zLP {cf cf':CallF} (hc:CLe cf cf'):∀ {l:List XO} {t:Fr} {h:Heap} {r:Fr×Heap},opsX cf l t h=some r→opsX cf' l t h=some r
 | [],_,_,_,hs=>hs
 | x::l,t,h,r,hs=>by
  simp only[opsX] at *
  split at hs
  ·rename_i v h' hv
   rw[zL9 hc hv]
   exact zLP hc hs
  ·cases hs
theorem zLK {cf cf':CallF} (hc:CLe cf cf'):∀ {l:List XO} {t:Fr} {h:Heap} {r:List (Fr×Heap)},opsT cf l t h=some r→opsT cf' l t h=some r
 | [],_,_,_,hs=>hs
 | x::l,t,h,r,hs=>by
  simp only[opsT] at *
  split at hs
  ·rename_i v h' hv
   rw[zL9 hc hv]
   dsimp only
   split at hs
   ·rename_i l' hl
    rw[zLK hc hl]
    exact hs
   ·cases hs
  ·cases hs
structure PLe (P P':Prog):Prop where
 code:∀f F,P.code f=some F→P'.code f=some F
 prim:∀f,P.prim f=P'.prim f
theorem callF_le {P P':Prog} (hp:PLe P P') {r r':XC→Fr→Heap→Option (XE×Fr×Heap)} (hr:∀c t h q,r c t h=some q→r' c t h=some q):∀f a h q,zAv P r f a h=some q→zAv P' r' f a h=some q:=by
 intro f a h q hs
 unfold zAv at *
 rw[←hp.prim f]
 split at hs
 ·exact hs
 ·split at hs
  ·rename_i F hF
   rw[hp.code f F hF]
   dsimp only
   split at hs
   ·rename_i hl
    rw[if_pos hl]
    split at hs
    ·rename_i t1 h1 he;rw[hr _ _ _ _ he];exact hs
    ·rename_i t1 h1 he;rw[hr _ _ _ _ he];exact hs
    ·cases hs
   ·cases hs
  ·cases hs
theorem zaj {r r':XC→Fr→Heap→Option (XE×Fr×Heap)} (hr:∀c t h q,r c t h=some q→r' c t h=some q):∀A a h q,zBe r A a h=some q→zBe r' A a h=some q:=by
 intro A a h q hs
 unfold zBe at *
 split at hs
 ·rename_i r1 h1
  try rw[h1]
  split at hs
  ·rename_i hl
   try rw[if_pos hl]
   split at hs
   ·rename_i t2 h2 he
    rw[hr _ _ _ _ he]
    dsimp only
    split at hs
    ·rename_i r2 hr2
     try rw[hr2]
     try dsimp only
     split at hs
     ·rename_i hst
      try rw[if_pos hst]
      split at hs
      ·rename_i e t3 h3 hb
       rw[hr _ _ _ _ hb]
       exact hs
      ·cases hs
     ·cases hs
    ·cases hs
   ·cases hs
  ·cases hs
 ·cases hs
theorem zG2 {P P':Prog} (hp:PLe P P') {r r':XC→Fr→Heap→Option (XE×Fr×Heap)} (hr:∀c t h q,r c t h=some q→r' c t h=some q):CLe (zA6 P r) (zA6 P' r') :=
 ⟨callF_le hp hr,zaj hr⟩
theorem zCS {P P':Prog} (hp:PLe P P'):∀ {n m:Nat} {c:XC} {t:Fr} {h:Heap} {r:XE×Fr×Heap},n≤m→run P n c t h=some r→run P' m c t h=some r
 | 0,m,c,t,h,r,_,hs=>by cases hs
 | n+1,0,c,t,h,r,hnm,hs=>by omega
 | n+1,m+1,c,t,h,r,hnm,hs=>by
  have ih:∀c t h q,run P n c t h=some q→run P' m c t h=some q:=fun c t h q hq=>zCS hp (by omega) hq
  have hc:=zG2 hp ih
  cases c<;>simp only[run] at *
  case ops l =>
   split at hs
   ·rename_i t1 h1 ho;rw[zLP hc ho];exact hs
   ·cases hs
  case draw l cs =>
   split at hs
   ·rename_i tr ho;rw[zLK hc ho];exact hs
   ·cases hs
  case seq a b =>
   split at hs
   ·rename_i t1 h1 ha;rw[ih _ _ _ _ ha];exact ih _ _ _ _ hs
   ·rename_i hne
    rw[ih _ _ _ _ hs]
    obtain⟨e,t1,h1⟩:=r
    cases e with
    | normal=>exact absurd hs (hne t1 h1)
    | _=>rfl
  case cond x a b =>
   split at hs
   ·exact ih _ _ _ _ hs
   ·exact ih _ _ _ _ hs
   ·cases hs
  case block id c =>
   split at hs
   ·rename_i i t1 h1 ha;rw[ih _ _ _ _ ha];exact hs
   ·rename_i hne
    rw[ih _ _ _ _ hs]
    obtain⟨e,t1,h1⟩:=r
    cases e with
    | exit i=>exact absurd hs (hne i t1 h1)
    | _=>rfl
  case loop c =>
   split at hs
   ·rename_i t1 h1 ha;rw[ih _ _ _ _ ha];exact ih _ _ _ _ hs
   ·rename_i hne
    rw[ih _ _ _ _ hs]
    obtain⟨e,t1,h1⟩:=r
    cases e with
    | normal=>exact absurd hs (hne t1 h1)
    | _=>rfl
  case scope c=>exact ih _ _ _ _ hs
  case rng f ps k asg body =>
   split at hs
   ·split at hs
    ·rename_i hcl
     rw[hc.fn _ _ _ _ hcl]
     exact hs
    ·cases hs
   ·cases hs
  all_goals exact hs
theorem PLe.refl (P:Prog):PLe P P:=⟨fun _ _ h=>h,fun _=>rfl⟩
theorem zG4 {P:Prog} {n m f:Nat} {args:List Value} {h:Heap} {r:Value×Heap} (hnm:n≤m) (hr:call P n f args h=some r):call P m f args h=some r :=
 (zG2 (PLe.refl P) (fun _ _ _ _ hq=>zCS (PLe.refl P) hnm hq)).fn _ _ _ _ hr
theorem zG3 {P:Prog} {n m f:Nat} {args:List Value} {h:Heap} {r:Value×Heap} (hnm:n≤m) (hr:(call P n).yl f args h=some r):(call P m).yl f args h=some r :=
 (zG2 (PLe.refl P) (fun _ _ _ _ hq=>zCS (PLe.refl P) hnm hq)).yl _ _ _ _ hr
noncomputable def cfi (P:Prog):CallF where
 fn:=fun f args h=>open Classical in if hx:∃r n,call P n f args h=some r then some (Classical.choose hx) else none
 yl:=fun f args h=>open Classical in if hx:∃r n,(call P n).yl f args h=some r then some (Classical.choose hx) else none
theorem cfi_of {P:Prog} {f n:Nat} {args:List Value} {h:Heap} {r:Value×Heap} (hr:call P n f args h=some r):cfi P f args h=some r:=by
 have hx:∃r n,call P n f args h=some r:=⟨r,n,hr⟩
 simp only[cfi]
 rw[dif_pos hx]
 obtain⟨m,hm⟩:=Classical.choose_spec hx
 have h1:=zG4 (Nat.le_max_left n m) hr
 have h2:=zG4 (Nat.le_max_right n m) hm
 rw[h1] at h2
 exact h2.symm
theorem cyl_of {P:Prog} {f n:Nat} {args:List Value} {h:Heap} {r:Value×Heap} (hr:(call P n).yl f args h=some r):(cfi P).yl f args h=some r:=by
 have hx:∃r n,(call P n).yl f args h=some r:=⟨r,n,hr⟩
 simp only[cfi]
 rw[dif_pos hx]
 obtain⟨m,hm⟩:=Classical.choose_spec hx
 have h1:=zG3 (Nat.le_max_left n m) hr
 have h2:=zG3 (Nat.le_max_right n m) hm
 rw[h1] at h2
 exact h2.symm
theorem zHC {P:Prog} {f:Nat} {args:List Value} {h:Heap} {r:Value×Heap} (hr:cfi P f args h=some r):∃n,call P n f args h=some r:=by
 simp only[cfi] at hr
 split at hr
 ·rename_i hx
  obtain⟨n,hn⟩:=Classical.choose_spec hx
  cases hr
  exact⟨n,hn⟩
 ·cases hr
theorem cyl_run {P:Prog} {f:Nat} {args:List Value} {h:Heap} {r:Value×Heap} (hr:(cfi P).yl f args h=some r):∃n,(call P n).yl f args h=some r:=by
 simp only[cfi] at hr
 split at hr
 ·rename_i hx
  obtain⟨n,hn⟩:=Classical.choose_spec hx
  cases hr
  exact⟨n,hn⟩
 ·cases hr
theorem zHB {P:Prog} {f:Nat} {args:List Value} {h:Heap} {g:List Value→Heap→Option (Value×Heap)} {r:Value×Heap} (hp:P.prim f=some g) (hg:g args h=some r):cfi P f args h=some r :=
 cfi_of (n:=0) (by show zAv P (run P 0) f args h=_;unfold zAv;rw[hp];exact hg)
theorem zL8 {P:Prog} {t:Fr} {h:Heap} {x:XO} {r:Value×Heap} (hs:zu (cfi P) t h x=some r):∃n,∀m,n≤m→zu (zA6 P (run P m)) t h x=some r:=by
 unfold zu at *
 cases hw:zAD t x.guard<;>rw[hw] at hs<;>simp only[cond_true,cond_false] at *
 ·exact⟨0,fun _ _=>hs⟩
 ·cases hx:x.op<;>rw[hx] at hs<;>simp only[zs] at *<;>try exact⟨0,fun _ _=>hs⟩
  split at hs
  ·obtain⟨n,hn⟩:=zHC hs
   exact⟨n,fun m hm=>zG4 hm hn⟩
  ·rename_i l first caps _
   cases hb:(first.isEmpty&&caps.isEmpty)<;>rw[hb] at hs
   ·cases hs
   ·obtain⟨n,hn⟩:=cyl_run hs
    exact⟨n,fun m hm=>zG3 hm hn⟩
  ·cases hs
def Runs (pr:Prog) (c:XC) (t:Fr) (h:Heap) (e:XE) (t':Fr) (h':Heap):Prop:=∃n,run pr n c t h=some (e,t',h')
def wpc (pr:Prog) (c:XC) (Q:XE→Fr→Heap→Prop) (t:Fr) (h:Heap):Prop:=∃e t' h',Runs pr c t h e t' h'∧Q e t' h'
inductive KI where
 | code (c:XC)
 | blk (id:Nat)
 | lp (c:XC)
def onN (K:Fr→Heap→Prop) (Q:XE→Fr→Heap→Prop):XE→Fr→Heap→Prop
 | .normal,t,h=>K t h
 | e,t,h=>Q e t h
def inB (id:Nat) (Q:XE→Fr→Heap→Prop):XE→Fr→Heap→Prop
 | .exit i,t,h=>if i=id then Q .normal t h else Q (.exit i) t h
 | e,t,h=>Q e t h
def zBM (pr:Prog):List KI→(XE→Fr→Heap→Prop)→XE→Fr→Heap→Prop
 | [],Q=>Q
 | .code c::k,Q=>onN (wpc pr c (zBM pr k Q)) (zBM pr k Q)
 | .blk id::k,Q=>inB id (zBM pr k Q)
 | .lp c::k,Q=>onN (wpc pr (.loop c) (zBM pr k Q)) (zBM pr k Q)
structure wpk (pr:Prog) (c:XC) (k:List KI) (Q:XE→Fr→Heap→Prop) (t:Fr) (h:Heap):Prop where
 out:wpc pr c (zBM pr k Q) t h
structure kont (pr:Prog) (k:List KI) (Q:XE→Fr→Heap→Prop) (t:Fr) (h:Heap):Prop where
 out:zBM pr k Q .normal t h
structure extk (pr:Prog) (k:List KI) (i:Nat) (Q:XE→Fr→Heap→Prop) (t:Fr) (h:Heap):Prop where
 out:zBM pr k Q (.exit i) t h
def wpo (pr:Prog):List XO→(Fr→Heap→Prop)→Fr→Heap→Prop
 | [],K,t,h=>K t h
 | x::l,K,t,h=>∃v h',zu (cfi pr) t h x=some (v,h')∧wpo pr l K (t.put x.dst v) h'
def wps (pr:Prog):List XO→(Fr→Heap→Prop)→Fr→Heap→Prop
 | [],K,t,h=>K t h
 | x::l,K,t,h=>∃v,zu (cfi pr) t h x=some (v,h)∧wps pr l K (t.put x.dst v) h
section
variable {pr:Prog} {k:List KI} {Q:XE→Fr→Heap→Prop} {t:Fr} {h:Heap}
theorem zLO:∀ {l:List XO} {t:Fr} {h:Heap} {r:Fr×Heap},opsX (cfi pr) l t h=some r→∃n,∀m,n≤m→opsX (zA6 pr (run pr m)) l t h=some r
 | [],_,_,_,hs=>⟨0,fun _ _=>hs⟩
 | x::l,t,h,r,hs=>by
  simp only[opsX] at hs
  split at hs
  ·rename_i v h' hv
   obtain⟨n1,h1⟩:=zL8 hv
   obtain⟨n2,h2⟩:=zLO hs
   refine⟨max n1 n2,fun m hm=>?_⟩
   simp only[opsX]
   rw[h1 m (by omega)]
   exact h2 m (by omega)
  ·cases hs
theorem zF5:∀ {l:List XO} {t:Fr} {h:Heap} {r:List (Fr×Heap)},opsT (cfi pr) l t h=some r→∃n,∀m,n≤m→opsT (zA6 pr (run pr m)) l t h=some r
 | [],_,_,_,hs=>⟨0,fun _ _=>hs⟩
 | x::l,t,h,r,hs=>by
  simp only[opsT] at hs
  split at hs
  ·rename_i v h' hv
   split at hs
   ·rename_i l' hl
    obtain⟨n1,h1⟩:=zL8 hv
    obtain⟨n2,h2⟩:=zF5 hl
    refine⟨max n1 n2,fun m hm=>?_⟩
    simp only[opsT]
    rw[h1 m (by omega)]
    dsimp only
    rw[h2 m (by omega)]
    exact hs
   ·cases hs
  ·cases hs
theorem zMZ:∀ {l:List XO} {K:Fr→Heap→Prop} {t:Fr} {h:Heap},wpo pr l K t h→∃t' h',opsX (cfi pr) l t h=some (t',h')∧K t' h'
 | [],K,t,h,hw=>⟨t,h,rfl,hw⟩
 | x::l,K,t,h,⟨v,h1,hv,hw⟩=>by
  obtain⟨t',h',h2,h3⟩:=zMZ hw
  exact⟨t',h',by simp only[opsX,hv,h2],h3⟩
theorem zMa:∀ {l:List XO} {K:Fr→Heap→Prop} {t:Fr} {h:Heap},wpo pr l K t h→∃tr t' h',opsT (cfi pr) l t h=some tr∧tr.getLast?=some (t',h')∧K t' h'
 | [],K,t,h,hw=>⟨[(t,h)],t,h,rfl,rfl,hw⟩
 | x::l,K,t,h,⟨v,h1,hv,hw⟩=>by
  obtain⟨tr,t',h',h2,h3,h4⟩:=zMa hw
  refine⟨(t,h)::tr,t',h',by simp only[opsT,hv,h2],?_,h4⟩
  cases tr with
  | nil=>simp at h3
  | cons q tr=>simpa using h3
theorem zMb:∀ {l:List XO} {K:Fr→Heap→Prop} {t:Fr} {h:Heap},wps pr l K t h→∃tr t',opsT (cfi pr) l t h=some tr∧tr.getLast?=some (t',h)∧K t' h∧tr.length=l.length+1∧(∀q∈tr,q.2=h) ∧
  ∀ (j:Nat) (x:XO) (q:Fr×Heap),l[j]?=some x→tr[j]?=some q→∃v,zu (cfi pr) q.1 h x=some (v,h)
 | [],K,t,h,hw=>⟨[(t,h)],t,rfl,rfl,hw,rfl,by simp,fun j x q hx=>by simp at hx⟩
 | x::l,K,t,h,⟨v,hv,hw⟩=>by
  obtain⟨tr,t',h2,h3,h4,h5,h6,h7⟩:=zMb hw
  refine⟨(t,h)::tr,t',by simp only[opsT,hv,h2],?_,h4,by simp[h5],?_,?_⟩
  ·cases tr with
   | nil=>simp at h3
   | cons q tr=>simpa using h3
  ·intro q hq
   rcases List.mem_cons.1 hq with rfl|hq
   ·rfl
   ·exact h6 q hq
  ·intro j y q hy hq
   cases j with
   | zero =>
    have h1:x=y:=by simpa using hy
    have h2:(t,h)=q:=by simpa using hq
    subst h1;subst h2
    exact⟨v,hv⟩
   | succ j=>exact h7 j y q (by simpa using hy) (by simpa using hq)
mutual
theorem zEx:∀v:Value,zf v v=true
 | .bool a=>by simp[zf]
 | .int k a=>by simp[zf]
 | .float k a=>by simp[zf]
 | .complex k a b=>by simp[zf]
 | .chan a=>by simp[zf]
 | .string a=>by simp[zf]
 | .pointer a=>by simp[zf]
 | .slice a l c=>by simp[zf]
 | .map a=>by simp[zf]
 | .nilFunc=>rfl
 | .nilIface=>rfl
 | .iface t v=>by simp[zf,zEx v]
 | .func f a b=>by simp[zf,zGG a,zGG b]
 | .agg a=>by simp[zf,zGG a]
 | .tuple a=>by simp[zf,zGG a]
theorem zGG:∀v:Array Value,zC0 v v=true
 | ⟨a⟩=>by simp[zC0,zLv a]
theorem zLv:∀v:List Value,zC2 v v=true
 | []=>rfl
 | a::asx=>by simp[zC2,zEx a,zLv asx]
end
def noA (l:List XO):Bool:=l.all fun o=>!kindA o.op
def zLf (l:List XO) (cs:List (Nat×Nat×List Nat)):Bool:=cs.all fun c=>(match l[c.1]? with|some o=>kindR o.op|none=>false)&&c.2.1.ble l.length
theorem zIj {l:List XO} {tr:List (Fr×Heap)} (hn:noA l=true):∀ (is:List Nat) (h:Heap),zBI l tr is h=h
 | [],h=>rfl
 | i::is,h=>by
  simp only[zBI]
  split
  ·rename_i o t hh hl htr
   split
   ·rename_i op hop
    unfold noA at hn
    rw[List.all_eq_true] at hn
    have:=hn o (List.mem_of_getElem? hl)
    rw[hop] at this;cases this
   ·exact zIj hn is h
  ·exact zIj hn is h
theorem zE {l:List XO} (hw:wpo pr l (kont pr k Q) t h):wpk pr (.ops l) k Q t h:=by
 obtain⟨t',h',h1,h2⟩:=zMZ hw
 obtain⟨n,hn⟩:=zLO h1
 exact⟨.normal,t',h',⟨n+1,by simp only[run,hn n (Nat.le_refl n)]⟩,h2.out⟩
theorem zQ {l:List XO} (hw:wpo pr l (kont pr k Q) t h):wpk pr (.draw l []) k Q t h:=by
 obtain⟨tr,t',h',h1,h2,h3⟩:=zMa hw
 obtain⟨n,hn⟩:=zF5 h1
 exact⟨.normal,t',h',⟨n+1,by simp only[run,hn n (Nat.le_refl n),zAw,List.all_nil,cond_true,h2]⟩,h3.out⟩
theorem zS {l:List XO} {cs:List (Nat×Nat×List Nat)} (hn:noA l=true) (hr:zLf l cs=true) (hw:wps pr l (kont pr k Q) t h):wpk pr (.draw l cs) k Q t h:=by
 obtain⟨tr,t',h1,h2,h3,h4,h5,h6⟩:=zMb hw
 obtain⟨n,hn'⟩:=zF5 h1
 refine⟨.normal,t',h,⟨n+1,?_⟩,h3.out⟩
 have hchk:zAw l tr cs=true:=by
  unfold zAw
  rw[List.all_eq_true]
  intro c hc
  unfold zLf at hr
  rw[List.all_eq_true] at hr
  have hrc:=hr c hc
  simp only[Bool.and_eq_true] at hrc
  obtain⟨hk,hle⟩:=hrc
  have hle:=Nat.le_of_ble_eq_true hle
  unfold zAZ
  cases hx:l[c.1]? with
  | none=>rw[hx] at hk;cases hk
  | some o =>
   rw[hx] at hk
   dsimp only at hk
   have hjl:c.1<l.length:=(List.getElem?_eq_some_iff.1 hx).1
   have hj:tr[c.1]?=some (tr[c.1]'(by omega)):=List.getElem?_eq_getElem (by omega)
   have hkk:tr[c.2.1]?=some (tr[c.2.1]'(by omega)):=List.getElem?_eq_getElem (by omega)
   rw[hj,hkk]
   have e1:=h5 _ (List.mem_of_getElem? hj)
   have e2:=h5 _ (List.mem_of_getElem? hkk)
   obtain⟨v,hv⟩:=h6 _ _ _ hx hj
   generalize tr[c.1]'(by omega)=q1 at *
   generalize tr[c.2.1]'(by omega)=q2 at *
   obtain⟨t1,g1⟩:=q1
   obtain⟨t2,g2⟩:=q2
   simp only at e1 e2 hv
   subst e1;subst e2
   cases ho:o.op<;>rw[ho] at hk<;>simp only[kindR] at hk<;>try cases hk
   rename_i ro
   simp only[zIj hn,ho]
   simp only[zu,ho] at hv
   cases hw:zAD t1 o.guard with
   | false=>rfl
   | true =>
    rw[hw] at hv
    simp only[cond_true,zs] at hv
    split at hv
    ·rename_i v1 hv1
     rw[hv1]
     simp[zEx]
    ·cases hv
 simp only[run,hn' n (Nat.le_refl n),hchk,cond_true,h2]
theorem zP {a b:XC} (hw:wpk pr a (.code b::k) Q t h):wpk pr (.seq a b) k Q t h:=by
 obtain⟨e,t1,h1,⟨n,hn⟩,hq⟩:=hw
 cases e with
 | normal =>
  obtain⟨e2,t2,h2,⟨m,hm⟩,hq2⟩:=hq
  refine⟨e2,t2,h2,⟨max n m+1,?_⟩,hq2⟩
  simp only[run,zCS (PLe.refl _) (Nat.le_max_left n m) hn,zCS (PLe.refl _) (Nat.le_max_right n m) hm]
 | exit i=>exact⟨_,t1,h1,⟨n+1,by simp only[run,hn]⟩,hq⟩
 | ret=>exact⟨_,t1,h1,⟨n+1,by simp only[run,hn]⟩,hq⟩
theorem zC (hw:kont pr k Q t h):wpk pr .skip k Q t h:=⟨.normal,t,h,⟨1,rfl⟩,hw.out⟩
theorem ret_k:∀ {k:List KI},Q .ret t h→zBM pr k Q .ret t h
 | [],hq=>hq
 | .code _::k,hq=>ret_k (k:=k) hq
 | .blk _::k,hq=>ret_k (k:=k) hq
 | .lp _::k,hq=>ret_k (k:=k) hq
theorem zN (hw:Q .ret t h):wpk pr .ret k Q t h:=⟨.ret,t,h,⟨1,rfl⟩,ret_k hw⟩
theorem zM {id:Nat} (hw:extk pr k id Q t h):wpk pr (.exit id) k Q t h:=⟨.exit id,t,h,⟨1,rfl⟩,hw.out⟩
theorem zO {c:XC} (hw:wpk pr c k Q t h):wpk pr (.scope c) k Q t h:=by
 obtain⟨e,t1,h1,⟨n,hn⟩,hq⟩:=hw
 exact⟨e,t1,h1,⟨n+1,by simp only[run,hn]⟩,hq⟩
theorem zL {id:Nat} {c:XC} (hw:wpk pr c (.blk id::k) Q t h):wpk pr (.block id c) k Q t h:=by
 obtain⟨e,t1,h1,⟨n,hn⟩,hq⟩:=hw
 cases e with
 | normal=>exact⟨_,t1,h1,⟨n+1,by simp only[run,hn]⟩,hq⟩
 | exit i =>
  simp only[zBM,inB] at hq
  by_cases hi:i=id
  ·rw[if_pos hi] at hq;exact⟨.normal,t1,h1,⟨n+1,by simp only[run,hn,if_pos hi]⟩,hq⟩
  ·rw[if_neg hi] at hq;exact⟨.exit i,t1,h1,⟨n+1,by simp only[run,hn,if_neg hi]⟩,hq⟩
 | ret=>exact⟨_,t1,h1,⟨n+1,by simp only[run,hn]⟩,hq⟩
theorem wpk_if {c:Operand} {a b:XC} {x:Bool} (hc:t.eval c=.bool x) (ha:x=true→wpk pr a k Q t h) (hb:x=false→wpk pr b k Q t h):wpk pr (.cond c a b) k Q t h:=by
 cases x with
 | true =>
  obtain⟨e,t1,h1,⟨n,hn⟩,hq⟩:=ha rfl
  exact⟨e,t1,h1,⟨n+1,by simp only[run,hc,hn]⟩,hq⟩
 | false =>
  obtain⟨e,t1,h1,⟨n,hn⟩,hq⟩:=hb rfl
  exact⟨e,t1,h1,⟨n+1,by simp only[run,hc,hn]⟩,hq⟩
theorem zMX {c:XC} (hw:wpk pr c (.lp c::k) Q t h):wpk pr (.loop c) k Q t h:=by
 obtain⟨e,t1,h1,⟨n,hn⟩,hq⟩:=hw
 cases e with
 | normal =>
  obtain⟨e2,t2,h2,⟨m,hm⟩,hq2⟩:=hq
  refine⟨e2,t2,h2,⟨max n m+1,?_⟩,hq2⟩
  simp only[run,zCS (PLe.refl _) (Nat.le_max_left n m) hn,zCS (PLe.refl _) (Nat.le_max_right n m) hm]
 | exit i=>exact⟨_,t1,h1,⟨n+1,by simp only[run,hn]⟩,hq⟩
 | ret=>exact⟨_,t1,h1,⟨n+1,by simp only[run,hn]⟩,hq⟩
theorem zB {c:XC} (hw:wpk pr c k Q t h):kont pr (.code c::k) Q t h:=⟨hw.out⟩
theorem zJ {id:Nat} (hw:kont pr k Q t h):kont pr (.blk id::k) Q t h:=⟨hw.out⟩
theorem zKu {c:XC} (hw:wpk pr (.loop c) k Q t h):kont pr (.lp c::k) Q t h:=⟨hw.out⟩
theorem zK (hw:Q .normal t h):kont pr [] Q t h:=⟨hw⟩
theorem zF {c:XC} {i:Nat} (hw:extk pr k i Q t h):extk pr (.code c::k) i Q t h:=⟨hw.out⟩
theorem zH {c:XC} {i:Nat} (hw:extk pr k i Q t h):extk pr (.lp c::k) i Q t h:=⟨hw.out⟩
theorem zG {i:Nat} (hw:kont pr k Q t h):extk pr (.blk i::k) i Q t h:=by
 constructor
 simp only[zBM,inB,if_true];exact hw.out
theorem zI {i j:Nat} (hne:i≠j) (hw:extk pr k i Q t h):extk pr (.blk j::k) i Q t h:=by
 constructor
 simp only[zBM,inB,if_neg hne];exact hw.out
theorem zAY {c:XC} (Inv:Nat→Fr→Heap→Prop) (step:∀m t h,Inv m t h→(∀m' t' h',m'<m→Inv m' t' h'→kont pr (.lp c::k) Q t' h')→wpk pr c (.lp c::k) Q t h):∀m t h,Inv m t h→wpk pr (.loop c) k Q t h:=by
 intro m
 induction m using Nat.strongRecOn with
 | ind m ih=>exact fun t h hi=>zMX (step m t h hi fun m' t' h' hlt hi'=>zKu (ih m' hlt t' h' hi'))
theorem zMY {f:Operand} {ps:List Nat} {n:Nat} {asg body:XC} {g:Nat} {first caps:Array Value} (hf:t.eval f=.func (.func g) first caps) {v:Value} {h2:Heap}
  (hc:cfi pr g (first.toList++[.func (.yield h.next) #[] #[]]++caps.toList) (h.pushLoop ⟨t,n,ps,asg,body,.ready,none⟩)=some (v,h2)) {r:XL} (hr:h2.blks.get h.next=some (.loop r)) (hb:r.st≠.busy)
  (hw:zBM pr k Q (r.pend.getD .normal) t (h2.setBlk h.next (.loop { r with st:=.exhausted }))):wpk pr (.rng f ps n asg body) k Q t h:=by
 obtain⟨m,hm⟩:=zHC hc
 refine⟨_,_,_,⟨m+1,?_⟩,hw⟩
 change zA6 pr (run pr m) g _ _=_ at hm
 simp only[run,hf]
 rw[hm]
 simp only[endX,hr]
 rw[if_neg hb]
theorem zBW {f:Nat} {F:XF} {args:List Value} {v:Value} {h':Heap} (hp:pr.prim f=none) (hF:pr.code f=some F) (hn:args.length=F.nargs) (hw:wpc pr F.body (fun e t' h1=>(e=.normal∨e=.ret)∧zAI t' h1 F.results=some v∧h1=h') (zW args 0 .leaf) h):cfi pr f args h=some (v,h'):=by
 obtain⟨e,t',h1,⟨n,hr⟩,he,hres,rfl⟩:=hw
 refine cfi_of (n:=n) ?_
 show zAv pr (run pr n) f args h=_
 unfold zAv
 rw[hp]
 dsimp only
 rw[hF]
 dsimp only
 rw[if_pos hn,hr]
 rcases he with rfl|rfl<;>simp only[hres]
theorem zj {f:Nat} {F:XF} {args:List Value} {R:Value→Heap→Prop} (hp:pr.prim f=none) (hF:pr.code f=some F) (hn:args.length=F.nargs) (hw:wpc pr F.body (fun e t' h1=>(e=.normal∨e=.ret)∧∃v,zAI t' h1 F.results=some v∧R v h1) (zW args 0 .leaf) h):∃v h1,cfi pr f args h=some (v,h1)∧R v h1:=by
 obtain⟨e,t',h1,hr,he,v,hres,hR⟩:=hw
 exact⟨v,h1,zBW hp hF hn ⟨e,t',h1,hr,he,hres,rfl⟩,hR⟩
end
end Go.X
end
section
namespace Go.X
open Go.RowKit
structure Grows (h h':Heap):Prop where
 next:h.next≤h'.next
 blks:∀A,A<h.next→h'.blks.get A=h.blks.get A
 fams:∀A,A<h.next→h'.fams.get A=h.fams.get A
theorem Grows.refl (h:Heap):Grows h h:=⟨Nat.le_refl _,fun _ _=>rfl,fun _ _=>rfl⟩
theorem Grows.trans {h h1 h2:Heap} (a:Grows h h1) (b:Grows h1 h2):Grows h h2 :=
 ⟨Nat.le_trans a.next b.next,fun A hA=>(b.blks A (Nat.lt_of_lt_of_le hA a.next)).trans (a.blks A hA),fun A hA=>(b.fams A (Nat.lt_of_lt_of_le hA a.next)).trans (a.fams A hA)⟩
theorem VRel.back {ρ ρ':Ren} (hm:∀A l,ρ A=some l→ρ' A=some l) {v v0 v':Value} (h1:VRel ρ v v0) (h2:VRel ρ' v v'):VRel ρ v v':=by
 induction h1 generalizing v' with
 | bool b=>cases h2;exact .bool b
 | int k n=>cases h2;exact .int k n
 | float k n=>cases h2;exact .float k n
 | string s=>cases h2;exact .string s
 | nilptr=>cases h2;exact .nilptr
 | @ptr A off l hA =>
  cases h2 with
  | ptr hA' =>
   have:=hm _ _ hA
   rw[hA'] at this;cases this
   exact .ptr hA
 | nilslice=>cases h2;exact .nilslice
 | slice hA =>
  cases h2 with
  | slice hA' a b c d e =>
   have:=hm _ _ hA
   rw[hA'] at this;cases this
   exact .slice hA a b c d e
 | nilmap=>cases h2;exact .nilmap
 | yield hA =>
  cases h2 with
  | yield hA' =>
   have:=hm _ _ hA
   rw[hA'] at this;cases this
   exact .yield hA
 | map hA =>
  cases h2 with
  | map hA' =>
   have:=hm _ _ hA
   rw[hA'] at this;cases this
   exact .map hA
 | func ha hb h1 h2' ih1 ih2 =>
  cases h2 with
  | func ha' hb' h1' h2''=>exact .func ha' hb' (fun i h h'=>ih1 i h (by omega) (h1' i h h')) (fun i h h'=>ih2 i h (by omega) (h2'' i h h'))
 | nilFunc=>cases h2;exact .nilFunc
 | iface h ih=>cases h2 with|iface h'=>exact .iface (ih h')
 | nilIface=>cases h2;exact .nilIface
 | agg ha h1 ih1=>cases h2 with|agg ha' h1'=>exact .agg ha' (fun i h h'=>ih1 i h (by omega) (h1' i h h'))
 | tuple ha h1 ih1=>cases h2 with|tuple ha' h1'=>exact .tuple ha' (fun i h h'=>ih1 i h (by omega) (h1' i h h'))
theorem LRel.back {ρ ρ':Ren} (hm:∀A l,ρ A=some l→ρ' A=some l) {l l0 l':List Value} (h1:LRel ρ l l0) (h2:LRel ρ' l l'):LRel ρ l l':=by
 induction h1 generalizing l' with
 | nil=>cases h2;exact .nil
 | cons h hs ih=>cases h2 with|cons h' hs'=>exact .cons (h.back hm h') (ih hs')
theorem zYB {ρ ρ':Ren} (hm:∀A l,ρ A=some l→ρ' A=some l) {l:List (Value×Value)} {l0 l':List MapEntry} (h1:All2 (ERel ρ) l l0) (h2:All2 (ERel ρ') l l'):All2 (ERel ρ) l l':=by
 induction h1 generalizing l' with
 | nil=>cases h2;exact .nil
 | cons h hs ih=>cases h2 with|cons h' hs'=>exact .cons ⟨h.1.back hm h'.1,h.2.back hm h'.2⟩ (ih hs')
theorem HRel.drop {P:Program} {base:Nat} {ρ ρ':Ren} {h h':Heap} {w w':World} (wf:HWF h) (hr:HRel P base ρ h w) (hr':HRel P base ρ' h' w') (hm:∀A l,ρ A=some l→ρ' A=some l) (hg:Grows h h'):HRel P base ρ h w':=by
 have hlt:∀A b,h.blks.get A=some b→A<h.next:=fun A b hb=>wf.lt hb
 have hok:∀A c,h.okCells A=some c→h'.okCells A=some c:=fun A c hc=>by
  have hb:=(okCells_iff.1 hc).1
  rw[zF1 (hg.blks A (hlt A _ hb)) (fun c' hc'=>hg.fams c'.fam (wf.fam A c' hc').1)]
  exact hc
 refine⟨hr'.le,fun A l hA=>hr'.bnd A l (hm A l hA),hr.found,?_,?_,?_,?_,hr.fin,fun A c f l hc hf h0 hro hA=>hr'.mark A c f l (hok A c hc) (by rw[hg.fams c.fam (wf.fam A c (okCells_iff.1 hc).1).1];exact hf) h0 hro (hm A l hA),⟨?_,?_,?_,hr.loops.root,fun A l es st es' cl hes hA hh=>hr'.loops.stamps A l es st es' cl (by rw[hg.blks A (hlt A _ hes)];exact hes) (hm A l hA) hh⟩⟩
 ·intro A c l hc hA
  obtain⟨cs,T,fz,g1,g2,g3,g4,g5⟩:=hr'.cells A c l (hok A c hc) (hm A l hA)
  obtain⟨cs0,T0,fz0,_,_,_,k4,_⟩:=hr.cells A c l hc hA
  exact⟨cs,T,fz,g1,g2,g3,LRel.back hm k4 g4,g5⟩
 ·intro A B c d l m hne hc hd hA hB
  exact hr'.alias A B c d l m hne (hok A c hc) (hok B d hd) (hm A l hA) (hm B m hB)
 ·intro A l es st hes hA
  obtain⟨es',cl,g1,g2,g3⟩:=hr'.maps A l es st (by rw[hg.blks A (hlt A _ hes)];exact hes) (hm A l hA)
  obtain⟨es0,cl0,_,_,k3⟩:=hr.maps A l es st hes hA
  exact⟨es',cl,g1,g2,zYB hm k3 g3⟩
 ·intro A B es st fs su l m hne h1 h2 hA hB
  exact hr'.malias A B es st fs su l m hne (by rw[hg.blks A (hlt A _ h1)];exact h1) (by rw[hg.blks B (hlt B _ h2)];exact h2) (hm A l hA) (hm B m hB)
 ·intro A l r hb hA
  obtain⟨q,g1,g2,g3⟩:=hr'.loops.recd A l r (by rw[hg.blks A (hlt A _ hb)];exact hb) (hm A l hA)
  obtain⟨q0,_,_,k3⟩:=hr.loops.recd A l r hb hA
  exact⟨q,g1,g2,⟨⟨g3.fr.size,fun i=>VRel.back hm (k3.fr.rel i) (g3.fr.rel i)⟩,g3.ps,g3.pb,g3.asg,g3.body,g3.nra,g3.nrb,g3.st,g3.pend⟩⟩
 ·intro A l o hb hA
  obtain⟨q,g1,g2,g4,g3⟩:=hr'.loops.iter A l o (by rw[hg.blks A (hlt A _ hb)];exact hb) (hm A l hA)
  obtain⟨q0,_,_,_,k3⟩:=hr.loops.iter A l o hb hA
  refine⟨q,g1,g2,g4,?_⟩
  unfold IterOK at g3 k3 ⊢
  split at g3
  ·exact g3
  ·exact g3
  ·obtain⟨l1,e1,e2⟩:=g3
   obtain⟨l0,e3,_⟩:=k3
   have:=hm _ _ e3
   rw[e1] at this
   cases this
   exact⟨l1,e3,e2⟩
 ·intro A B r s l m hne h1 s1 h2 s2 hA hB
  exact hr'.loops.apart A B r s l m hne (by rw[hg.blks A (hlt A _ h1)];exact h1) s1 (by rw[hg.blks B (hlt B _ h2)];exact h2) s2 (hm A l hA) (hm B m hB)
def zDq:Value→Bool
 | .bool _|.int _ _|.float _ _|.string _|.nilFunc|.nilIface=>true
 | .pointer none|.slice none 0 0|.map none=>true
 | .agg cs=>cs.toList.all zAE
 | _=>false
def zy:Value→Bool
 | .tuple cs=>cs.toList.all zDq
 | v=>zDq v
theorem zKW {ρ:Ren}:∀ {v:Value},zDq v=true→VRel ρ v v:=by
 intro v hv
 unfold zDq at hv
 split at hv
 ·exact .bool _
 ·exact .int _ _
 ·exact .float _ _
 ·exact .string _
 ·exact .nilFunc
 ·exact .nilIface
 ·exact .nilptr
 ·exact .nilslice
 ·exact .nilmap
 ·exact VRel.agg_of (LRel.consts hv)
 ·cases hv
theorem zDI {ρ:Ren}:∀ {v:Value},zy v=true→VRel ρ v v:=by
 intro v hv
 unfold zy at hv
 split at hv
 ·refine VRel.tuple_of (All2.refl_of _ fun x hx=>?_)
  rw[List.all_eq_true] at hv
  exact zKW (hv x hx)
 ·exact zKW hv
def Comes (pr:Prog) (F:XF) (args:List Value) (h:Heap) (v:Value):Prop :=
 wpc pr F.body (fun e t h'=>(e=.normal∨e=.ret)∧zAI t h' F.results=some v∧Grows h h') (zW args 0 .leaf) h
theorem Comes.of {pr:Prog} {F:XF} {args:List Value} {h:Heap} {v:Value} (hw:wpk pr F.body [] (fun e t h'=>(e=.normal∨e=.ret)∧zAI t h' F.results=some v∧Grows h h') (zW args 0 .leaf) h):Comes pr F args h v:=hw.out
def Heap.at (h:Heap) (n:Nat):Heap:={ h with next:=n }
theorem HWF.at {h:Heap} (wf:HWF h) {n:Nat} (hn:h.next≤n):HWF (h.at n) :=
 ⟨fun A hA=>wf.fresh A (Nat.le_trans hn hA),fun A c hc=>⟨Nat.lt_of_lt_of_le (wf.fam A c hc).1 hn,(wf.fam A c hc).2⟩,fun A c f h1 h2=>wf.top A c f h1 h2⟩
theorem HRel.at {P:Program} {base:Nat} {ρ:Ren} {h:Heap} {w:World} (hr:HRel P base ρ h w) (n:Nat):HRel P base ρ (h.at n) w:=hr.congr (fun _=>rfl) (fun _=>rfl)
theorem HRel.unat {P:Program} {base:Nat} {ρ:Ren} {h:Heap} {w:World} {n:Nat} (hr:HRel P base ρ (h.at n) w):HRel P base ρ h w:=hr.congr (fun _=>rfl) (fun _=>rfl)
theorem zG6 {P:Program} {Pg:Prog} (ok:XOK P Pg) {f:Nat} {fn:Func} {F:XF} (hf:P.funcs[f]?=some fn) (hF:zX P fn=some F) {args:List Value} {h:Heap} {v:Value} (hn:args.length=F.nargs)
  (hk:∀base ρ w args',HRel P base ρ h w→LRel ρ args args'→∃v0,VRel ρ v v0) (hc:∀n,h.next≤n→HWF (h.at n)→Comes Pg F args (h.at n) v):zCV P f args h v h:=by
 intro base ρ w args' hr wf _ hargs
 obtain⟨N,hN⟩:=hr.fin
 have hle:h.next≤max N h.next:=Nat.le_max_right _ _
 obtain⟨e,t',h1,⟨n,hrun⟩,he,hres,hg⟩:=hc (max N h.next) hle (wf.at hle)
 obtain⟨hcode,_⟩:=zKE ok n
 unfold zX at hF
 split at hF
 ·rename_i c hbody
  split at hF
  ·rename_i x r hx hr'
   split at hF
   ·rename_i hsz
    cases hF
    obtain⟨hnx,hw⟩:=hcode _ _ _ _ _ _ _ _ hx hrun
    refine (callsIn_wide (n:=0)).1 (callsIn_of_wp_marks hf hbody trivial (hw none (.inl rfl) base w.heap.size ρ [] _ w _ (zKk hargs (by simp only at hn;omega)) rfl (Nat.le_refl _) (zHt _ _ _ _) (hr.at _) (wf.at hle) (fun A h2 _=>hN A (by have:(h.at (max N h.next)).next=max N h.next:=rfl;omega)) fun a' w' ρ' D' q1 q2 _ qm q3 q4 q5=>?_))
    obtain⟨v0,hv0⟩:=hk base ρ w args' hr hargs
    obtain⟨ds,rfl,d1,d2⟩:=qm
    have fin:=zHo (F:=Fence.wide) (n:=0) (P:=P) (fn:=fn) (tmps:=a'.tmps) (R:=fun e w'=>∃v' ρ',e=.returned v'∧HRel P base ρ' h w'∧HWF h∧Ext base ρ h w ρ' h w'∧VRel ρ' v v') hr.le (Nat.le_refl _) (fun w2 k1 k2=>by
     obtain⟨v',g1,g2⟩:=zLi k1 q1 hr' hres
     have hrel:HRel P base ρ h w2:=(HRel.drop (wf.at hle) (hr.at _) k1 k2.mono hg).unat
     have hext:Ext base ρ h w ρ h w2:=⟨fun _ _ h=>h,fun _ h=>absurd rfl h,Nat.le_refl _,fun _ _ h=>h,fun _ _ _=>⟨rfl,rfl⟩,k2.below,k2.frame,fun A l h1 h2=>(by rw[h1] at h2;cases h2)⟩
     exact⟨v',g1,v',ρ,rfl,hrel,wf,hext,hv0.back k2.mono g2⟩) ds w' d1 d2 q3 q5
    rcases he with rfl|rfl
    ·simp only[zBz,bodyPostM];rw[q2];exact fin
    ·simp only[zBz,bodyPostM];rw[q2];exact fin
   ·cases hF
  ·cases hF
 ·cases hF
end Go.X
namespace Go.X
abbrev T (i:Nat):Operand:=.tmp i
abbrev C (v:Value):Operand:=.const v
end Go.X
end
section
namespace Go.X
theorem wpo_nil {pr:Prog} {K:Fr→Heap→Prop} {t:Fr} {h:Heap}:wpo pr [] K t h=K t h:=rfl
theorem wpo_cons {pr:Prog} {x:XO} {l:List XO} {K:Fr→Heap→Prop} {t:Fr} {h:Heap}:wpo pr (x::l) K t h=∃r,zu (cfi pr) t h x=some r∧wpo pr l K (t.put x.dst r.1) r.2:=by
 simp only[wpo]
 apply propext
 constructor
 ·rintro⟨v,h',h1,h2⟩;exact⟨(v,h'),h1,h2⟩
 ·rintro⟨⟨v,h'⟩,h1,h2⟩;exact⟨v,h',h1,h2⟩
theorem wps_nil {pr:Prog} {K:Fr→Heap→Prop} {t:Fr} {h:Heap}:wps pr [] K t h=K t h:=rfl
theorem wps_cons {pr:Prog} {x:XO} {l:List XO} {K:Fr→Heap→Prop} {t:Fr} {h:Heap}:wps pr (x::l) K t h=∃r,zu (cfi pr) t h x=some r∧r.2=h∧wps pr l K (t.put x.dst r.1) h:=by
 simp only[wps]
 apply propext
 constructor
 ·rintro⟨v,h1,h2⟩;exact⟨(v,h),h1,rfl,h2⟩
 ·rintro⟨⟨v,h'⟩,h1,h2,h3⟩;cases h2;exact⟨v,h1,h3⟩
theorem zGJ {α:Type} {a:α} {p:α→Prop}:(∃r,some a=some r∧p r)=p a:=by simp
theorem some_ex2 {α:Type} {a:α} {q p:α→Prop}:(∃r,some a=some r∧q r∧p r)=(q a∧p a):=by simp
section
variable {cf:CallF} {t:Fr} {h:Heap} {d:Option Nat}
theorem zZe {op:XOp}:zu cf t h ⟨d,op,none⟩=zs cf t h op:=rfl
theorem zZc {op:XOp} {s:Nat} {b:Bool}:zu cf t h ⟨d,op,some (s,b)⟩=cond (zAD t (some (s,b))) (zs cf t h op) (some (.tuple #[],h)):=rfl
def zEE (h:Heap):Option Value→Option (Value×Heap)
 | some v=>some (v,h)
 | none=>none
theorem zZt {v:Value}:zEE h (some v)=some (v,h):=rfl
theorem stepO_p {o:POp}:zs cf t h (.p o)=zEE h (zT t o):=by simp only[zs,zEE];cases zT t o<;>rfl
theorem stepO_r {o:ROp}:zs cf t h (.r o)=zEE h (zk t h o):=by simp only[zs,zEE];cases zk t h o<;>rfl
theorem zZY {f:Nat} {asx:List Operand} {pr:Prog}:zs (cfi pr) t h (.call (.func f) asx)=cfi pr f (asx.map t.eval) h:=by
 simp[zs,Fr.eval]
theorem zBy {pr:Prog} {f:Nat} {g:List Value→Heap→Option (Value×Heap)} {asx:List Value} {r:Value×Heap} (hg:pr.prim f=some g) (hr:g asx h=some r):cfi pr f asx h=some r:=zHB hg hr
theorem eval_tmp {i:Nat}:t.eval (.tmp i)=t.get i:=rfl
theorem zYC {v:Value}:t.eval (.const v)=v:=rfl
theorem put_some {i:Nat} {v:Value}:t.put (some i) v=PT.set t i v:=rfl
theorem put_none {v:Value}:t.put none v=t:=rfl
theorem get_put {i j:Nat} {v:Value}:Fr.get (PT.set t i v) j=if j=i then v else Fr.get t j:=Fr.get_set t i j v
theorem p_mov {x:Operand}:zT t (.mov x)=some (t.eval x):=rfl
theorem p_bin {op:BinOp} {x y:Operand}:zT t (.bin op x y)=binX op (t.eval x) (t.eval y):=rfl
theorem p_un {op:UnOp} {x:Operand}:zT t (.un op x)=unX op (t.eval x):=rfl
def lenSV:Value→Option Value|.string s=>some (.int .i64 s.data.toList.length)|_=>none
theorem p_lenS {x:Operand}:zT t (.lenS x)=lenSV (t.eval x):=by simp only[zT,lenSV];split<;>simp_all
theorem lenSV_s {s:ByteArray}:lenSV (.string s)=some (.int .i64 s.data.toList.length):=rfl
def zEe:Value→Option Value|.slice _ n _=>some (.int .i64 n)|_=>none
theorem p_lenV {x:Operand}:zT t (.lenV x)=zEe (t.eval x):=by simp only[zT,zEe];split<;>simp_all
theorem lenVV_s {a:Option Addr} {n c:Nat}:zEe (.slice a n c)=some (.int .i64 n):=rfl
def zAi (k:IntKind):Value→Option Value|.int _ n=>some (.int k (k.wrap n))|_=>none
theorem p_cint {k:IntKind} {x:Operand}:zT t (.cint k x)=zAi k (t.eval x):=by simp only[zT,zAi];split<;>simp_all
theorem zA {k k':IntKind} {n:Int}:zAi k (.int k' n)=some (.int k (k.wrap n)):=rfl
def pickV:Value→Value→Value→Option Value|.bool b,x,y=>some (if b then x else y)|_,_,_=>none
theorem p_pick {c x y:Operand}:zT t (.pick c x y)=pickV (t.eval c) (t.eval x) (t.eval y):=by simp only[zT,pickV];split<;>simp_all
theorem pickV_b {b:Bool} {x y:Value}:pickV (.bool b) x y=some (if b then x else y):=rfl
def eqlV (neg:Bool):Option Bool→Option Value|some b=>some (.bool (if neg then !b else b))|none=>none
theorem p_eql {neg:Bool} {k:EqK} {x y:Operand}:zT t (.eql neg k x y)=eqlV neg (eqX k (t.eval x) (t.eval y)):=by simp only[zT,eqlV];cases eqX k (t.eval x) (t.eval y)<;>rfl
theorem zX5 {neg b:Bool}:eqlV neg (some b)=some (.bool (if neg then !b else b)):=rfl
theorem eqX_s {a b:ByteArray}:eqX .str (.string a) (.string b)=some (a.data.toList==b.data.toList):=rfl
theorem eqX_i {k:IntKind} {a b:Int}:eqX .int (.int k a) (.int k b)=some (a==b):=by simp[eqX]
theorem eqX_b {a b:Bool}:eqX .bool (.bool a) (.bool b)=some (a==b):=rfl
theorem zJt {k:IntKind} {a b:Int}:binX .add (.int k a) (.int k b)=some (.int k (k.wrap (a+b))):=by simp[binX,zx]
theorem zJw {k:IntKind} {a b:Int}:binX .sub (.int k a) (.int k b)=some (.int k (k.wrap (a - b))):=by simp[binX,zx]
theorem zJu {k:IntKind} {a b:Int}:binX .mul (.int k a) (.int k b)=some (.int k (k.wrap (a*b))):=by simp[binX,zx]
theorem bin_and {k:IntKind} {a b:Int}:binX .and (.int k a) (.int k b)=some (.int k (k.wrap (BitVec.ofInt k.bits a &&& BitVec.ofInt k.bits b).toNat)):=by simp[binX,zx]
theorem bin_or {k:IntKind} {a b:Int}:binX .or (.int k a) (.int k b)=some (.int k (k.wrap (BitVec.ofInt k.bits a ||| BitVec.ofInt k.bits b).toNat)):=by simp[binX,zx]
theorem bin_xor {k:IntKind} {a b:Int}:binX .xor (.int k a) (.int k b)=some (.int k (k.wrap (BitVec.ofInt k.bits a ^^^ BitVec.ofInt k.bits b).toNat)):=by simp[binX,zx]
theorem bin_lss {k:IntKind} {a b:Int}:binX .lss (.int k a) (.int k b)=some (.bool (decide (a<b))):=by simp only[binX,zx,zEc,zCL,if_true]
theorem bin_leq {k:IntKind} {a b:Int}:binX .leq (.int k a) (.int k b)=some (.bool (decide (a≤b))):=by simp only[binX,zx,zEc,zCL,if_true]
theorem bin_gtr {k:IntKind} {a b:Int}:binX .gtr (.int k a) (.int k b)=some (.bool (decide (a>b))):=by simp only[binX,zx,zEc,zCL,if_true]
theorem bin_geq {k:IntKind} {a b:Int}:binX .geq (.int k a) (.int k b)=some (.bool (decide (a≥b))):=by simp only[binX,zx,zEc,zCL,if_true]
theorem bin_rem {k:IntKind} {a b:Int} (hb:b≠0):binX .rem (.int k a) (.int k b)=some (.int k (a.tmod b)):=by simp[binX,zx,hb]
theorem bin_shl {k k':IntKind} {a b:Int} (hb:0≤b):binX .shl (.int k a) (.int k' b)=some (.int k (k.wrap (a*2 ^ (min b.toNat k.bits)))):=by
 simp only[binX];rw[if_neg (by omega)]
theorem zJv {k k':IntKind} {a b:Int} (hb:0≤b):binX .shr (.int k a) (.int k' b)=some (.int k (a.fdiv (2 ^ (min b.toNat k.bits)))):=by
 simp only[binX];rw[if_neg (by omega)]
theorem zGr {a b:List UInt8} (hl:a.length+b.length≤zU):binX .add (.string (strOf a)) (.string (strOf b))=some (.string (strOf (a++b))):=by
 simp only[binX,zCB,zAk];rw[if_neg (by omega)]
theorem un_not {b:Bool}:unX .not (.bool b)=some (.bool (!b)):=rfl
theorem un_neg {k:IntKind} {n:Int}:unX .neg (.int k n)=some (.int k (k.wrap (0 - n))):=rfl
end
end Go.X
namespace Go.X
def ifB (v:Value) (p q:Prop):Prop:=match v with|.bool true=>p|.bool false=>q|_=>False
theorem ifB_bool {b:Bool} {p q:Prop}:ifB (.bool b) p q=((b=true→p)∧(b=false→q)):=by cases b<;>simp[ifB]
theorem ifB_t {p q:Prop}:ifB (.bool true) p q=p:=rfl
theorem ifB_f {p q:Prop}:ifB (.bool false) p q=q:=rfl
theorem zD {pr:Prog} {k:List KI} {Q:XE→Fr→Heap→Prop} {t:Fr} {h:Heap} {c:Operand} {a b:XC} (hw:ifB (t.eval c) (wpk pr a k Q t h) (wpk pr b k Q t h)):wpk pr (.cond c a b) k Q t h:=by
 cases hv:t.eval c with
 | bool x =>
  rw[hv] at hw
  cases x with
  | true=>exact wpk_if hv (fun _=>hw) (fun h=>by cases h)
  | false=>exact wpk_if hv (fun h=>by cases h) (fun _=>hw)
 | _=>rw[hv] at hw;exact hw.elim
theorem res_tmp {t:Fr} {h:Heap} {i:Nat}:zAI t h [.tmp i]=some (t.get i):=rfl
theorem res_none {t:Fr} {h:Heap}:zAI t h []=some (.tuple #[]):=rfl
theorem res_two {t:Fr} {h:Heap} {i j:Nat}:zAI t h [.tmp i,.tmp j]=some (.tuple #[t.get i,t.get j]):=rfl
theorem zZC {t:Fr} {h:Heap} {i j k:Nat}:zAI t h [.tmp i,.tmp j,.tmp k]=some (.tuple #[t.get i,t.get j,t.get k]):=rfl
end Go.X
namespace Go.X
def zAj (x:Option Value) (d y:Nat):Option Nat:=match x with
 | none=>some d
 | some (.int _ i)=>if 0≤i∧i≤y then some i.toNat else none
 | some _=>none
theorem boundX_v {t:Fr} {x:Option Operand} {d y:Nat}:zBv t x d y=zAj (x.map t.eval) d y:=by
 cases x with
 | none=>rfl
 | some x=>simp only[zBv,zAj,Option.map];cases t.eval x<;>rfl
def zAu (len cap:Nat) (lo hi mx:Option Value):Option (Nat×Nat×Nat) :=
 match zAj mx cap cap with
 | some m=>match zAj hi len m with
  | some h=>match zAj lo 0 h with
   | some l=>some (l,h,m)
   | none=>none
  | none=>none
 | none=>none
theorem zJy {t:Fr} {len cap:Nat} {lo hi mx:Option Operand}:zBw t len cap lo hi mx=zAu len cap (lo.map t.eval) (hi.map t.eval) (mx.map t.eval):=by
 unfold zBw zAu
 simp only[boundX_v]
 cases zAj (Option.map t.eval mx) cap cap with
 | none=>rfl
 | some m =>
  dsimp only
  cases zAj (Option.map t.eval hi) len m with
  | none=>rfl
  | some e =>
   dsimp only
   cases zAj (Option.map t.eval lo) 0 e<;>rfl
def cutV (s:List UInt8):Option (Nat×Nat×Nat)→Option Value
 | some (l,e,_)=>some (.string (strOf ((s.drop l).take (e - l))))
 | none=>none
def zBq (v:Value) (lo hi:Option Value):Option Value:=match v with
 | .string s=>cutV s.data.toList (zAu s.data.toList.length s.data.toList.length lo hi none)
 | _=>none
theorem p_slcS {t:Fr} {x:Operand} {lo hi:Option Operand}:zT t (.slcS x lo hi)=zBq (t.eval x) (lo.map t.eval) (hi.map t.eval):=by
 simp only[zT,zBq]
 cases t.eval x<;>try rfl
 simp only[zJy,Option.map]
 split<;>simp_all [cutV]
theorem zFS {k:IntKind} {i:Int} {d y:Nat}:zAj (some (.int k i)) d y=if 0≤i∧i≤y then some i.toNat else none:=rfl
theorem slcSV_to {s:List UInt8} {k:IntKind} {j:Int}:zBq (.string (strOf s)) none (some (.int k j))=if 0≤j∧j≤s.length then some (.string (strOf (s.take j.toNat))) else none:=by
 simp only[zBq,zAu,zFS,zAk]
 by_cases hb:0≤j∧j≤(s.length:Int)
 ·simp[zAj,hb,cutV]
 ·simp[zAj,hb,cutV]
theorem zZS {s:List UInt8} {k k':IntKind} {i j:Int}:zBq (.string (strOf s)) (some (.int k i)) (some (.int k' j))=if 0≤i∧i≤j∧j≤s.length then some (.string (strOf ((s.drop i.toNat).take (j.toNat - i.toNat)))) else none:=by
 simp only[zBq,zAu,zFS,zAk]
 by_cases hb:0≤i∧i≤j∧j≤(s.length:Int)
 ·rw[if_pos hb]
  simp only[zAj]
  rw[if_pos (by omega)]
  simp only[zFS]
  rw[if_pos (by omega)]
  rfl
 ·rw[if_neg hb]
  simp only[zAj]
  by_cases hc:0≤j∧j≤(s.length:Int)
  ·rw[if_pos hc]
   simp only[zFS]
   rw[if_neg (by omega)]
   rfl
  ·rw[if_neg hc];rfl
end Go.X
namespace Go.X
theorem eval_T {t:Fr} {i:Nat}:t.eval (T i)=t.get i:=rfl
theorem eval_C {t:Fr} {v:Value}:t.eval (C v)=v:=rfl
end Go.X
namespace Go.X
theorem res_tmpE {t:Fr} {h:Heap} {i:Nat} {v:Value}:(zAI t h [.tmp i]=some v)=(t.get i=v):=by simp[res_tmp]
theorem zZB {t:Fr} {h:Heap} {v:Value}:(zAI t h []=some v)=(.tuple #[]=v):=by simp[res_none]
theorem res_twoE {t:Fr} {h:Heap} {i j:Nat} {v:Value}:(zAI t h [.tmp i,.tmp j]=some v)=(.tuple #[t.get i,t.get j]=v):=by simp[res_two]
theorem zZD {t:Fr} {h:Heap} {i j k:Nat} {v:Value}:(zAI t h [.tmp i,.tmp j,.tmp k]=some v)=(.tuple #[t.get i,t.get j,t.get k]=v):=by simp[zZC]
end Go.X
namespace Go.X
theorem imp_t {p:Prop}:(True→p)=p:=propext ⟨fun h=>h trivial,fun h _=>h⟩
theorem imp_f {p:Prop}:(False→p)=True:=propext ⟨fun _=>trivial,fun _ h=>h.elim⟩
end Go.X
end
section
namespace Go.X
def uw (k:IntKind) (x:Nat):Value:=.int k ((x % 2 ^ k.bits:Nat):Int)
theorem zIm {k:IntKind} (hk:k.signed=false) (n:Int):k.wrap n=n % (2 ^ k.bits:Int):=by
 simp[IntKind.wrap,hk]
theorem zBr {k:IntKind} (hk:k.signed=false) (n:Nat):k.wrap (n:Int)=((n % 2 ^ k.bits:Nat):Int):=by
 rw[zIm hk];simp
section
variable {k:IntKind} {x y:Nat}
theorem zGY (h:x % 2 ^ k.bits=y % 2 ^ k.bits):uw k x=uw k y:=by unfold uw;rw[h]
theorem uw_mod:uw k (x % 2 ^ k.bits)=uw k x:=zGY (Nat.mod_mod _ _)
theorem zIY (hk:k.signed=false):binX .add (uw k x) (uw k y)=some (uw k (x+y)):=by
 unfold uw
 rw[zJt,←Int.natCast_add,zBr hk,←Nat.add_mod]
theorem zIb (hk:k.signed=false):binX .mul (uw k x) (uw k y)=some (uw k (x*y)):=by
 unfold uw
 rw[zJu,←Int.natCast_mul,zBr hk,←Nat.mul_mod]
theorem zCZ (n m:Nat):BitVec.ofInt n ((m:Nat):Int)=BitVec.ofNat n m:=by simp
theorem zIg (hk:k.signed=false):binX .xor (uw k x) (uw k y)=some (uw k (x ^^^ y)):=by
 unfold uw
 rw[bin_xor,zCZ,zCZ,zBr hk]
 simp only[BitVec.toNat_xor,BitVec.toNat_ofNat,Nat.mod_mod,Nat.xor_mod_two_pow]
theorem zGW (hk:k.signed=false):binX .and (uw k x) (uw k y)=some (uw k (x &&& y)):=by
 unfold uw
 rw[bin_and,zCZ,zCZ,zBr hk]
 simp only[BitVec.toNat_and,BitVec.toNat_ofNat,Nat.mod_mod,Nat.and_mod_two_pow]
theorem uw_or (hk:k.signed=false):binX .or (uw k x) (uw k y)=some (uw k (x ||| y)):=by
 unfold uw
 rw[bin_or,zCZ,zCZ,zBr hk]
 simp only[BitVec.toNat_or,BitVec.toNat_ofNat,Nat.mod_mod,Nat.or_mod_two_pow]
theorem uw_shl {k':IntKind} (hk:k.signed=false) {n:Nat} (hn:n≤k.bits):binX .shl (uw k x) (.int k' (n:Int))=some (uw k (x <<< n)):=by
 unfold uw
 rw[bin_shl (by omega),Int.toNat_natCast,Nat.min_eq_left hn]
 have:(((x % 2 ^ k.bits:Nat):Int)*2 ^ n)=(((x % 2 ^ k.bits)*2 ^ n:Nat):Int):=by simp
 rw[this,zBr hk,Nat.shiftLeft_eq,Nat.mul_mod,Nat.mod_mod,←Nat.mul_mod]
theorem zGZ {k':IntKind} {n:Nat} (hn:n≤k.bits):binX .shr (uw k x) (.int k' (n:Int))=some (uw k ((x % 2 ^ k.bits) >>> n)):=by
 unfold uw
 rw[zJv (by omega),Int.toNat_natCast,Nat.min_eq_left hn]
 have h1:(((x % 2 ^ k.bits:Nat):Int).fdiv (2 ^ n))=(((x % 2 ^ k.bits) / 2 ^ n:Nat):Int):=by
  rw[Int.fdiv_eq_ediv_of_nonneg _ (by exact Int.le_of_lt (Int.pow_pos (by omega)))]
  simp
 rw[h1,Nat.shiftRight_eq_div_pow]
 rw[Nat.mod_eq_of_lt (Nat.lt_of_le_of_lt (Nat.div_le_self _ _) (Nat.mod_lt _ (Nat.two_pow_pos _)))]
theorem zE2 {k':IntKind} (hk:k.signed=false) {n:Nat}:zAi k (.int k' (n:Int))=some (uw k n):=by
 unfold uw
 rw[zA,zBr hk]
theorem zED {k':IntKind} (hk:k.signed=false) (hk':k.bits≤k'.bits):zAi k (uw k' x)=some (uw k x):=by
 unfold uw
 rw[zA,zBr hk,Nat.mod_mod_of_dvd _ (Nat.pow_dvd_pow 2 hk')]
theorem zIZ {k':IntKind} (hk:k.signed=false):zAi k (uw k' x)=some (uw k (x % 2 ^ k'.bits)):=by
 unfold uw
 rw[zA,zBr hk]
theorem zIa (hk:k.signed=false):unX .xor (uw k x)=some (uw k (2 ^ k.bits - 1 - x % 2 ^ k.bits)):=by
 unfold uw
 have hmax:(if k.signed=true then (-1:Int) else k.max)=((2 ^ k.bits - 1:Nat):Int):=by
  rw[hk];simp only[Bool.false_eq_true,if_false,IntKind.max,hk]
  rw[Int.natCast_sub (Nat.two_pow_pos _)];simp
 simp only[unX,hmax]
 rw[zCZ,zCZ,zBr hk]
 congr 4
 have hx:x % 2 ^ k.bits<2 ^ k.bits:=Nat.mod_lt _ (Nat.two_pow_pos _)
 have h2:BitVec.ofNat k.bits (2 ^ k.bits - 1)=BitVec.allOnes k.bits:=by
  apply BitVec.eq_of_toNat_eq;simp
 rw[h2,BitVec.allOnes_xor]
 simp[BitVec.toNat_not]
end
theorem zZn:IntKind.u8.signed=false:=rfl
theorem zGV:IntKind.u64.signed=false:=rfl
theorem zIX:IntKind.u8.bits=8:=rfl
theorem zDb:IntKind.u32.bits=32:=rfl
theorem zGU:IntKind.u64.bits=64:=rfl
section
variable {k k':IntKind} {x:Nat}
theorem zId {n:Nat} (hk:k.signed=false) (hn:n≤k.bits):binX .shl (uw k x) (.int k' (OfNat.ofNat n))=some (uw k (x <<< n)):=uw_shl hk hn
theorem zIe {n:Nat} (hn:n≤k.bits):binX .shr (uw k x) (.int k' (OfNat.ofNat n))=some (uw k ((x % 2 ^ k.bits) >>> n)):=zGZ hn
theorem uw_lit {n:Nat} (hn:n<2 ^ k.bits):Value.int k (OfNat.ofNat n)=uw k n:=by
 unfold uw;rw[Nat.mod_eq_of_lt hn];rfl
theorem zIc {n:Nat} (hn:n<2 ^ k.bits):Value.int k (n:Int)=uw k n:=by
 unfold uw;rw[Nat.mod_eq_of_lt hn]
theorem zIf {c:Nat} (hk:k.signed=false) (hc:2 ^ k.bits - 1=c):binX .sub (.int k (OfNat.ofNat c)) (uw k x)=some (uw k (c - x % 2 ^ k.bits)):=by
 unfold uw
 rw[zJw]
 have hx:x % 2 ^ k.bits<2 ^ k.bits:=Nat.mod_lt _ (Nat.two_pow_pos _)
 have:((OfNat.ofNat c:Int) - ((x % 2 ^ k.bits:Nat):Int))=((c - x % 2 ^ k.bits:Nat):Int):=by
  rw[Int.natCast_sub (by omega)];rfl
 rw[this,zBr hk]
end
section
variable {k':IntKind} {x y:Nat}
theorem add_u8:binX .add (uw .u8 x) (uw .u8 y)=some (uw .u8 (x+y)):=zIY rfl
theorem mul_u8:binX .mul (uw .u8 x) (uw .u8 y)=some (uw .u8 (x*y)):=zIb rfl
theorem xor_u8:binX .xor (uw .u8 x) (uw .u8 y)=some (uw .u8 (x ^^^ y)):=zIg rfl
theorem and_u8:binX .and (uw .u8 x) (uw .u8 y)=some (uw .u8 (x &&& y)):=zGW rfl
theorem or_u8:binX .or (uw .u8 x) (uw .u8 y)=some (uw .u8 (x ||| y)):=uw_or rfl
theorem shl_u8 {n:Nat} (hn:n≤8):binX .shl (uw .u8 x) (.int k' (OfNat.ofNat n))=some (uw .u8 (x <<< n)):=zId rfl hn
theorem shr_u8 {n:Nat} (hn:n≤8):binX .shr (uw .u8 x) (.int k' (OfNat.ofNat n))=some (uw .u8 ((x % 256) >>> n)):=zIe hn
theorem shrV_u8 {n:Nat} (hn:n≤8):binX .shr (uw .u8 x) (.int k' (n:Int))=some (uw .u8 ((x % 256) >>> n)):=zGZ hn
theorem com_u8:unX .xor (uw .u8 x)=some (uw .u8 (255 - x % 256)):=zIa rfl
theorem subM_u8:binX .sub (.int .u8 255) (uw .u8 x)=some (uw .u8 (255 - x % 256)):=zIf rfl rfl
theorem nat_u8 {n:Nat} (hn:n<256):Value.int .u8 (n:Int)=uw .u8 n:=zIc hn
end
section
variable {k':IntKind} {x y:Nat}
theorem add_u32:binX .add (uw .u32 x) (uw .u32 y)=some (uw .u32 (x+y)):=zIY rfl
theorem mul_u32:binX .mul (uw .u32 x) (uw .u32 y)=some (uw .u32 (x*y)):=zIb rfl
theorem xor_u32:binX .xor (uw .u32 x) (uw .u32 y)=some (uw .u32 (x ^^^ y)):=zIg rfl
theorem and_u32:binX .and (uw .u32 x) (uw .u32 y)=some (uw .u32 (x &&& y)):=zGW rfl
theorem or_u32:binX .or (uw .u32 x) (uw .u32 y)=some (uw .u32 (x ||| y)):=uw_or rfl
theorem zL1 {n:Nat} (hn:n≤32):binX .shl (uw .u32 x) (.int k' (OfNat.ofNat n))=some (uw .u32 (x <<< n)):=zId rfl hn
theorem zIS {n:Nat} (hn:n≤32):binX .shr (uw .u32 x) (.int k' (OfNat.ofNat n))=some (uw .u32 ((x % 4294967296) >>> n)):=zIe hn
theorem shlV_u32 {n:Nat} (hn:n≤32):binX .shl (uw .u32 x) (.int k' (n:Int))=some (uw .u32 (x <<< n)):=uw_shl rfl hn
theorem zL3 {n:Nat} (hn:n≤32):binX .shr (uw .u32 x) (.int k' (n:Int))=some (uw .u32 ((x % 4294967296) >>> n)):=zGZ hn
theorem com_u32:unX .xor (uw .u32 x)=some (uw .u32 (4294967295 - x % 4294967296)):=zIa rfl
theorem subM_u32:binX .sub (.int .u32 4294967295) (uw .u32 x)=some (uw .u32 (4294967295 - x % 4294967296)):=zIf rfl rfl
end
section
variable {k':IntKind} {x y:Nat}
theorem add_u64:binX .add (uw .u64 x) (uw .u64 y)=some (uw .u64 (x+y)):=zIY rfl
theorem mul_u64:binX .mul (uw .u64 x) (uw .u64 y)=some (uw .u64 (x*y)):=zIb rfl
theorem xor_u64:binX .xor (uw .u64 x) (uw .u64 y)=some (uw .u64 (x ^^^ y)):=zIg rfl
theorem and_u64:binX .and (uw .u64 x) (uw .u64 y)=some (uw .u64 (x &&& y)):=zGW rfl
theorem or_u64:binX .or (uw .u64 x) (uw .u64 y)=some (uw .u64 (x ||| y)):=uw_or rfl
theorem zL2 {n:Nat} (hn:n≤64):binX .shl (uw .u64 x) (.int k' (OfNat.ofNat n))=some (uw .u64 (x <<< n)):=zId rfl hn
theorem shr_u64 {n:Nat} (hn:n≤64):binX .shr (uw .u64 x) (.int k' (OfNat.ofNat n))=some (uw .u64 ((x % 18446744073709551616) >>> n)):=zIe hn
theorem zL4 {n:Nat} (hn:n≤64):binX .shr (uw .u64 x) (.int k' (n:Int))=some (uw .u64 ((x % 18446744073709551616) >>> n)):=zGZ hn
theorem com_u64:unX .xor (uw .u64 x)=some (uw .u64 (18446744073709551615 - x % 18446744073709551616)):=zIa rfl
theorem subM_u64:binX .sub (.int .u64 18446744073709551615) (uw .u64 x)=some (uw .u64 (18446744073709551615 - x % 18446744073709551616)):=zIf rfl rfl
theorem zCp {n:Nat} (hn:n<18446744073709551616):Value.int .u64 (n:Int)=uw .u64 n:=zIc hn
end
theorem zXs {x:Nat}:zAi .u8 (uw .u8 x)=some (uw .u8 x):=zED rfl (by decide)
theorem zXq {x:Nat}:zAi .u8 (uw .u32 x)=some (uw .u8 x):=zED rfl (by decide)
theorem zXr {x:Nat}:zAi .u8 (uw .u64 x)=some (uw .u8 x):=zED rfl (by decide)
theorem zXm {x:Nat}:zAi .u32 (uw .u8 x)=some (uw .u32 (x % 256)):=zIZ rfl
theorem zXk {x:Nat}:zAi .u32 (uw .u32 x)=some (uw .u32 x):=zED rfl (by decide)
theorem zXl {x:Nat}:zAi .u32 (uw .u64 x)=some (uw .u32 x):=zED rfl (by decide)
theorem zXp {x:Nat}:zAi .u64 (uw .u8 x)=some (uw .u64 (x % 256)):=zIZ rfl
theorem zXn {x:Nat}:zAi .u64 (uw .u32 x)=some (uw .u64 (x % 4294967296)):=zIZ rfl
theorem zXo {x:Nat}:zAi .u64 (uw .u64 x)=some (uw .u64 x):=zED rfl (by decide)
theorem wrap_i64 {x:Int} (h1:-9223372036854775808≤x) (h2:x<9223372036854775808):IntKind.i64.wrap x=x:=by
 simp only[IntKind.wrap,IntKind.bits,IntKind.signed]
 simp only[Bool.true_and,decide_eq_true_eq,Int.reducePow,Nat.reduceSub,ge_iff_le]
 split<;>omega
end Go.X
end
section
namespace Go.X
def Var (h:Heap) (A:Nat) (l:List Value):Prop:=A<h.next∧h.blks.get A=some (.cells ⟨l,A,0,false⟩)∧∃s n,h.fams.get A=some ⟨s,A,n⟩
def Heap.wr (h:Heap) (A:Nat) (l:List Value):Heap:={ h with blks:=h.blks.set A (.cells ⟨l,A,0,false⟩),fams:=h.fams.set A ⟨h.next,A,match h.fams.get A with|some f=>f.top|none=>0⟩ }
section
variable {h h0:Heap} {A B:Nat} {l m:List Value}
theorem wr_next:(h.wr A l).next=h.next:=rfl
theorem new_next:(h.new l).next=h.next+1:=rfl
theorem Var.ok (hv:Var h A l):h.okCells A=some ⟨l,A,0,false⟩:=by
 obtain⟨_,h1,s,n,h2⟩:=hv
 unfold Heap.okCells
 rw[h1]
 dsimp only
 rw[h2]
 simp
theorem Var.load (hv:Var h A l) {i:Nat} {sp:Option Nat}:h.load ⟨A,i,sp⟩=l[i]?:=by simp only[Heap.load,hv.ok]
theorem Var.loadN (hv:Var h A l) {i n:Nat} {sp:Option Nat}:h.loadN ⟨A,i,sp⟩ n=zAg l i n:=by simp only[Heap.loadN,hv.ok]
theorem Var.all (hv:Var h A l) {sp:Option Nat}:h.loadN ⟨A,0,sp⟩ l.length=some l:=by
 rw[hv.loadN];simp[zAg,Nat.ble_eq_true_of_le (Nat.le_refl l.length)]
theorem Var.store (hv:Var h A l) {i:Nat} {sp:Option Nat} {vs:List Value} (hi:i+vs.length≤l.length) (ho:vs.all oneC=true):h.store ⟨A,i,sp⟩ vs=some (h.wr A (putN l i vs)):=by
 obtain⟨_,_,s,n,h2⟩:=id hv
 simp only[Heap.store,hv.ok]
 have hb:(i+vs.length).ble l.length=true:=Nat.ble_eq_true_of_le hi
 rw[hb,ho]
 simp[h2,Heap.wr]
theorem Var.wr (hv:Var h A l):Var (h.wr A m) A m:=⟨hv.1,PT.get_set_eq _ _ _,h.next,_,PT.get_set_eq _ _ _⟩
theorem Var.wr_ne (hv:Var h B l) (hne:B≠A):Var (h.wr A m) B l:=by
 obtain⟨h0,h1,s,n,h2⟩:=hv
 exact⟨h0,by rw[←h1];exact PT.get_set_ne _ _ hne,s,n,by rw[←h2];exact PT.get_set_ne _ _ hne⟩
theorem Var.new_self:Var (h.new l) h.next l:=⟨Nat.lt_succ_self _,PT.get_set_eq _ _ _,_,_,PT.get_set_eq _ _ _⟩
theorem Var.new_old (hv:Var h B l):Var (h.new m) B l:=by
 obtain⟨h0,h1,s,n,h2⟩:=hv
 have hne:B≠h.next:=by omega
 exact⟨Nat.lt_succ_of_lt h0,by rw[←h1];exact PT.get_set_ne _ _ hne,s,n,by rw[←h2];exact PT.get_set_ne _ _ hne⟩
theorem Grows.new:Grows h (h.new l):=⟨Nat.le_succ _,fun A hA=>PT.get_set_ne _ _ (by omega),fun A hA=>PT.get_set_ne _ _ (by omega)⟩
theorem zYt:(h.newB l).next=h.next+1:=rfl
theorem Grows.newB:Grows h (h.newB l):=⟨Nat.le_succ _,fun A hA=>PT.get_set_ne _ _ (by omega),fun A hA=>PT.get_set_ne _ _ (by omega)⟩
theorem Grows.wr (hg:Grows h0 h) (hA:h0.next≤A):Grows h0 (h.wr A l) :=
 ⟨hg.next,fun B hB=>(PT.get_set_ne _ _ (by omega)).trans (hg.blks B hB),fun B hB=>(PT.get_set_ne _ _ (by omega)).trans (hg.fams B hB)⟩
variable {cf:CallF} {t:Fr}
def mkH (h:Heap):Option (NBlk×Mk)→Option (Value×Heap)
 | some (b,mk)=>some (mk.val h.next,h.push b)
 | none=>none
theorem stepO_a {o:AOp}:zs cf t h (.a o)=mkH h (zAT t o):=by simp only[zs,mkH];cases zAT t o<;>rfl
theorem zYr {mk:Mk}:mkH h (some (.cells l,mk))=some (mk.val h.next,h.new l):=rfl
theorem zYq {mk:Mk}:mkH h (some (.bytes l,mk))=some (mk.val h.next,h.newB l):=rfl
theorem stepO_e {o:EOp}:zs cf t h (.e o)=effX t h o:=rfl
theorem al_alloc {z:List Value}:zAT t (.alloc z)=some (.cells z,.ptr):=rfl
theorem al_box {x:Operand}:zAT t (.box x)=some (.cells (zl (t.eval x)),.ptr):=rfl
def cs2bV:Value→Option (NBlk×Mk)
 | .string s=>some (.bytes (zV s.data.toList),.slice s.data.toList.length s.data.toList.length (some 1))
 | _=>none
theorem al_cs2b {x:Operand}:zAT t (.cs2b x)=cs2bV (t.eval x):=by simp only[zAT,cs2bV];cases t.eval x<;>rfl
theorem zFa {s:List UInt8}:cs2bV (.string (strOf s))=some (.bytes (zV s),.slice s.length s.length (some 1)):=rfl
theorem val_ptr {id:Nat}:Mk.val id .ptr=.pointer (some ⟨id,0,none⟩):=rfl
theorem zZo {id n c:Nat} {sp:Option Nat}:Mk.val id (.slice n c sp)=.slice (some ⟨id,0,sp⟩) n c:=rfl
def zDm:Option Heap→Option (Value×Heap)
 | some h=>some (.tuple #[],h)
 | none=>none
theorem zXz:zDm (some h)=some (.tuple #[],h):=rfl
def zAG (h:Heap) (n:Nat) (a v:Value):Option (Value×Heap):=match a with
 | .pointer (some a)=>if (zl v).length=n then (if n=0 then none else zDm (h.store a (zl v))) else none
 | _=>none
theorem e_storeV {n:Nat} {a v:Operand}:effX t h (.store n a v)=zAG h n (t.eval a) (t.eval v):=by
 simp only[effX,zAG]
 cases t.eval a with
 | pointer a =>
  cases a with
  | none=>rfl
  | some a =>
   dsimp only
   split
   ·split
    ·rfl
    ·cases h.store a (zl (t.eval v))<;>rfl
   ·rfl
 | _=>rfl
theorem zY {a:Addr} {v:Value} (hv:zl v=[v]):zAG h 1 (.pointer (some a)) v=zDm (h.store a [v]):=by simp[zAG,hv]
theorem zMB {n:Nat} {a:Addr} {cs:List Value} (hn:cs.length=n) (h0:n≠0):zAG h n (.pointer (some a)) (.agg cs.toArray)=zDm (h.store a cs):=by
 simp[zAG,zl,hn,h0]
theorem zFX {k:IntKind} {x:Nat}:zl (uw k x)=[uw k x]:=rfl
theorem zXe {k:IntKind} {x:Int}:zl (.int k x)=[.int k x]:=rfl
theorem zHA {s:ByteArray}:zl (.string s)=[.string s]:=rfl
theorem zXd {b:Bool}:zl (.bool b)=[.bool b]:=rfl
def zHp (h:Heap):Value→Option Value|.pointer (some a)=>h.load a|_=>none
theorem zAA {a:Operand}:zk t h (.load1 a)=zHp h (t.eval a):=by
 simp only[zk,zHp]
 cases t.eval a with
 | pointer a=>cases a<;>rfl
 | _=>rfl
theorem zz {a:Addr}:zHp h (.pointer (some a))=h.load a:=rfl
def aggV:Option (List Value)→Option Value|some l=>some (.agg l.toArray)|none=>none
def zHq (h:Heap) (n:Nat):Value→Option Value|.pointer (some a)=>aggV (h.loadN a n)|_=>none
theorem zAB {n:Nat} {a:Operand}:zk t h (.loadN n a)=zHq h n (t.eval a):=by
 simp only[zk,zHq]
 cases t.eval a with
 | pointer a =>
  cases a with
  | none=>rfl
  | some a=>dsimp only;cases h.loadN a n<;>rfl
 | _=>rfl
theorem z8 {n:Nat} {a:Addr}:zHq h n (.pointer (some a))=aggV (h.loadN a n):=rfl
theorem zw:aggV (some l)=some (.agg l.toArray):=rfl
def zBP (n esz:Nat):Value→Value→Option Value
 | .pointer (some a),.int _ i=>if 0≤i∧i<n then some (.pointer (some ⟨a.block,a.off+i.toNat*esz,a.spot⟩)) else none
 | _,_=>none
theorem p_iaddrA {n esz:Nat} {x i:Operand}:zT t (.iaddrA n esz x i)=zBP n esz (t.eval x) (t.eval i):=by
 simp only[zT,zBP]
 cases t.eval x with
 | pointer a =>
  cases a with
  | none=>cases t.eval i<;>rfl
  | some a=>cases t.eval i<;>rfl
 | _=>rfl
theorem zBQ {n:Nat} {k:IntKind} {i:Nat} (hi:i<n):zBP n 1 (.pointer (some ⟨A,0,none⟩)) (.int k (OfNat.ofNat i))=some (.pointer (some ⟨A,i,none⟩)):=by
 have e:(OfNat.ofNat i:Int)=(i:Int):=rfl
 simp only[zBP,e]
 rw[if_pos (by omega)]
 simp
theorem zBY {n:Nat} {k:IntKind} {i:Nat} (hi:i<n):zBP n 1 (.pointer (some ⟨A,0,none⟩)) (.int k (i:Int))=some (.pointer (some ⟨A,i,none⟩)):=zBQ hi
end
end Go.X
namespace Go.X
theorem zLy {α:Type}:∀ (p:List Bool) (t:PT α) (a b:α),PT.setP (PT.setP t p a) p b=PT.setP t p b
 | [],t,a,b=>by cases t<;>rfl
 | c::p,t,a,b=>by cases t<;>cases c<;>simp only[PT.setP]<;>rw[zLy p]
theorem set_set {α:Type} (t:PT α) (n:Nat) (a b:α):(t.set n a).set n b=t.set n b:=zLy _ _ _ _
section
variable {h:Heap} {A:Nat} {l m:List Value}
theorem wr_wr:(h.wr A l).wr A m=h.wr A m:=by
 unfold Heap.wr
 simp only[set_set,PT.get_set_eq]
theorem Var.wr_load (hv:Var h A m) {i:Nat}:(h.wr A l).load ⟨A,i,none⟩=l[i]?:=hv.wr.load
theorem Var.wr_store (hv:Var h A m) {i:Nat} {v:Value} (hi:i<l.length) (ho:oneC v=true):(h.wr A l).store ⟨A,i,none⟩ [v]=some (h.wr A (l.set i v)):=by
 rw[hv.wr.store (show i+1≤l.length from hi) (by simp[ho]),wr_wr]
 congr 2
 simp only[putN,List.length_singleton]
 rw[List.set_eq_take_append_cons_drop,if_pos hi]
 simp
end
end Go.X
namespace Go.X
section
variable {h:Heap} {A:Nat} {l m:List Value}
theorem Var.storeAll (hv:Var h A l) {n:Nat} {vs:List Value} (hn:vs.length=n) (hl:l.length=n) (h0:n≠0) (ho:vs.all oneC=true):zAG h n (.pointer (some ⟨A,0,none⟩)) (.agg vs.toArray)=some (.tuple #[],h.wr A vs):=by
 rw[zMB hn h0,hv.store (by omega) ho]
 simp[putN,zDm,hn,hl]
 rw[List.drop_of_length_le (by omega)]
 simp
theorem Var.loadAll (hv:Var h A l) {n:Nat} (hl:l.length=n) {sp:Option Nat}:h.loadN ⟨A,0,sp⟩ n=some l:=by subst hl;exact hv.all
theorem zIG {t:Fr} {i n:Nat} {a:Addr} {vs:List Value} (ht:t.get i=.pointer (some a)) (hl:h.loadN a n=some vs):zAI t h [.cellN i n]=some (.agg vs.toArray):=by
 simp[zAI,zBF,resX,ht,hl,zB8]
theorem zD2 {k:IntKind} {l:List Nat}:(l.map (uw k)).all oneC=true:=by
 rw[List.all_eq_true];intro v hv
 obtain⟨x,_,rfl⟩:=List.mem_map.1 hv
 rfl
end
end Go.X
namespace Go.X
theorem zIi {h:Heap} {o:Option Value} {v:Value} {p:Value×Heap→Prop} (ho:o=some v) (hp:p (v,h)):∃r,zEE h o=some r∧p r:=⟨(v,h),by rw[ho];rfl,hp⟩
end Go.X
namespace Go.X
theorem Grows.ok {h h':Heap} (hg:Grows h h') (wf:HWF h) {A:Nat} {c:zA5} (hc:h.okCells A=some c):h'.okCells A=some c:=by
 have hb:=(okCells_iff.1 hc).1
 rw[zF1 (hg.blks A (wf.lt hb)) (fun c' hc'=>hg.fams c'.fam (wf.fam A c' hc').1)]
 exact hc
theorem Grows.load {h h':Heap} (hg:Grows h h') (wf:HWF h) {a:Addr} {v:Value} (hl:h.load a=some v):h'.load a=some v:=by
 unfold Heap.load at *
 split at hl
 ·rename_i c hc;rw[hg.ok wf hc];exact hl
 ·cases hl
theorem Grows.loadN {h h':Heap} (hg:Grows h h') (wf:HWF h) {a:Addr} {n:Nat} {l:List Value} (hl:h.loadN a n=some l):h'.loadN a n=some l:=by
 unfold Heap.loadN at *
 split at hl
 ·rename_i c hc;rw[hg.ok wf hc];exact hl
 ·cases hl
theorem zEf {h:Heap} {a:Addr} {n:Nat} {l:List Value} (hl:h.loadN a n=some l) {i:Nat} {v:Value} (hv:l[i]?=some v) {sp:Option Nat}:h.load ⟨a.block,a.off+i,sp⟩=some v:=by
 unfold Heap.loadN at hl
 unfold Heap.load
 split at hl
 ·rename_i c hc
  rw[hc]
  unfold zAg at hl
  cases hb:(a.off+n).ble c.cells.length with
  | false=>rw[hb] at hl;cases hl
  | true =>
   rw[hb] at hl
   cases hl
   dsimp only
   rw[List.getElem?_take] at hv
   split at hv
   ·rw[List.getElem?_drop] at hv;exact hv
   ·cases hv
 ·cases hl
def zA9 (esz:Nat):Value→Value→Option Value
 | .slice (some a) len _,.int _ i=>if 0≤i∧i<len then some (.pointer (some ⟨a.block,a.off+i.toNat*esz,none⟩)) else none
 | _,_=>none
theorem zBT {t:Fr} {esz:Nat} {x i:Operand}:zT t (.iaddrS esz x i)=zA9 esz (t.eval x) (t.eval i):=by
 simp only[zT,zA9]
 cases t.eval x with
 | slice a l c =>
  cases a with
  | none=>cases t.eval i<;>rfl
  | some a=>cases t.eval i<;>rfl
 | _=>rfl
theorem zCi {a:Addr} {n c i:Nat} {k:IntKind} (hi:i<n):zA9 1 (.slice (some a) n c) (.int k (i:Int))=some (.pointer (some ⟨a.block,a.off+i,none⟩)):=by
 simp only[zA9]
 rw[if_pos (by omega)]
 simp
end Go.X
namespace Go.X
theorem zc {h:Heap} {a:Addr} {k:IntKind} {x:Nat}:zAG h 1 (.pointer (some a)) (uw k x)=zDm (h.store a [uw k x]):=zY rfl
theorem zZP {l:List Value} {i:Nat} {v w:Value}:(l.set i v).set i w=l.set i w:=List.set_set _
end Go.X
end
section
namespace Go.X
open Go.RowKit
abbrev Prim:=List Value→Heap→Option (Value×Heap)
def Tab (P:Program) (l:List (Nat×Prim)):Prog:=⟨fun f=>(P.funcs[f]?).bind (zX P),fun f=>(l.find? (fun q=>q.1.beq f)).map (·.2)⟩
theorem Tab.nil {P:Program} (hm:P.follows .mixedOrders=true):XOK P (Tab P []):=by
 refine⟨hm,fun f F hF=>?_,fun f g hg=>by cases hg⟩
 simp only[Tab,Option.bind_eq_some_iff] at hF
 exact hF
theorem Tab.cons {P:Program} {l:List (Nat×Prim)} (ok:XOK P (Tab P l)) {f:Nat} {g:Prim}
  (hg:∀args h v h',g args h=some (v,h')→zBf P f∧h.next≤h'.next∧zCV P f args h v h'):XOK P (Tab P ((f,g)::l)):=by
 refine⟨ok.mixed,ok.code,fun k g' hk args h v h' hr=>?_⟩
 simp only[Tab,List.find?_cons] at hk
 cases hb:f.beq k with
 | false=>rw[hb] at hk;exact ok.prim k g' hk args h v h' hr
 | true =>
  rw[hb] at hk
  cases hk
  rw[←Nat.eq_of_beq_eq_true hb]
  exact hg args h v h' hr
def za (s:List Value→Option Value):Prim:=fun args h=>match s args with|some v=>some (v,h)|none=>none
theorem zEq {s:List Value→Option Value} {args:List Value} {h:Heap} {v:Value} (hs:s args=some v):za s args h=some (v,h):=by simp[za,hs]
theorem zG5 {P:Program} {f:Nat} {fn:Func} {F:XF} (hf:P.funcs[f]?=some fn) (hF:zX P fn=some F):zBf P f:=by
 unfold zX at hF
 split at hF
 ·rename_i c hbody
  split at hF
  ·split at hF
   ·rename_i hsz;exact⟨fn,hf,hsz.2,by rw[hbody];rfl⟩
   ·cases hF
  ·cases hF
 ·cases hF
theorem Tab.pure {P:Program} {l:List (Nat×Prim)} (ok:XOK P (Tab P l)) {f:Nat} {fn:Func} {F:XF} (hf:P.funcs[f]?=some fn) (hF:zX P fn=some F) {s:List Value→Option Value}
  (hs:∀args v,s args=some v→args.length=F.nargs∧zy v=true∧∀h,Comes (Tab P l) F args h v):XOK P (Tab P ((f,za s)::l)):=by
 refine Tab.cons ok fun args h v h' hr=>?_
 unfold za at hr
 split at hr
 ·rename_i v1 hv
  cases hr
  obtain⟨h1,h2,h3⟩:=hs args v hv
  exact⟨zG5 hf hF,Nat.le_refl _,zG6 ok hf hF h1 (fun _ _ _ _ _ _=>⟨v,zDI h2⟩) fun n _ _=>h3 _⟩
 ·cases hr
theorem zAQ {pr:Prog} {f:Nat} {s:List Value→Option Value} {args:List Value} {h:Heap} {v:Value} (hp:pr.prim f=some (za s)) (hs:s args=some v):cfi pr f args h=some (v,h):=zHB hp (zEq hs)
end Go.X
end
section
namespace Go.X
open Go.RowKit
theorem zYv {ρ:Ren} {v v':Value} (hv:zAE v=true) (h:VRel ρ v v'):v'=v:=by
 cases h with
 | bool b=>rfl
 | int k n=>rfl
 | float k n=>rfl
 | string s=>rfl
 | nilptr=>rfl
 | ptr h=>cases hv
 | nilslice=>rfl
 | slice h=>cases hv
 | nilmap=>rfl
 | map h=>cases hv
 | yield h=>cases hv
 | func=>cases hv
 | nilFunc=>rfl
 | iface h=>cases hv
 | nilIface=>rfl
 | agg=>cases hv
 | tuple=>cases hv
theorem zYw {ρ:Ren} {l l':List Value} (h:LRel ρ l l') (hl:l.all zAE=true):l'=l:=by
 induction h with
 | nil=>rfl
 | cons h _ ih =>
  simp only[List.all_cons,Bool.and_eq_true] at hl
  rw[zYv hl.1 h,ih hl.2]
theorem zJp {a b:Array Value} (h:a.toList=b.toList):a=b:=by cases a;cases b;exact congrArg _ h
theorem zKV {ρ:Ren} {v v':Value} (hv:zDq v=true) (h:VRel ρ v v'):v'=v:=by
 cases h with
 | bool b=>rfl
 | int k n=>rfl
 | float k n=>rfl
 | string s=>rfl
 | nilptr=>rfl
 | ptr h=>cases hv
 | nilslice=>rfl
 | slice h=>cases hv
 | nilmap=>rfl
 | map h=>cases hv
 | yield h=>cases hv
 | func=>cases hv
 | nilFunc=>rfl
 | iface h=>cases hv
 | nilIface=>rfl
 | agg ha h=>exact congrArg _ (zJp (zYw (zB1 ha h) hv))
 | tuple ha h=>cases hv
theorem zYM {ρ:Ren} {l l':List Value} (h:LRel ρ l l') (hl:l.all zDq=true):l'=l:=by
 induction h with
 | nil=>rfl
 | cons h _ ih =>
  simp only[List.all_cons,Bool.and_eq_true] at hl
  rw[zKV hl.1 h,ih hl.2]
theorem zFk {ρ:Ren} {v v':Value} (hv:zy v=true) (h:VRel ρ v v'):v'=v:=by
 cases h with
 | tuple ha h=>exact congrArg _ (zJp (zYM (zB1 ha h) hv))
 | bool b=>rfl
 | int k n=>rfl
 | float k n=>rfl
 | string s=>rfl
 | nilptr=>rfl
 | ptr h=>cases hv
 | nilslice=>rfl
 | slice h=>cases hv
 | nilmap=>rfl
 | map h=>cases hv
 | yield h=>cases hv
 | func=>cases hv
 | nilFunc=>rfl
 | iface h=>cases hv
 | nilIface=>rfl
 | agg ha h=>exact zKV (ρ:=ρ) hv (.agg ha h)
theorem zKX {ρ ρ':Ren} {l l':List Value} (h:LRel ρ l l') (hl:l.all zy=true):LRel ρ' l l':=by
 induction h with
 | nil=>exact .nil
 | cons h _ ih =>
  simp only[List.all_cons,Bool.and_eq_true] at hl
  refine .cons ?_ (ih hl.2)
  rw[zFk hl.1 h]
  exact zDI hl.1
theorem HRel.below {P:Program} {base:Nat} {ρ:Ren} {h:Heap} {w w':World} (hr:HRel P base ρ h w) (hb:Below w.heap.size w w'):HRel P base ρ h w':=by
 refine⟨Nat.le_trans hr.le hb.size,fun A l hA=>Nat.lt_of_lt_of_le (hr.bnd A l hA) hb.size,hr.found,?_,hr.alias,?_,hr.malias,hr.fin,fun A c f l h1 h2 h3 h4 h5=>(hr.mark A c f l h1 h2 h3 h4 h5).same (hb.block _ (hr.bnd A l h5)),
  hr.loops.sameW (fun A l hA _=>hb.block _ (hr.bnd A l hA))⟩
 ·intro A c l hc hA
  obtain⟨cs,T,fz,h1,h2⟩:=hr.cells A c l hc hA
  exact⟨cs,T,fz,by rw[hb.block _ (hr.bnd A l hA)];exact h1,h2⟩
 ·intro A l es st hes hA
  obtain⟨es',cl,h1,h2⟩:=hr.maps A l es st hes hA
  exact⟨es',cl,by rw[hb.block _ (hr.bnd A l hA)];exact h1,h2⟩
theorem zJ9 {P:Program} {Pg:Prog} (ok:XOK P Pg) {n f:Nat} {args:List Value} {v:Value} {h':Heap} (hc:call Pg n f args Heap.empty=some (v,h')) (ha:args.all zy=true) (hv:zy v=true) (h:Heap) :
  zCV P f args h v h:=by
 intro base ρ w args' hr wf hpre hargs
 refine (zKA ok hc (zKX hargs ha) w).mono fun e w' hq=>?_
 obtain⟨v',ρ',rfl,q1,q2,q3⟩:=hq
 obtain rfl:=zFk hv q2
 exact⟨_,ρ,rfl,hr.below q3,wf,⟨fun _ _ h=>h,fun _ h=>absurd rfl h,Nat.le_refl _,fun _ _ h=>h,fun _ _ _=>⟨rfl,rfl⟩,q3.mono hr.le,fun r h1 _=>q3.block r h1,fun A l h1 h2=>by rw[h1] at h2;cases h2⟩,zDI hv⟩
theorem zJ8 {P:Program} {Pg:Prog} (ok:XOK P Pg) {n f:Nat} {args:List Value} {v:Value} {h h':Heap} (hc:call Pg n f args h=some (v,h')):zBf P f :=
 ((zJ6 ok n).fn f args h v h' hc).1
theorem Tab.closed {P:Program} {l:List (Nat×Prim)} (ok:XOK P (Tab P l)) {f:Nat} {s:List Value→Option Value}
  (hs:∀args v,s args=some v→args.all zy=true∧zy v=true∧∃n h',call (Tab P l) n f args Heap.empty=some (v,h')):XOK P (Tab P ((f,za s)::l)):=by
 refine Tab.cons ok fun args h v h' hr=>?_
 unfold za at hr
 split at hr
 ·rename_i v1 hv
  cases hr
  obtain⟨h1,h2,n,h',h3⟩:=hs args v hv
  exact⟨zJ8 ok h3,Nat.le_refl _,zJ9 ok h3 h1 h2 h⟩
 ·cases hr
end Go.X
end
section
namespace Go.X
open Go.RowKit
theorem zXV {P:Program} {Pg:Prog} (ok:XOK P Pg) {f:Nat} {F:XF} {args:List Value} {v:Value} (hp:Pg.prim f=none) (hF:Pg.code f=some F) (hn:args.length=F.nargs) (ha:args.all zy=true) (hv:zy v=true) (hc:Comes Pg F args Heap.empty v) (w:World) :
  Calls P f args.toArray w fun e w'=>e=.returned v∧Below w.heap.size w w':=by
 obtain⟨e,t',h1,hr,he,hres,hg⟩:=hc
 have h2:cfi Pg f args Heap.empty=some (v,h1):=zBW hp hF hn ⟨e,t',h1,hr,he,hres,rfl⟩
 obtain⟨n,hn⟩:=zHC h2
 have h3:call Pg n f args Heap.empty=some (v,h1):=hn
 refine (zKA ok h3 (zKX (ρ:=fun _=>none) (All2.refl_of args fun x hx=>zDI (by rw[List.all_eq_true] at ha;exact ha x hx)) ha) w).mono fun e w' hq=>?_
 obtain⟨v',ρ',rfl,q1,q2,q3⟩:=hq
 exact⟨by rw[zFk hv q2],q3⟩
end Go.X
end
section
namespace Go.X
open Go.RowKit
def zFp (esz bytes:Nat) (h:Heap) (a:Addr) (n cap i:Nat) (m:Nat) (news:List Value):Option (Value×Heap) :=
 match h.loadN a (n*esz),h.append esz bytes (.slice (some a) n cap) m news with
 | some olds,some (.slice (some b) n' cap',h1)=>match h1.store ⟨b.block,b.off+i*esz,none⟩ (news++olds.drop (i*esz)) with
  | some h2=>some (.slice (some b) n' cap',h2)
  | none=>none
 | _,_=>none
def zEO (h:Heap) (a va:Addr):Bool:=match h.okCells a.block,h.okCells va.block with
 | some c,some d=>!(c.fam.beq d.fam)&&!c.ro&&!d.ro&&(match h.fams.get d.fam with|some f=>f.since.beq 0|none=>false)
 | _,_=>false
def zCk (esz bytes:Nat):Prim:=fun args h=>match args with
 | [.slice base n cap,.int .i64 i,.slice (some va) m vc] =>
  if m=0∨i<0∨(n:Int)<i then none else
  match h.loadN va (m*esz) with
  | none=>none
  | some news=>if i=(n:Int) then h.append esz bytes (.slice base n cap) m news else
   match base with
   | none=>none
   | some a=>if zEO h a va=true then zFp esz bytes h a n cap i.toNat m news else none
 | _=>none
structure InsFn (P:Program) (f:Nat) (st el:TypeId) (sz by_:Nat) (z:Value):Prop where
 call:zBf P f
 und:P.underlying st=some (.slice el)
 info:(P.info? el).map (fun i=>(i.zero,i.size,i.bytes))=some (some z,sz,by_)
 zero:zAh P el=some z.cells.toList
 size:zg P el=some sz
 bytes:zCD P el=some by_
 zlen:z.cells.toList.length=sz
 by0:by_≠0
 sz0:sz≠0
 end_:∀ (base:Option Addr) (n c m vc:Nat) (va:Option Addr) (v:Value) (w w':World),0<m→n≤c→(base=none→n=0)→(Builtin.append_ #[st,st] st #[.slice base n c,.slice va m vc]).run P w=.ok v w' →
  Calls P f #[.slice base n c,.int .i64 n,.slice va m vc] w fun e w1=>e=.returned v∧w1=w'
 shift:∀ (b off n c i vb voff m vc:Nat) (cs vs:List Value) (w:World),i<n→0<m→n+m≤c→n+m≤9223372036854775807→vb≠b→cs.length=n*sz→vs.length=m*sz →
  (∀j v,cs[j]?=some v→w.cell? ⟨b,off+j,none⟩=some v)→(∀j,j<(n+m)*sz→(w.cell? ⟨b,off+j,none⟩).isSome=true)→(∀j,j<(n+m)*sz→w.frozen? ⟨b,off+j,none⟩=false) →
  (∀j v,vs[j]?=some v→w.cell? ⟨vb,voff+j,none⟩=some v)→(∀v∈cs.drop (i*sz),v.oneCell'=true)→(∀v∈vs,v.oneCell'=true) →
  ∀ (tA tB:TypeId) (kA kB:Nat),w.shape? vb=some (tA,kA)→w.shape? b=some (tB,kB)→kB≠0→w.frozen? ⟨vb,voff,none⟩=false→w.frozen? ⟨vb,kA,none⟩=false →
  Calls P f #[.slice (some ⟨b,off,none⟩) n c,.int .i64 i,.slice (some ⟨vb,voff,none⟩) m vc] w fun e w' =>
   e=.returned (.slice (some ⟨b,off,none⟩) (n+m) c)∧w'=(w.drew.setCells b (off+(i+m)*sz) (cs.drop (i*sz))).setCells b (off+i*sz) vs
 grow:∀ (b off n c i vb voff m vc:Nat) (cs vs:List Value) (w:World),i<n→0<m→n≤c→c<n+m→(n+m)*by_≤140737488355328→cs.length=n*sz→vs.length=m*sz →
  (∀j v,cs[j]?=some v→w.cell? ⟨b,off+j,none⟩=some v)→(∀j v,vs[j]?=some v→w.cell? ⟨vb,voff+j,none⟩=some v)→(∀v∈cs.drop (i*sz),v.oneCell'=true)→(∀v∈vs,v.oneCell'=true) →
  Calls P f #[.slice (some ⟨b,off,none⟩) n c,.int .i64 i,.slice (some ⟨vb,voff,none⟩) m vc] w fun e w' =>
   e=.returned (.slice (some ⟨w.heap.size,0,none⟩) (n+m) (grownCap w (n+m) c el)) ∧
   w'=(((w.alloc (.cells ((cs.take (i*sz)).toArray++Builtin.zeroCells z.cells (n+m - i)++Builtin.zeroCells z.cells (grownCap w (n+m) c el - (n+m))) el)).drew.setCells w.heap.size (i*sz) vs).drew).setCells w.heap.size ((i+m)*sz) (cs.drop (i*sz))
section
variable {P:Program} {f:Nat} {st el:TypeId} {sz by_:Nat} {z:Value} {ρ:Ren} {w w':World} {base:Nat} {h h' h1:Heap}
theorem zJn (I:InsFn P f st el sz by_ z) (hr:HRel P base ρ h w) (wf:HWF h) {s s' vs' v1:Value} {va:Addr} {m vc:Nat} {news:List Value} (hs:VRel ρ s s') (hv:VRel ρ (.slice (some va) m vc) vs') (hm:m≠0)
  (hn:h.loadN va (m*sz)=some news) (ha:h.append sz by_ s m news=some (v1,h1)) (hpre:∀A,h.next≤A→A<h1.next→ρ A=none) :
  ∃v1' w1 ρ1,(Builtin.append_ #[st,st] st #[s',vs']).run P w=.ok v1' w1∧HRel P base ρ1 h1 w1∧HWF h1∧Ext base ρ h w ρ1 h1 w1∧VRel ρ1 v1 v1':=by
 have hst:zA0 P base ρ h w (fun|.tmp 0=>s'|_=>vs') ⟨none,.call { callee:=.builtin .append,args:=#[.tmp 0,.tmp 1],argTypes:=#[st,st] },st,"",#[],none⟩ v1 h1:=by
  refine zHL (t:=(PT.leaf.set 0 s).set 1 (.slice (some va) m vc)) (sx:=.tmp 0) (x:=.tmp 1) hr wf hpre rfl rfl rfl rfl I.und (.inl ⟨el,I.und⟩) I.zero I.size I.bytes I.zlen hs hv ?_
  have e0:Fr.eval ((PT.leaf.set 0 s).set 1 (.slice (some va) m vc)) (.tmp 0)=s:=by simp[Fr.eval,Fr.get,PT.get_set]
  have e1:Fr.eval ((PT.leaf.set 0 s).set 1 (.slice (some va) m vc)) (.tmp 1)=.slice (some va) m vc:=by simp[Fr.eval,Fr.get,PT.get_set]
  simp only[effX,e0,e1,if_neg hm,hn,ha]
 obtain⟨v',w1,ρ1,hrun,q1,q2,q3,q4⟩:=hst
 obtain⟨cs,hb⟩:=zB5 (P:=P) (e:=fun|.tmp 0=>s'|_=>vs') (o:=⟨none,.call { callee:=.builtin .append,args:=#[.tmp 0,.tmp 1],argTypes:=#[st,st] },st,"",#[],none⟩) w rfl
 have hb':(execOp (fun|.tmp 0=>s'|_=>vs') ⟨none,.call { callee:=.builtin .append,args:=#[.tmp 0,.tmp 1],argTypes:=#[st,st] },st,"",#[],none⟩).run P w=((Builtin.append_ #[st,st] st #[s',vs']).run P w).andThen fun r w=>.ok (.value r) w:=by
  rw[hb]
  simp[builtin]
 rw[hb'] at hrun
 cases hq:(Builtin.append_ #[st,st] st #[s',vs']).run P w with
 | ok r w2 =>
  rw[hq] at hrun
  rcases hrun with hrun|⟨hrun,_⟩
  ·cases hrun;exact⟨_,_,ρ1,rfl,q1,q2,q3,q4⟩
  ·cases hrun
 | halt a b =>
  rw[hq] at hrun
  rcases hrun with hrun|⟨hrun,_⟩<;>cases hrun
theorem HRel.swap (hr:HRel P base ρ h w) (he:w'.heap=w.heap):HRel P base ρ h w':=hr.heap_eq he
theorem Ext.swap {ρ':Ren} {w1:World} (hx:Ext base ρ h w ρ' h' w1) (he:w'.heap=w1.heap) (h1:w'.os=w.os) (h2:w'.tape=w.tape) (h3:w'.output=w.output):Ext base ρ h w ρ' h' w' :=
 ⟨hx.mono,hx.new,hx.next,hx.keep,hx.phan,⟨h1,h2,h3,by rw[he];exact hx.below.size,fun k hk=>by rw[he];exact hx.below.block k hk⟩,fun r h1 h2=>by rw[he];exact hx.frame r h1 h2,hx.newb⟩
theorem zKB {cs ds:Array Value} {T:TypeId} {fz:Nat×Nat} (h:cs.toList=ds.toList):Obj.cells cs T fz=Obj.cells ds T fz:=by
 rw[Array.toList_inj.1 h]
theorem zCy {l a b c:List Value} (o:Nat) (hl:l=a++b++c) (ho:o=a.length) {vs:List Value} (hv:vs.length=b.length):putN l o vs=a++vs++c:=by
 subst hl ho
 unfold putN
 rw[hv,←List.length_append,List.drop_left,List.append_assoc a b c,List.take_left]
theorem zYP {b:Nat} {cs:Array Value} {T:TypeId} {fz:Nat×Nat} (hb:w.heap[b]?=some (.cells cs T fz)) {A O1 O2 R news g:List Value} (hl:cs.toList=A++(O1++O2)++g++R) (hg:g.length=news.length) :
  ((w.drew.setCells b (A.length+(O1.length+news.length)) O2).setCells b (A.length+O1.length) news).heap=((w.setCells b (A.length+(O1.length+O2.length)) news).setCells b (A.length+O1.length) (news++O2)).heap:=by
 have hsz:cs.size=A.length+(O1.length+O2.length)+g.length+R.length:=by
  have:=congrArg List.length hl
  simpa [Nat.add_assoc] using this
 obtain⟨c1,p1,p2,p3,p4,_⟩:=zBb b O2 (A.length+(O1.length+news.length)) w.drew cs T fz hb (by omega)
 have hs1:c1.toList=A++O1++(O2++g).take news.length++O2++R:=by
  rw[p2]
  have e:cs.toList=(A++O1++(O2++g).take news.length)++(O2++g).drop news.length++R:=by
   rw[hl]
   simp only[List.append_assoc]
   congr 2
   rw[←List.append_assoc,←List.append_assoc ((O2++g).take news.length),List.take_append_drop]
  refine zCy (b:=(O2++g).drop news.length) _ e ?_ ?_
  ·simp;omega
  ·simp;omega
 have hl1:c1.size=cs.size:=by
  have:=congrArg List.length hs1
  simp at this
  omega
 obtain⟨c2,r1,r2,r3,r4,_⟩:=zBb b news (A.length+O1.length) _ c1 T fz p1 (by omega)
 have hs2:c2.toList=(A++O1)++news++(O2++R):=by
  rw[r2]
  refine zCy (b:=(O2++g).take news.length) _ (by rw[hs1];simp[List.append_assoc]) (by simp) (by simp;omega)
 obtain⟨d1,u1,u2,u3,u4,_⟩:=zBb b news (A.length+(O1.length+O2.length)) w cs T fz hb (by omega)
 have ht1:d1.toList=(A++O1++O2)++news++R:=by
  rw[u2]
  exact zCy (b:=g) _ (by rw[hl];simp[List.append_assoc]) (by simp) hg.symm
 have hm1:d1.size=cs.size:=by
  have:=congrArg List.length ht1
  simp at this
  omega
 obtain⟨d2,y1,y2,y3,y4,_⟩:=zBb b (news++O2) (A.length+O1.length) _ d1 T fz u1 (by simp;omega)
 have ht2:d2.toList=(A++O1)++(news++O2)++R:=by
  rw[y2]
  exact zCy (b:=O2++news) _ (by rw[ht1];simp[List.append_assoc]) (by simp) (by simp;omega)
 refine Array.ext_getElem? fun r=>?_
 by_cases e:r=b
 ·subst e
  rw[r1,y1]
  congr 1
  exact zKB (by rw[hs2,ht2];simp[List.append_assoc])
 ·rw[r3 r e,p3 r e,y3 r e,u3 r e]
  rfl
theorem heap_alloc {w:World} {o:Obj}:(w.alloc o).heap=w.heap.push o:=rfl
theorem zYO {A O2 V:List Value} {Z1 Z2:Array Value} {T:TypeId} (hz:Z1.size=V.length+O2.length) :
  ((((w.alloc (.cells (A.toArray++Z1++Z2) T)).drew.setCells w.heap.size A.length V).drew).setCells w.heap.size (A.length+V.length) O2).heap =
   ((w.drew.alloc (.cells ((A++O2++V).toArray++Z2) T)).setCells w.heap.size A.length (V++O2)).heap:=by
 have hb:(w.alloc (.cells (A.toArray++Z1++Z2) T)).drew.heap[w.heap.size]?=some (.cells (A.toArray++Z1++Z2) T (0,0)):=by
  show (w.heap.push _)[w.heap.size]?=_
  simp
 have hb2:(w.drew.alloc (.cells ((A++O2++V).toArray++Z2) T)).heap[w.heap.size]?=some (.cells ((A++O2++V).toArray++Z2) T (0,0)):=by
  show (w.heap.push _)[w.heap.size]?=_
  simp
 obtain⟨c1,p1,p2,p3,p4,_⟩:=zBb w.heap.size V A.length (w.alloc (.cells (A.toArray++Z1++Z2) T)).drew _ T (0,0) hb (by simp;omega)
 have hs1:c1.toList=A++V++(Z1.toList.drop V.length++Z2.toList):=by
  rw[p2]
  refine zCy (b:=Z1.toList.take V.length) _ ?_ rfl (by simp;omega)
  simp only[Array.toList_append,List.append_assoc]
  congr 1
  rw[←List.append_assoc,List.take_append_drop]
 have hl1:c1.size=A.length+V.length+O2.length+Z2.size:=by
  have:=congrArg List.length hs1
  simp at this
  omega
 obtain⟨c2,r1,r2,r3,r4,_⟩:=zBb w.heap.size O2 (A.length+V.length) ((w.alloc (.cells (A.toArray++Z1++Z2) T)).drew.setCells w.heap.size A.length V).drew c1 T (0,0) p1 (by omega)
 have hs2:c2.toList=(A++V)++O2++Z2.toList:=by
  rw[r2]
  exact zCy (b:=Z1.toList.drop V.length) _ (by rw[hs1];simp[List.append_assoc]) (by simp) (by simp;omega)
 obtain⟨d1,u1,u2,u3,u4,_⟩:=zBb w.heap.size (V++O2) A.length (w.drew.alloc (.cells ((A++O2++V).toArray++Z2) T)) _ T (0,0) hb2 (by simp;omega)
 have ht1:d1.toList=A++(V++O2)++Z2.toList:=by
  rw[u2]
  exact zCy (b:=O2++V) _ (by simp[List.append_assoc]) rfl (by simp;omega)
 refine Array.ext_getElem? fun r=>?_
 by_cases e:r=w.heap.size
 ·subst e
  rw[r1,u1]
  congr 1
  exact zKB (by rw[hs2,ht1];simp[List.append_assoc])
 ·rw[r3 r e,u3 r e]
  show ((w.alloc (.cells (A.toArray++Z1++Z2) T)).drew.setCells w.heap.size A.length V).heap[r]?=_
  rw[p3 r e]
  show (w.heap.push _)[r]?=(w.heap.push _)[r]?
  rw[Array.getElem?_push,Array.getElem?_push,if_neg e,if_neg e]
theorem zak (c:Array Value) (k:Nat):(Builtin.zeroCells c k).size=k*c.size:=by simp[Builtin.zeroCells]
theorem zKn {args:List Value} {v:Value} (hr:zCk sz by_ args h=some (v,h')):h.next≤h'.next:=by
 unfold zCk at hr
 split at hr
 ·split at hr
  ·cases hr
  ·split at hr
   ·cases hr
   ·split at hr
    ·exact zFO hr
    ·split at hr
     ·cases hr
     ·split at hr
      ·unfold zFp at hr
       split at hr
       ·rename_i h1 ha
        split at hr
        ·rename_i h2 hs
         cases hr
         rw[zGL hs]
         exact zFO ha
        ·cases hr
       ·cases hr
      ·cases hr
 ·cases hr
theorem zIP (b:Nat):∀ (vs:List Value) (o:Nat) (w:World),(w.setCells b o vs).os=w.os∧(w.setCells b o vs).tape=w.tape∧(w.setCells b o vs).output=w.output
 | [],_,_=>⟨rfl,rfl,rfl⟩
 | v::vs,o,w=>by
  have:=zIP b vs (o+1) (w.setCell ⟨b,o,none⟩ v)
  exact this
theorem zXK {a va:Addr} (ha:zEO h a va=true):∃c d f,h.okCells a.block=some c∧h.okCells va.block=some d∧c.fam≠d.fam∧c.ro=false∧d.ro=false∧h.fams.get d.fam=some f∧f.since=0:=by
 unfold zEO at ha
 split at ha
 ·rename_i c d hc hd
  simp only[Bool.and_eq_true,Bool.not_eq_true'] at ha
  obtain⟨⟨⟨h1,h2⟩,h3⟩,h4⟩:=ha
  split at h4
  ·rename_i f hf
   refine⟨c,d,f,hc,hd,fun e=>?_,h2,h3,hf,by simpa using h4⟩
   rw[e] at h1
   simp at h1
  ·cases h4
 ·cases ha
theorem zLG {l l':List Value} (hl:LRel ρ l l') (ho:l.all oneC=true):∀u∈l',u.oneCell'=true:=by
 intro u hu
 rw[zH2]
 obtain⟨j,hj,rfl⟩:=List.getElem_of_mem hu
 have hj':j<l.length:=by rw[hl.length];exact hj
 rw[←zH3 (hl.get j hj' hj)]
 exact List.all_eq_true.1 ho _ (by simp)
set_option maxHeartbeats 1000000 in
theorem zYZ (I:InsFn P f st el sz by_ z) {args:List Value} {v:Value} (hr:zCk sz by_ args h=some (v,h')):zCV P f args h v h':=by
 have hnx:=zKn hr
 intro base ρ w args' hrel wf hpre hargs
 unfold zCk at hr
 split at hr
 case h_2=>cases hr
 rename_i bs n cap i va m vc
 split at hr
 ·cases hr
 rename_i hcond
 simp only[not_or] at hcond
 obtain⟨hm0,hi0,hin⟩:=hcond
 split at hr
 ·cases hr
 rename_i news hnews
 cases hargs with
 | @cons _ s' _ rest g1 hs2 =>
 cases hs2 with
 | @cons _ i' _ rest2 g2 hs3 =>
 cases hs3 with
 | @cons _ v' _ rest3 g3 hs4 =>
 cases hs4
 cases g2
 obtain⟨Lv,av',vc',hLv,rfl,hvle,hvcc,hvaddr,hvex,hvqq⟩:=g3.slice_inv
 have hav:=hvaddr (by omega)
 subst hav
 split at hr
 ·
  rename_i hin'
  subst hin'
  obtain⟨v1',w1,ρ1,q1,q2,q3,q4,q5⟩:=zJn I hrel wf g1 g3 hm0 hnews hr hpre
  cases bs with
  | none =>
   obtain⟨rfl,rfl,rfl⟩:=g1.nilslice_inv
   refine (I.end_ none 0 0 m vc' _ v1' w w1 (by omega) (Nat.le_refl _) (fun _=>rfl) q1).mono fun e w2 hq=>?_
   obtain⟨rfl,rfl⟩:=hq
   exact⟨v1',ρ1,rfl,q2,q3,q4,q5⟩
  | some a =>
   obtain⟨L,a',c',hL,rfl,hle,hcc,haddr,hex,hqq⟩:=g1.slice_inv
   refine (I.end_ (some a') n c' m vc' _ v1' w w1 (by omega) (by omega) (fun h=>by cases h) q1).mono fun e w2 hq=>?_
   obtain⟨rfl,rfl⟩:=hq
   exact⟨v1',ρ1,rfl,q2,q3,q4,q5⟩
 ·rename_i hne
  split at hr
  ·cases hr
  rename_i a
  split at hr
  case isFalse=>cases hr
  rename_i hap
  obtain⟨k,rfl⟩:∃k:Nat,i=(k:Int):=⟨i.toNat,by omega⟩
  have hkn:k<n:=by omega
  rw[Int.toNat_natCast] at hr
  obtain⟨c,d,f0,hc,hd,hfam,hcro,hdro,hf0,hf00⟩:=zXK hap
  unfold zFp at hr
  split at hr
  case h_2=>cases hr
  rename_i olds b1 n' cap' h1 holds happ
  split at hr
  case h_2=>cases hr
  rename_i h2 hst
  simp only[Option.some.injEq,Prod.mk.injEq] at hr
  obtain⟨rfl,rfl⟩:=hr
  obtain⟨L,a',c',hL,rfl,hle,hcc,haddr,hex,hqq⟩:=g1.slice_inv
  have ha':=haddr (by omega)
  subst ha'
  have hnext1:=zFO happ
  have hnext2:=zGL hst
  obtain⟨v1',w1,ρ1,q1,q2,q3,q4,q5⟩:=zJn I hrel wf g1 g3 hm0 hnews happ (fun A h1 h2=>hpre A h1 (by omega))
  have hLb:L.b≠Lv.b:=fun e=>by
   by_cases eb:a.block=va.block
   ·rw[eb,hd] at hc;cases hc;exact hfam rfl
   ·exact hfam (hrel.alias a.block va.block c d L Lv eb hc hd hL hLv e).1
  obtain⟨cs,T,fz,hheap,hsz,hbd,hlr,hw0⟩:=hrel.cells a.block c L hc hL
  obtain⟨hbase,hfz⟩:=hw0 hcro
  obtain⟨ds,T2,fz2,hheap2,hsz2,hbd2,hlr2,hw2⟩:=hrel.cells va.block d Lv hd hLv
  obtain⟨hbase2,hfz2⟩:=hw2 hdro
  have hmark:=hrel.mark va.block d f0 Lv hd hf0 hf00 hdro hLv ds T2 fz2 hheap2
  obtain⟨c0,hc0,hab,holds'⟩:=Heap.loadN_some holds
  rw[hc] at hc0;cases hc0
  obtain⟨d0,hd0,hdb,hnews'⟩:=Heap.loadN_some hnews
  rw[hd] at hd0;cases hd0
  obtain⟨i0,hi0',hz0,hzs,hzb⟩:=Go.info_parts I.info
  obtain⟨olds2,ho2⟩:∃l,l=(cs.toList.drop (L.o+a.off)).take (n*sz):=⟨_,rfl⟩
  obtain⟨news2,hn2⟩:∃l,l=(ds.toList.drop (Lv.o+va.off)).take (m*sz):=⟨_,rfl⟩
  have hol:LRel ρ olds olds2:=by
   have:=(hlr.drop a.off).take (n*sz)
   rw[List.drop_take,List.drop_drop,List.take_take,Nat.min_eq_left (by omega)] at this
   rw[holds',ho2];exact this
  have hnl:LRel ρ news news2:=by
   have:=(hlr2.drop va.off).take (m*sz)
   rw[List.drop_take,List.drop_drop,List.take_take,Nat.min_eq_left (by omega)] at this
   rw[hnews',hn2];exact this
  have hol2:olds2.length=n*sz:=by rw[ho2];simp;omega
  have hnl2:news2.length=m*sz:=by rw[hn2];simp;omega
  have hks:k*sz+(n - k)*sz=n*sz:=by rw[←Nat.add_mul];congr 1;omega
  have hsz0:=I.sz0
  have hms:0<m*sz:=Nat.mul_pos (by omega) (by omega)
  have hcell1:∀j v,olds2[j]?=some v→w.cell? ⟨L.b,L.o+a.off+j,none⟩=some v:=fun j v hj=>by
   rw[ho2,List.getElem?_take] at hj
   split at hj
   ·rw[List.getElem?_drop] at hj
    simp only[World.cell?,hheap]
    simpa using hj
   ·cases hj
  have hcell2:∀j v,news2[j]?=some v→w.cell? ⟨Lv.b,Lv.o+va.off+j,none⟩=some v:=fun j v hj=>by
   rw[hn2,List.getElem?_take] at hj
   split at hj
   ·rw[List.getElem?_drop] at hj
    simp only[World.cell?,hheap2]
    simpa using hj
   ·cases hj
  obtain⟨c1,f1,hc1,hro1,hlen1,hone1,hf1,_⟩:=zGM hst
  simp only[List.all_append,Bool.and_eq_true] at hone1
  have h1n:∀u∈news2,u.oneCell'=true:=zLG hnl hone1.1
  have h1o:∀u∈olds2.drop (k*sz),u.oneCell'=true:=zLG (hol.drop (k*sz)) hone1.2
  obtain⟨L1,a1',c1',hL1,rfl,hle1,hcc1,haddr1,hex1,hqq1⟩:=q5.slice_inv
  have hlr3:LRel ρ1 (news++olds.drop (k*sz)) (news2++olds2.drop (k*sz)):=LRel.mono q4.mono (hnl.append (hol.drop (k*sz)))
  obtain⟨s1,s2,s3,s4⟩:=zMD P q2 q3 (a:=⟨b1.block,b1.off+k*sz,none⟩) hL1 hst hlr3
  have hx2:=Ext.trans q3 (fun A h1 h2=>hpre A h1 (by omega)) q4 s4
  have hfrz:w.frozen? ⟨Lv.b,Lv.o+va.off,none⟩=false:=by
   simp only[World.frozen?,hheap2]
   have:=hfz2 (Lv.o+va.off) (by omega)
   simp only[Bool.and_eq_false_iff,decide_eq_false_iff_not]
   omega
  have hfrz2:w.frozen? ⟨Lv.b,ds.size,none⟩=false:=by
   simp only[World.frozen?,hheap2]
   simp only[Bool.and_eq_false_iff,decide_eq_false_iff_not]
   omega
  have hbytes:(n+m)*by_≤140737488355328:=by
   unfold Heap.append at happ
   simp only[if_neg hm0] at happ
   split at happ
   ·cases happ
   ·rename_i hb
    simp only[not_or] at hb
    unfold zU at hb
    omega
  have hby0:=I.by0
  have hsum:n+m≤140737488355328:=Nat.le_trans (Nat.le_mul_of_pos_right _ (by omega)) hbytes
  by_cases hroom:n+m≤c'
  ·
   have hspace:L.o+a.off+(n+m)*sz≤cs.size:=by
    by_cases hcap:n+m≤cap
    ·have:∃h3,h.store ⟨a.block,a.off+n*sz,none⟩ news=some h3:=by
      unfold Heap.append at happ
      simp only[if_neg hm0] at happ
      split at happ
      ·cases happ
      ·simp only[hc,if_pos hcap] at happ
       split at happ
       ·rename_i h3 e;exact⟨h3,e⟩
       ·cases happ
     obtain⟨h3,e3⟩:=this
     obtain⟨c4,_,hc4,_,hl4,_⟩:=zGM e3
     simp only at hc4 hl4
     rw[hc] at hc4;cases hc4
     have:news.length=m*sz:=by rw[hnl.length,hnl2]
     rw[Nat.add_mul];omega
    ·cases hsp:a.spot with
     | none=>have:=hex hsp;omega
     | some q =>
      have:q=sz:=by
       unfold Heap.append at happ
       simp only[if_neg hm0] at happ
       split at happ
       ·cases happ
       ·simp only[hc,if_neg hcap,hsp] at happ
        split at happ
        ·cases happ
        ·split at happ
         ·cases happ
         ·rename_i hq;simp only[not_or] at hq;omega
      subst this
      have:=hqq _ hsp
      have h5:(n+m)*q≤c'*q:=Nat.mul_le_mul_right _ hroom
      omega
   have hsplit:cs.toList=cs.toList.take (L.o+a.off)++(olds2.take (k*sz)++olds2.drop (k*sz))++(cs.toList.drop (L.o+a.off+n*sz)).take (m*sz)++cs.toList.drop (L.o+a.off+(n+m)*sz):=by
    rw[List.take_append_drop,ho2,Nat.add_mul,←Nat.add_assoc,←List.drop_drop (i:=m*sz),List.append_assoc,List.take_append_drop,←List.drop_drop (i:=n*sz),List.append_assoc,List.take_append_drop,List.take_append_drop]
   have hlA:(cs.toList.take (L.o+a.off)).length=L.o+a.off:=by simp;omega
   have hl1:(olds2.take (k*sz)).length=k*sz:=by simp;omega
   have hl2:(olds2.drop (k*sz)).length=n*sz - k*sz:=by simp[hol2]
   have hg:((cs.toList.drop (L.o+a.off+n*sz)).take (m*sz)).length=news2.length:=by rw[Nat.add_mul] at hspace;simp[hnl2];omega
   have hheq:=zYP hheap hsplit hg
   rw[hlA,hl1,hl2,hnl2] at hheq
   have hcl:∀j,j<cs.size→(w.cell? ⟨L.b,j,none⟩).isSome=true:=fun j hj=>by
    simp only[World.cell?,hheap]
    rw[Array.getElem?_eq_getElem hj];rfl
   have hfr:∀j,j<cs.size→w.frozen? ⟨L.b,j,none⟩=false:=fun j hj=>by
    simp only[World.frozen?,hheap]
    have:=hfz j (by omega)
    simp only[Bool.and_eq_false_iff,decide_eq_false_iff_not]
    omega
   have hmul:(n+m)*sz=n*sz+m*sz:=Nat.add_mul _ _ _
   have hst1:=run_storeCells_cells (P:=P) L.b (L.o+a.off+n*sz) news2 0 w (fun j hj=>hcl _ (by omega)) (fun j hj=>hfr _ (by omega)) h1n
   have hsrc:Src P i0.size (.slice (some ⟨Lv.b,Lv.o+va.off,none⟩) m vc') m news2 w:=fun w3 hw3=>⟨rfl,by
    rw[hzs]
    refine run_firstCells_some (P:=P) w3 sz m _ m vc' news2 hnl2 fun j u hj=>?_
    rw[zBJ]
    have:=hcell2 j u hj
    simpa [World.cell?,hw3] using this⟩
   have hfit:=zEu (ty:=st) (b:=some ⟨L.b,L.o+a.off,none⟩) (len:=n) (cap:=c') I.und (.inl ⟨el,I.und⟩) hi0' hsrc hroom
   rw[q1,hzs] at hfit
   simp only[zBJ] at hfit
   rw[Nat.add_zero] at hst1
   rw[hst1] at hfit
   simp only[Result.andThen_ok,Result.ok.injEq,Value.slice.injEq,Option.some.injEq] at hfit
   obtain⟨⟨rfl,rfl,rfl⟩,rfl⟩:=hfit
   have he1:=haddr1 (by omega)
   simp only[Addr.mk.injEq,and_true] at he1
   obtain⟨he2,he3⟩:=he1
   refine (I.shift L.b (L.o+a.off) n c1' k Lv.b (Lv.o+va.off) m vc' olds2 news2 w hkn (by omega) hroom (by omega) (Ne.symm hLb) hol2 hnl2 hcell1 (fun j hj=>hcl _ (by omega)) (fun j hj=>hfr _ (by omega)) hcell2 h1o h1n T2 T ds.size cs.size (by simp[World.shape?,hheap2]) (by simp[World.shape?,hheap]) (by omega) hfrz hfrz2).mono fun e w3 hq=>?_
   obtain⟨rfl,rfl⟩:=hq
   have hE:((w.drew.setCells L.b (L.o+a.off+(k+m)*sz) (olds2.drop (k*sz))).setCells L.b (L.o+a.off+k*sz) news2).heap=((w.setCells L.b (L.o+a.off+n*sz) news2).setCells L1.b (L1.o+(b1.off+k*sz)+0) (news2++olds2.drop (k*sz))).heap:=by
    rw[show k*sz+(n*sz - k*sz)=n*sz by omega] at hheq
    rw[←he2,Nat.add_mul,show L1.o+(b1.off+k*sz)+0=L.o+a.off+k*sz by omega]
    exact hheq
   obtain⟨x1,z1,z2,z3,z4,z5,z6,z7⟩:=zBb L.b (olds2.drop (k*sz)) (L.o+a.off+(k+m)*sz) w.drew cs T fz hheap (by rw[hl2,Nat.add_mul];omega)
   have hx1:x1.size=cs.size:=by
    have:x1.toList.length=cs.toList.length:=by rw[z2,zCz (by rw[hl2,Nat.add_mul];simp;omega)]
    simpa using this
   obtain⟨x2,y1,y2,y3,y4,y5,y6,y7⟩:=zBb L.b news2 (L.o+a.off+k*sz) _ x1 T fz z1 (by omega)
   refine⟨_,ρ1,rfl,s2.swap hE,s3,hx2.swap hE ?_ ?_ ?_,q5⟩
   ·rw[y5,z5];rfl
   ·rw[y6,z6];rfl
   ·rw[y7,z7];rfl
  ·
   have hfitb:Builtin.nextslicecap (n+m) c'*i0.bytes≤281474976710656:=by rw[hzb];exact growslice_fits (by omega) hbytes
   have hold:(Builtin.firstCells i0.size n (.slice (some ⟨L.b,L.o+a.off,none⟩) n c')).run P w.drew=.ok olds2.toArray w.drew:=by
    rw[hzs]
    refine run_firstCells_some (P:=P) w.drew sz n _ n c' olds2 hol2 fun j u hj=>?_
    rw[zBJ]
    exact hcell1 j u hj
   have hsrc:Go.Src P i0.size st (.slice (some ⟨Lv.b,Lv.o+va.off,none⟩) m vc') m news2 w:=by
    rw[hzs]
    exact Go.Src.ofSlice w I.und _ m vc' news2 hnl2 (fun j u hj=>by rw[zBJ];exact hcell2 j u hj) h1n
   have hgr:=run_append_grow_src (P:=P) w st st st el i0 z I.und hi0' hz0 (some ⟨L.b,L.o+a.off,none⟩) n c' olds2 hold _ m news2 hsrc (by omega) (by omega) hfitb
   rw[q1] at hgr
   simp only[Result.ok.injEq,Value.slice.injEq,Option.some.injEq] at hgr
   obtain⟨⟨rfl,rfl,rfl⟩,rfl⟩:=hgr
   have he1:=haddr1 (by omega)
   simp only[Addr.mk.injEq,and_true] at he1
   obtain⟨he2,he3⟩:=he1
   have hcat:olds2.take (k*sz)++olds2.drop (k*sz)=olds2:=List.take_append_drop _ _
   have hl1:(olds2.take (k*sz)).length=k*sz:=by simp;omega
   have hl2:(olds2.drop (k*sz)).length=n*sz - k*sz:=by simp[hol2]
   have hz1:(Builtin.zeroCells z.cells (n+m - k)).size=news2.length+(olds2.drop (k*sz)).length:=by
    have hzl:z.cells.size=sz:=by have:=I.zlen;simpa using this
    rw[zak,hzl,hl2,hnl2,show n+m - k=(n - k)+m by omega,Nat.add_mul]
    omega
   have hheq:=zYO (w:=w) (T:=el) (Z2:=Builtin.zeroCells z.cells (grownCap w (n+m) c' el - (n+m))) hz1 (A:=olds2.take (k*sz))
   rw[hcat,hl1,hnl2] at hheq
   refine (I.grow L.b (L.o+a.off) n c' k Lv.b (Lv.o+va.off) m vc' olds2 news2 w hkn (by omega) (by omega) (by omega) hbytes hol2 hnl2 hcell1 hcell2 h1o h1n).mono fun e w3 hq=>?_
   obtain⟨rfl,rfl⟩:=hq
   have hE:((((w.alloc (.cells ((olds2.take (k*sz)).toArray++Builtin.zeroCells z.cells (n+m - k)++Builtin.zeroCells z.cells (grownCap w (n+m) c' el - (n+m))) el)).drew.setCells w.heap.size (k*sz) news2).drew).setCells w.heap.size ((k+m)*sz) (olds2.drop (k*sz))).heap =
     ((w.drew.alloc (.cells ((olds2++news2).toArray++Builtin.zeroCells z.cells (grownCap w (n+m) c' el - (n+m))) el)).setCells L1.b (L1.o+(b1.off+k*sz)+0) (news2++olds2.drop (k*sz))).heap:=by
    rw[←he2,Nat.add_mul,show L1.o+(b1.off+k*sz)+0=k*sz by omega]
    exact hheq
   have r1:=zIP w.heap.size (olds2.drop (k*sz)) ((k+m)*sz) ((w.alloc (.cells ((olds2.take (k*sz)).toArray++Builtin.zeroCells z.cells (n+m - k)++Builtin.zeroCells z.cells (grownCap w (n+m) c' el - (n+m))) el)).drew.setCells w.heap.size (k*sz) news2).drew
   have r2:=zIP w.heap.size news2 (k*sz) (w.alloc (.cells ((olds2.take (k*sz)).toArray++Builtin.zeroCells z.cells (n+m - k)++Builtin.zeroCells z.cells (grownCap w (n+m) c' el - (n+m))) el)).drew
   refine⟨_,ρ1,rfl,s2.swap hE,s3,hx2.swap hE ?_ ?_ ?_,q5⟩
   ·rw[r1.1];exact r2.1
   ·rw[r1.2.1];exact r2.2.1
   ·rw[r1.2.2];exact r2.2.2
end
end Go.X
end
section
namespace Go.X
set_option linter.unusedVariables false
structure Keeps (W:Nat→Prop) (h h':Heap):Prop where
 next:h.next≤h'.next
 blks:∀A,A<h.next→¬W A→h'.blks.get A=h.blks.get A
 fams:∀A,A<h.next→¬W A→h'.fams.get A=h.fams.get A
def zCq:Nat→Prop:=fun _=>False
section
variable {W V:Nat→Prop} {h h0 h1 h2:Heap} {A:Nat} {l:List Value}
theorem Keeps.refl:Keeps W h h:=⟨Nat.le_refl _,fun _ _ _=>rfl,fun _ _ _=>rfl⟩
theorem Keeps.mono (a:Keeps W h h1) (hW:∀A,A<h.next→W A→V A):Keeps V h h1:=⟨a.next,fun A hA hn=>a.blks A hA fun w=>hn (hW A hA w),fun A hA hn=>a.fams A hA fun w=>hn (hW A hA w)⟩
theorem Keeps.trans (a:Keeps W h h1) (b:Keeps V h1 h2) (hV:∀A,A<h.next→V A→W A):Keeps W h h2 :=
 ⟨Nat.le_trans a.next b.next,fun A hA hn=>(b.blks A (Nat.lt_of_lt_of_le hA a.next) fun v=>hn (hV A hA v)).trans (a.blks A hA hn),
  fun A hA hn=>(b.fams A (Nat.lt_of_lt_of_le hA a.next) fun v=>hn (hV A hA v)).trans (a.fams A hA hn)⟩
theorem Keeps.grows (a:Keeps W h0 h1) (hW:∀A,A<h0.next→¬W A):Grows h0 h1:=⟨a.next,fun A hA=>a.blks A hA (hW A hA),fun A hA=>a.fams A hA (hW A hA)⟩
theorem Grows.keeps (a:Grows h0 h1):Keeps W h0 h1:=⟨a.next,fun A hA _=>a.blks A hA,fun A hA _=>a.fams A hA⟩
theorem Grows.then (a:Grows h0 h1) (b:Keeps W h1 h2) (hW:∀A,A<h0.next→¬W A):Grows h0 h2:=Keeps.grows (Keeps.trans (W:=W) a.keeps b (fun _ _ w=>w)) hW
theorem Keeps.wr:Keeps (fun B=>B=A) h (h.wr A l):=⟨Nat.le_refl _,fun B _ hn=>PT.get_set_ne _ _ hn,fun B _ hn=>PT.get_set_ne _ _ hn⟩
theorem Keeps.new:Keeps W h (h.new l):=Grows.new.keeps
theorem Keeps.newB:Keeps W h (h.newB l):=Grows.newB.keeps
theorem Var.keep {B:Nat} (hv:Var h B l) (hk:Keeps W h h1) (hB:¬W B):Var h1 B l:=by
 obtain⟨h0,h2,s,n,h3⟩:=hv
 exact⟨Nat.lt_of_lt_of_le h0 hk.next,by rw[hk.blks B h0 hB];exact h2,s,n,by rw[hk.fams B h0 hB];exact h3⟩
theorem Var.grow {B:Nat} (hv:Var h B l) (hk:Grows h h1):Var h1 B l:=hv.keep (W:=zCq) hk.keeps id
def Own (h:Heap) (S:Nat→Prop) (esz:Nat) (v:Value) (n:Nat) (l:List Value):Prop :=
 l.length=n*esz∧((v=.slice none 0 0∧n=0) ∨
  ∃B off sp cap c f,v=.slice (some ⟨B,off,sp⟩) n cap∧S B∧S c.fam∧B<h.next∧c.fam<h.next∧h.blks.get B=some (.cells c)∧h.fams.get c.fam=some f∧(B=f.who∨f.since≤B)∧f.since≤h.next ∧
   c.ro=false∧n≤cap∧off+cap*esz≤c.cells.length∧(c.cells.drop off).take (n*esz)=l∧(sp=none∨sp=some esz))
variable {S T:Nat→Prop} {esz n m:Nat} {v:Value} {new:List Value}
theorem Own.nil:Own h S esz (.slice none 0 0) 0 []:=⟨by simp,.inl ⟨rfl,rfl⟩⟩
theorem Own.mono (ho:Own h S esz v n l) (hS:∀A,S A→T A):Own h T esz v n l:=by
 obtain⟨h1,h2⟩:=ho
 refine⟨h1,?_⟩
 rcases h2 with h2|⟨B,off,sp,cap,c,f,a1,a2,a3,a4⟩
 ·exact .inl h2
 ·exact .inr ⟨B,off,sp,cap,c,f,a1,hS _ a2,hS _ a3,a4⟩
theorem Own.keep (ho:Own h S esz v n l) (hk:Keeps W h h1) (hW:∀A,S A→¬W A):Own h1 S esz v n l:=by
 obtain⟨h1',h2⟩:=ho
 refine⟨h1',?_⟩
 rcases h2 with h2|⟨B,off,sp,cap,c,f,a1,a2,a3,a4,a5,a6,a7,a8,a14,a9⟩
 ·exact .inl h2
 ·exact .inr ⟨B,off,sp,cap,c,f,a1,a2,a3,Nat.lt_of_lt_of_le a4 hk.next,Nat.lt_of_lt_of_le a5 hk.next,by rw[hk.blks B a4 (hW _ a2)];exact a6,by rw[hk.fams _ a5 (hW _ a3)];exact a7,a8,Nat.le_trans a14 hk.next,a9⟩
theorem Own.grow (ho:Own h S esz v n l) (hk:Grows h h1):Own h1 S esz v n l:=ho.keep (W:=zCq) hk.keeps (fun _ _=>id)
theorem Own.nil_of (ho:Own h S esz v 0 l):l=[]:=by
 have:=ho.1;simp at this;exact this
theorem Own.shape (ho:Own h S esz v n l):∃a cap,v=.slice a n cap∧(n≠0→∃B off sp,a=some ⟨B,off,sp⟩∧h.loadN ⟨B,off,sp⟩ (n*esz)=some l∧∀j,j<n*esz→h.load ⟨B,off+j,none⟩=l[j]?):=by
 obtain⟨h1,⟨rfl,rfl⟩|⟨B,off,sp,cap,c,f,rfl,a2,a3,a4,a5,a6,a7,a8,a14,a9,a10,a11,a12,a13⟩⟩:=ho
 ·exact⟨none,0,rfl,fun h=>absurd rfl h⟩
 ·have hok:h.okCells B=some c:=okCells_iff.2 ⟨a6,f,a7,a8⟩
  have hle:n*esz≤cap*esz:=Nat.mul_le_mul_right _ a10
  refine⟨some ⟨B,off,sp⟩,cap,rfl,fun _=>⟨B,off,sp,rfl,?_,fun j hj=>?_⟩⟩
  ·simp only[Heap.loadN,hok,zAg]
   rw[Nat.ble_eq_true_of_le (by omega)]
   simp[a12]
  ·simp only[Heap.load,hok]
   rw[←a12,List.getElem?_take,if_pos hj,List.getElem?_drop]
theorem Own.append (ho:Own h S esz v n l) {bytes:Nat} (hm:new.length=m*esz) (hone:new.all oneC=true) (he:esz≠0) (hb:bytes≠0) (hroom:(n+m)*bytes≤zU) :
  ∃v' h',h.append esz bytes v m new=some (v',h')∧Own h' (fun A=>S A∨h.next≤A) esz v' (n+m) (l++new)∧Keeps S h h':=by
 obtain⟨h1,hv⟩:=ho
 by_cases h0:m=0
 ·subst h0
  have:new=[]:=by simpa using hm
  subst this
  refine⟨v,h,?_,?_,Keeps.refl⟩
  ·rcases hv with ⟨rfl,rfl⟩|⟨B,off,sp,cap,c,f,rfl,_⟩<;>simp[Heap.append]
  ·refine Own.mono ⟨by simpa using h1,?_⟩ (fun A hA=>Or.inl hA)
   simpa using hv
 ·have hcond:¬(esz=0∨bytes=0∨zU<(n+m)*bytes∨new.length≠m*esz∨new.all oneC=false):=by
   rw[hone];simp[he,hb,hm];omega
  rcases hv with ⟨rfl,rfl⟩|⟨B,off,sp,cap,c,f,rfl,a2,a3,a4,a5,a6,a7,a8,a14,a9,a10,a11,a12,a13⟩
  ·obtain rfl:l=[]:=by simpa using h1
   refine⟨.slice (some ⟨h.next,0,some esz⟩) (0+m) (0+m),h.new new,?_,?_,Keeps.new (l:=new)⟩
   ·unfold Heap.append
    simp only[if_neg h0]
    rw[if_neg (by simpa using hcond)]
   ·refine⟨by simpa using hm,.inr ⟨h.next,0,some esz,0+m,⟨new,h.next,0,false⟩,_,rfl,Or.inr (Nat.le_refl _),Or.inr (Nat.le_refl _),Nat.lt_succ_self _,Nat.lt_succ_self _,PT.get_set_eq _ _ _,PT.get_set_eq _ _ _,.inl rfl,Nat.zero_le _,rfl,Nat.le_refl _,?_,?_,.inr rfl⟩⟩
    ·simp[hm]
    ·simp[←hm]
  ·have hok:h.okCells B=some c:=okCells_iff.2 ⟨a6,f,a7,a8⟩
   have hle:n*esz≤cap*esz:=Nat.mul_le_mul_right _ a10
   unfold Heap.append
   simp only[if_neg h0]
   rw[if_neg hcond]
   simp only[hok]
   by_cases hc:n+m≤cap
   ·
    have hle2:(n+m)*esz≤cap*esz:=Nat.mul_le_mul_right _ hc
    rw[Nat.add_mul] at hle2
    rw[if_pos hc]
    have hst:h.store ⟨B,off+n*esz,none⟩ new=some { h with blks:=h.blks.set B (.cells { c with cells:=putN c.cells (off+n*esz) new }),fams:=h.fams.set c.fam { f with since:=h.next,who:=B } }:=by
     simp only[Heap.store,hok]
     rw[Nat.ble_eq_true_of_le (by omega),hone]
     simp[a9,a7]
    rw[hst]
    refine⟨_,_,rfl,⟨by simp[h1,hm,Nat.add_mul],.inr ⟨B,off,sp,cap,{ c with cells:=putN c.cells (off+n*esz) new },{ f with since:=h.next,who:=B },rfl,.inl a2,.inl a3,a4,a5,PT.get_set_eq _ _ _,PT.get_set_eq _ _ _,.inl rfl,Nat.le_refl _,a9,hc,?_,?_,a13⟩⟩,⟨Nat.le_refl _,?_,?_⟩⟩
    ·simp only[putN,List.length_append,List.length_take,List.length_drop];omega
    ·simp only[putN]
     rw[←a12,List.append_assoc,List.drop_append_of_le_length (by simp;omega),Nat.add_mul,List.drop_take]
     have e:off+n*esz - off=n*esz:=by omega
     rw[e]
     have e2:((c.cells.drop off).take (n*esz)).length=n*esz:=by simp;omega
     rw[List.take_append,e2]
     rw[List.take_of_length_le (by rw[e2];omega)]
     congr 1
     rw[show n*esz+m*esz - n*esz=m*esz by omega,List.take_append_of_le_length (by omega),List.take_of_length_le (by omega)]
    ·intro A _ hn;exact PT.get_set_ne _ _ fun e=>hn (e▸a2)
    ·intro A _ hn;exact PT.get_set_ne _ _ fun e=>hn (e▸a3)
   ·rw[if_neg hc,if_neg (by omega)]
    rcases a13 with rfl|rfl
    ·refine⟨_,_,rfl,⟨by simp[h1,hm,Nat.add_mul],.inr ⟨h.next,0,some esz,n+m,⟨(c.cells.drop off).take (n*esz)++new,h.next,0,false⟩,_,rfl,Or.inr (Nat.le_refl _),Or.inr (Nat.le_refl _),Nat.lt_succ_self _,Nat.lt_succ_self _,PT.get_set_eq _ _ _,PT.get_set_eq _ _ _,.inl rfl,Nat.zero_le _,rfl,Nat.le_refl _,?_,?_,.inr rfl⟩⟩,Keeps.new⟩
     ·rw[a12];simp[h1,hm,Nat.add_mul]
     ·rw[a12,List.drop_zero,List.take_of_length_le (by simp[h1,hm,Nat.add_mul])]
    ·have hro:¬((esz≠esz)∨c.ro=true):=by simp[a9]
     simp only
     rw[if_neg hro]
     simp only[a7]
     refine⟨_,_,rfl,⟨by simp[h1,hm,Nat.add_mul],.inr ⟨h.next,0,some esz,n+m,⟨(c.cells.drop off).take (n*esz)++new,c.fam,c.delta+off,false⟩,_,rfl,Or.inr (Nat.le_refl _),.inl a3,Nat.lt_succ_self _,Nat.lt_succ_of_lt a5,PT.get_set_eq _ _ _,PT.get_set_eq _ _ _,?_,?_,rfl,Nat.le_refl _,?_,?_,.inr rfl⟩⟩,⟨Nat.le_succ _,?_,?_⟩⟩
     ·split
      ·right;exact a14
      ·left;rfl
     ·split
      ·exact Nat.le_succ_of_le a14
      ·exact Nat.le_succ _
     ·rw[a12];simp[h1,hm,Nat.add_mul]
     ·rw[a12,List.drop_zero,List.take_of_length_le (by simp[h1,hm,Nat.add_mul])]
     ·intro A hA _;exact PT.get_set_ne _ _ (by omega)
     ·intro A _ hn;exact PT.get_set_ne _ _ fun e=>hn (e▸a3)
end
end Go.X
namespace Go.X
def zt:List Value→List (Nat×Nat×Value)→Option (List Value)
 | cells,[]=>some cells
 | cells,(off,size,v)::rest=>if (zl v).length=size∧off+size≤cells.length then zt (putN cells off (zl v)) rest else none
theorem zHW {t:Fr}:∀ {ps:List (Nat×Nat×Operand)} {z:List Value},fill t z ps=zt z (ps.map fun q=>(q.1,q.2.1,t.eval q.2.2))
 | [],z=>rfl
 | (o,s,x)::r,z=>by
  simp only[fill,List.map_cons,zt]
  split
  ·exact zHW
  ·rfl
theorem p_build {t:Fr} {z:List Value} {ps:List (Nat×Nat×Operand)}:zT t (.build z ps)=aggV (zt z (ps.map fun q=>(q.1,q.2.1,t.eval q.2.2))):=by
 simp only[zT,aggV,zHW]
 split<;>rename_i h<;>simp only[h]
def zGw (len:Nat):Option (List Value)→Option (NBlk×Mk)
 | some cs=>some (.cells cs,.slice len len none)
 | none=>none
theorem zXG {t:Fr} {z:List Value} {n:Nat} {ps:List (Nat×Nat×Operand)}:zAT t (.bslice z n ps)=zGw n (zt z (ps.map fun q=>(q.1,q.2.1,t.eval q.2.2))):=by
 simp only[zAT,zGw,zHW]
 split<;>rename_i h<;>simp only[h]
theorem zXP {n:Nat} {cs:List Value}:zGw n (some cs)=some (.cells cs,.slice n n none):=rfl
theorem zYG {z:List Value}:zt z []=some z:=rfl
theorem zHU {z v:Value} (hv:zl v=[v]):zt [z] [(0,1,v)]=some [v]:=by simp[zt,hv,putN]
theorem fillV_uw {z:Value} {k:IntKind} {x:Nat}:zt [z] [(0,1,uw k x)]=some [uw k x]:=zHU rfl
def nilcV:Value→Option Value
 | .pointer (some a)=>some (.pointer (some a))
 | .func (.func f) a b=>some (.func (.func f) a b)
 | _=>none
theorem p_nilc {t:Fr} {x:Operand}:zT t (.nilc x)=nilcV (t.eval x):=by simp only[zT,nilcV];split<;>simp_all
theorem nilcV_p {a:Addr}:nilcV (.pointer (some a))=some (.pointer (some a)):=rfl
def zHS (o:Nat):Value→Option Value
 | .pointer (some a)=>some (.pointer (some ⟨a.block,a.off+o,a.spot⟩))
 | _=>none
theorem p_faddr {t:Fr} {o:Nat} {x:Operand}:zT t (.faddr o x)=zHS o (t.eval x):=by simp only[zT,zHS];split<;>simp_all
theorem faddrV_p {o:Nat} {a:Addr}:zHS o (.pointer (some a))=some (.pointer (some ⟨a.block,a.off+o,a.spot⟩)):=rfl
theorem zBj {a:Option Addr}:eqX .nptr (.pointer a) (.pointer none)=some a.isNone:=by simp[eqX]
end Go.X
namespace Go.X
theorem Var.store1 {h:Heap} {A i:Nat} {l:List Value} {v:Value} {sp:Option Nat} (hv:Var h A l) (hi:i<l.length) (ho:oneC v=true):h.store ⟨A,i,sp⟩ [v]=some (h.wr A (l.set i v)):=by
 rw[hv.store (vs:=[v]) (show i+1≤l.length from hi) (by simp[ho])]
 congr 2
 simp only[putN,List.length_singleton]
 rw[List.set_eq_take_append_cons_drop,if_pos hi]
 simp
end Go.X
namespace Go.X
section
variable {W S T:Nat→Prop} {h h0 h1 h2:Heap} {A:Nat} {l:List Value} {esz n m:Nat} {v:Value} {new:List Value} {t:Fr}
def zAq (esz:Nat) (v:Value) (lo hi mx:Option Value):Option Value:=match v with
 | .slice a len cap=>match zAu len cap lo hi mx with
  | some (l,e,m)=>(match a with
   | none=>some (.slice none (e - l) (m - l))
   | some a=>if a.spot=none∨a.spot=some esz then some (.slice (some ⟨a.block,a.off+l*esz,a.spot⟩) (e - l) (m - l)) else none)
  | none=>none
 | _=>none
theorem p_slc {x:Operand} {lo hi mx:Option Operand}:zT t (.slc esz x lo hi mx)=zAq esz (t.eval x) (lo.map t.eval) (hi.map t.eval) (mx.map t.eval):=by
 simp only[zT,zAq]
 cases t.eval x<;>try rfl
 simp only[zJy]
 rfl
theorem Own.from (ho:Own h S esz v n l) {j:Nat} {k:IntKind} (hj:j≤n):∃v',zAq esz v (some (.int k (j:Int))) none none=some v'∧Own h S esz v' (n - j) (l.drop (j*esz)):=by
 obtain⟨h1,hv⟩:=ho
 have hlen:(l.drop (j*esz)).length=(n - j)*esz:=by rw[List.length_drop,h1,Nat.sub_mul]
 have hb:∀cap,n≤cap→zAu n cap (some (.int k (j:Int))) none none=some (j,n,cap):=fun cap hc=>by
  simp only[zAu,zAj]
  rw[if_pos (by omega)]
  simp
 rcases hv with ⟨rfl,rfl⟩|⟨B,off,sp,cap,c,f,rfl,a2,a3,a4,a5,a6,a7,a8,a14,a9,a10,a11,a12,a13⟩
 ·obtain rfl:j=0:=by omega
  refine⟨.slice none 0 0,?_,hlen,.inl ⟨rfl,rfl⟩⟩
  simp only[zAq,hb 0 (Nat.le_refl _)]
 ·refine⟨.slice (some ⟨B,off+j*esz,sp⟩) (n - j) (cap - j),?_,hlen,.inr ⟨B,off+j*esz,sp,cap - j,c,f,rfl,a2,a3,a4,a5,a6,a7,a8,a14,a9,by omega,?_,?_,a13⟩⟩
  ·simp only[zAq,hb cap a10]
   rw[if_pos a13]
  ·have:j*esz≤cap*esz:=Nat.mul_le_mul_right _ (by omega)
   rw[Nat.sub_mul];omega
  ·rw[←a12,List.drop_take,List.drop_drop,Nat.sub_mul]
theorem Own.to (ho:Own h S esz v n l) {j:Nat} {k:IntKind} (hj:j≤n):∃v',zAq esz v none (some (.int k (j:Int))) none=some v'∧Own h S esz v' j (l.take (j*esz)):=by
 obtain⟨h1,hv⟩:=ho
 have hle:j*esz≤n*esz:=Nat.mul_le_mul_right _ hj
 have hlen:(l.take (j*esz)).length=j*esz:=by rw[List.length_take,h1];omega
 have hb:∀cap,n≤cap→zAu n cap none (some (.int k (j:Int))) none=some (0,j,cap):=fun cap hc=>by
  simp only[zAu,zAj]
  rw[if_pos (by omega)]
  simp
 rcases hv with ⟨rfl,rfl⟩|⟨B,off,sp,cap,c,f,rfl,a2,a3,a4,a5,a6,a7,a8,a14,a9,a10,a11,a12,a13⟩
 ·obtain rfl:j=0:=by omega
  refine⟨.slice none 0 0,?_,hlen,.inl ⟨rfl,rfl⟩⟩
  simp only[zAq,hb 0 (Nat.le_refl _)]
 ·refine⟨.slice (some ⟨B,off,sp⟩) j cap,?_,hlen,.inr ⟨B,off,sp,cap,c,f,rfl,a2,a3,a4,a5,a6,a7,a8,a14,a9,by omega,a11,?_,a13⟩⟩
  ·simp only[zAq,hb cap a10]
   rw[if_pos a13]
   simp
  ·rw[←a12,List.take_take,Nat.min_eq_left hle]
def zAt (h:Heap) (esz bytes:Nat) (s x:Value):Option (Value×Heap):=match x with
 | .string str=>h.append esz bytes s str.data.toList.length (zV str.data.toList)
 | .slice none n _=>if n=0 then h.append esz bytes s 0 [] else none
 | .slice (some a) n _=>if n=0 then h.append esz bytes s 0 [] else match h.loadN a (n*esz) with
  | some l=>h.append esz bytes s n l
  | none=>none
 | _=>none
theorem zX1 {bytes:Nat} {s x:Operand}:effX t h (.append esz bytes s x)=zAt h esz bytes (t.eval s) (t.eval x):=by
 simp only[effX,zAt]
 cases t.eval x with
 | slice a n c =>
  cases a with
  | none=>rfl
  | some a =>
   dsimp only
   split
   ·rfl
   ·cases h.loadN a (n*esz)<;>rfl
 | _=>rfl
theorem zXL {bytes:Nat} {s:Value} {b:List UInt8}:zAt h esz bytes s (.string (strOf b))=h.append esz bytes s b.length (zV b):=by simp only[zAt,zAk]
theorem Own.src (ho:Own h S esz v n l) {bytes:Nat} {s:Value}:zAt h esz bytes s v=h.append esz bytes s n l:=by
 obtain⟨a,cap,rfl,hs⟩:=ho.shape
 by_cases h0:n=0
 ·subst h0
  obtain rfl:=ho.nil_of
  cases a<;>simp[zAt]
 ·obtain⟨B,off,sp,rfl,h1,_⟩:=hs h0
  simp only[zAt]
  rw[if_neg h0]
  simp only[h1]
theorem Var.src (hv:Var h A l) {bytes:Nat} {s:Value} (hl:l.length=n*esz) (h0:n≠0) {sp:Option Nat} {c:Nat}:zAt h esz bytes s (.slice (some ⟨A,0,sp⟩) n c)=h.append esz bytes s n l:=by
 simp only[zAt]
 rw[if_neg h0]
 have:=hv.loadAll hl (sp:=sp)
 simp only[this]
theorem Var.own (hv:Var h A l) (hf:∀s n,h.fams.get A=some ⟨s,A,n⟩→s≤h.next) (hS:S A) (hl:l.length=n*esz):Own h S esz (.slice (some ⟨A,0,none⟩) n n) n l:=by
 obtain⟨h1,h2,s,k,h3⟩:=hv
 exact⟨hl,.inr ⟨A,0,none,n,⟨l,A,0,false⟩,_,rfl,hS,hS,h1,h1,h2,h3,.inl rfl,hf s k h3,rfl,Nat.le_refl _,by simp[hl],by simp[←hl],.inl rfl⟩⟩
end
theorem zDF {a b:List UInt8}:zV (a++b)=zV a++zV b:=by simp[zV]
theorem zCE {a:List UInt8}:(zV a).length=a.length:=by simp[zV]
theorem zG7 {a:List UInt8} {n:Nat}:(zV a).drop n=zV (a.drop n):=by simp[zV,List.map_drop]
theorem zFW {a:List UInt8} {n:Nat}:(zV a).take n=zV (a.take n):=by simp[zV,List.map_take]
theorem zDG {x:Nat}:zV [UInt8.ofNat x]=[uw .u8 x]:=by simp[zV,uw,zIX]
theorem zFV {a:List UInt8}:(zV a).all oneC=true:=by
 rw[List.all_eq_true];intro v hv
 obtain⟨x,_,rfl⟩:=List.mem_map.1 hv
 rfl
end Go.X
namespace Go.X
theorem zBi {l:List Value}:zl (.agg l.toArray)=l:=by simp[zl]
end Go.X
namespace Go.X
theorem Own.cell {h:Heap} {S:Nat→Prop} {esz n:Nat} {v:Value} {l:List Value} (ho:Own h S esz v n l):zl v=[v]:=by
 obtain⟨a,c,rfl,_⟩:=ho.shape;rfl
theorem Own.one {h:Heap} {S:Nat→Prop} {esz n:Nat} {v:Value} {l:List Value} (ho:Own h S esz v n l):oneC v=true:=by
 obtain⟨a,c,rfl,_⟩:=ho.shape;rfl
theorem Own.lenV {h:Heap} {S:Nat→Prop} {esz n:Nat} {v:Value} {l:List Value} (ho:Own h S esz v n l):zEe v=some (.int .i64 n):=by
 obtain⟨a,c,rfl,_⟩:=ho.shape;rfl
theorem Own.store {h h1:Heap} {S:Nat→Prop} {esz n D i:Nat} {v:Value} {l m:List Value} (ho:Own h S esz v n l) (hD:Var h1 D m) (hi:i<m.length):zAG h1 1 (.pointer (some ⟨D,i,none⟩)) v=some (.tuple #[],h1.wr D (m.set i v)):=by
 rw[zY ho.cell,hD.store1 hi ho.one];rfl
end Go.X
namespace Go.X
section
variable {h:Heap} {S:Nat→Prop} {n:Nat} {v:Value} {t:Fr}
def zFn (n:Nat):Value→Value→Option Value
 | .agg cs,.int _ i=>if 0≤i∧i<n then cs.toList[i.toNat]? else none
 | _,_=>none
theorem p_idxA1 {x i:Operand}:zT t (.idxA1 n x i)=zFn n (t.eval x) (t.eval i):=by
 simp only[zT,zFn];split<;>simp_all
theorem zYS {l:List Value} {k:IntKind} {i:Nat} (hi:i<n):zFn n (.agg l.toArray) (.int k (i:Int))=l[i]?:=by
 simp only[zFn];rw[if_pos (by omega)];simp
def zCa (h:Heap):Value→Option Value
 | .slice none _ _=>some (.string (strOf []))
 | .slice (some a) len _=>if len=0 then some (.string (strOf [])) else match h.loadN a len with
  | some l=>(match zBx l with|some bs=>some (.string (strOf bs))|none=>none)
  | none=>none
 | _=>none
theorem r_cb2sV {x:Operand}:zk t h (.cb2s x)=zCa h (t.eval x):=by
 simp only[zk,zCa]
 cases t.eval x with
 | slice a n c =>
  cases a with
  | none=>rfl
  | some a =>
   dsimp only
   split
   ·rfl
   ·cases h.loadN a n with
    | none=>rfl
    | some l=>dsimp only;cases zBx l<;>rfl
 | _=>rfl
theorem zGx:∀l:List UInt8,zBx (zV l)=some l
 | []=>rfl
 | b::l=>by
  have:=zGx l
  unfold zV at this ⊢
  simp[zBx,this]
theorem Own.cb2s {b:List UInt8} (ho:Own h S 1 v n (zV b)):zCa h v=some (.string (strOf b)):=by
 obtain⟨a,cap,rfl,hs⟩:=ho.shape
 by_cases h0:n=0
 ·subst h0
  have:=ho.nil_of
  obtain rfl:b=[]:=by cases b with|nil=>rfl|cons x b=>simp[zV] at this
  cases a<;>simp[zCa]
 ·obtain⟨B,off,sp,rfl,h1,_⟩:=hs h0
  simp only[zCa]
  rw[if_neg h0]
  rw[Nat.mul_one] at h1
  simp only[h1,zGx]
theorem rem_nat {k:IntKind} {a b:Nat} (hb:b≠0):binX .rem (.int k (a:Int)) (.int k (b:Int))=some (.int k ((a % b:Nat):Int)):=by
 rw[bin_rem (by omega),Int.ofNat_tmod]
end
end Go.X
namespace Go.X
theorem zYF {z:Value} {k:IntKind} {x:Int}:zt [z] [(0,1,.int k x)]=some [.int k x]:=zHU rfl
theorem zYH {z:Value} {x:ByteArray}:zt [z] [(0,1,.string x)]=some [.string x]:=zHU rfl
end Go.X
namespace Go.X
section
variable {S:Nat→Prop} {h:Heap} {esz n:Nat} {v:Value} {l:List Value}
theorem Own.bound (ho:Own h S esz v n l):Own h (fun A=>S A∧A<h.next) esz v n l:=by
 obtain⟨h1,h2⟩:=ho
 refine⟨h1,?_⟩
 rcases h2 with h2|⟨B,off,sp,cap,c,f,a1,a2,a3,a4,a5,a6⟩
 ·exact .inl h2
 ·exact .inr ⟨B,off,sp,cap,c,f,a1,⟨a2,a4⟩,⟨a3,a5⟩,a4,a5,a6⟩
theorem Own.both (ho:Own h S esz v n l) {i j:Nat} {k k':IntKind} (hi:i≤j) (hj:j≤n):∃v',zAq esz v (some (.int k (i:Int))) (some (.int k' (j:Int))) none=some v'∧Own h S esz v' (j - i) ((l.drop (i*esz)).take ((j - i)*esz)):=by
 obtain⟨v1,e1,o1⟩:=ho.from (j:=i) (k:=k) (by omega)
 obtain⟨v2,e2,o2⟩:=o1.to (j:=j - i) (k:=k') (by omega)
 refine⟨v2,?_,o2⟩
 obtain⟨a,cap,rfl,hs⟩:=ho.shape
 have hc:n≤cap∨(a=none∧n=0∧cap=0):=by
  rcases ho.2 with ⟨q,rfl⟩|⟨B,off,sp,cap',c,f,q,a2,a3,a4,a5,a6,a7,a8,a14,a9,a10,a11⟩
  ·cases q;exact .inr ⟨rfl,rfl,rfl⟩
  ·cases q;exact .inl a10
 have hn:n≤cap:=by rcases hc with h|⟨_,rfl,rfl⟩<;>omega
 have b1:zAu n cap (some (.int k (i:Int))) none none=some (i,n,cap):=by
  simp only[zAu,zAj];rw[if_pos (by omega)];simp
 have b2:zAu n cap (some (.int k (i:Int))) (some (.int k' (j:Int))) none=some (i,j,cap):=by
  simp only[zAu,zAj];rw[if_pos (by omega)];simp only;rw[if_pos (by omega)];simp
 have b3:zAu (n - i) (cap - i) none (some (.int k' ((j - i:Nat):Int))) none=some (0,j - i,cap - i):=by
  simp only[zAu,zAj];rw[if_pos (by omega)];simp
 simp only[zAq,b1] at e1
 simp only[zAq,b2]
 cases a with
 | none =>
  cases e1
  simp only[zAq,b3] at e2
  cases e2;simp
 | some a =>
  dsimp only at e1 ⊢
  by_cases hsp:a.spot=none∨a.spot=some esz
  ·rw[if_pos hsp] at e1 ⊢
   cases e1
   simp only[zAq,b3] at e2
   rw[if_pos hsp] at e2
   cases e2;simp
  ·rw[if_neg hsp] at e1;cases e1
theorem Own.newSlice {sp:Option Nat} (hl:l.length=n*esz) (hsp:sp=none∨sp=some esz):Own (h.new l) (fun A=>A=h.next) esz (.slice (some ⟨h.next,0,sp⟩) n n) n l :=
 ⟨hl,.inr ⟨h.next,0,sp,n,⟨l,h.next,0,false⟩,⟨0,h.next,l.length⟩,rfl,rfl,rfl,Nat.lt_succ_self _,Nat.lt_succ_self _,PT.get_set_eq _ _ _,PT.get_set_eq _ _ _,.inl rfl,Nat.zero_le _,rfl,Nat.le_refl _,by simp[hl],by simp[←hl],hsp⟩⟩
theorem Own.newB {sp:Option Nat} (hl:l.length=n*esz) (hsp:sp=none∨sp=some esz):Own (h.newB l) (fun A=>A=h.next) esz (.slice (some ⟨h.next,0,sp⟩) n n) n l :=
 ⟨hl,.inr ⟨h.next,0,sp,n,⟨l,h.next,0,false⟩,⟨h.next+1,h.next,l.length⟩,rfl,rfl,rfl,Nat.lt_succ_self _,Nat.lt_succ_self _,PT.get_set_eq _ _ _,PT.get_set_eq _ _ _,.inl rfl,Nat.le_refl _,rfl,Nat.le_refl _,by simp[hl],by simp[←hl],hsp⟩⟩
theorem Own.addr1 (ho:Own h S 1 v n l) {i:Nat} (hi:i<n) {k:IntKind}:∃B o,zA9 1 v (.int k (i:Int))=some (.pointer (some ⟨B,o,none⟩))∧h.load ⟨B,o,none⟩=l[i]?:=by
 obtain⟨a,cap,rfl,hs⟩:=ho.shape
 obtain⟨B,off,sp,rfl,h1,h2⟩:=hs (by omega)
 exact⟨B,off+i,zCi hi,h2 i (by omega)⟩
end
theorem zG8 {b:List UInt8} {i:Nat} (hi:i<b.length):(zV b)[i]?=some (uw .u8 (b.getD i 0).toNat):=by
 simp only[zV,List.getElem?_map,List.getElem?_eq_getElem hi,Option.map_some,List.getD_eq_getElem?_getD,Option.getD_some,uw,zIX]
 have:=(b[i]).toNat_lt
 rw[Nat.mod_eq_of_lt (by simpa using this)]
end Go.X
namespace Go.X
def extV (i:Nat):Value→Option Value|.tuple vs=>vs.toList[i]?|_=>none
theorem p_ext {t:Fr} {x:Operand} {i:Nat}:zT t (.ext x i)=extV i (t.eval x):=by simp only[zT,extV];split<;>simp_all
theorem extV_20 {a b:Value}:extV 0 (.tuple #[a,b])=some a:=rfl
theorem extV_21 {a b:Value}:extV 1 (.tuple #[a,b])=some b:=rfl
theorem extV_30 {a b c:Value}:extV 0 (.tuple #[a,b,c])=some a:=rfl
theorem extV_31 {a b c:Value}:extV 1 (.tuple #[a,b,c])=some b:=rfl
theorem extV_32 {a b c:Value}:extV 2 (.tuple #[a,b,c])=some c:=rfl
end Go.X
end
section
namespace Go.X
set_option linter.unusedVariables false
def chkd (full:List XO):List (Nat×Nat×List Nat)→List (Fr×Heap)→Nat→Prop
 | [],_,_=>True
 | c::cs,tr,i=>(if (c.1=i∧c.2.1≤i)∨(c.2.1=i∧c.1≤i) then zAZ full tr.reverse c.1 c.2.1 c.2.2=true else True)∧chkd full cs tr i
theorem chkd_nil {full:List XO} {tr:List (Fr×Heap)} {i:Nat}:chkd full [] tr i=True:=rfl
theorem zXj {full:List XO} {tr:List (Fr×Heap)} {i:Nat} {c:Nat×Nat×List Nat} {cs:List (Nat×Nat×List Nat)}:chkd full (c::cs) tr i=((if (c.1=i∧c.2.1≤i)∨(c.2.1=i∧c.1≤i) then zAZ full tr.reverse c.1 c.2.1 c.2.2=true else True)∧chkd full cs tr i):=rfl
def wpd (pr:Prog) (full:List XO) (cs:List (Nat×Nat×List Nat)):Nat→List (Fr×Heap)→List XO→(Fr→Heap→Prop)→Fr→Heap→Prop
 | i,tr,[],K,t,h=>chkd full cs ((t,h)::tr) i∧K t h
 | i,tr,x::l,K,t,h=>chkd full cs ((t,h)::tr) i∧∃r,zu (cfi pr) t h x=some r∧wpd pr full cs (i+1) ((t,h)::tr) l K (t.put x.dst r.1) r.2
section
variable {pr:Prog} {full:List XO} {cs:List (Nat×Nat×List Nat)} {i:Nat} {tr:List (Fr×Heap)} {K:Fr→Heap→Prop} {t:Fr} {h:Heap}
theorem wpd_nil:wpd pr full cs i tr [] K t h=(chkd full cs ((t,h)::tr) i∧K t h):=rfl
theorem wpd_cons {x:XO} {l:List XO}:wpd pr full cs i tr (x::l) K t h=(chkd full cs ((t,h)::tr) i∧∃r,zu (cfi pr) t h x=some r∧wpd pr full cs (i+1) ((t,h)::tr) l K (t.put x.dst r.1) r.2):=rfl
theorem zXg {l:List XO} {p q:List (Fr×Heap)} {j k:Nat} (hc:zAZ l p j k []=true):zAZ l (p++q) j k []=true:=by
 unfold zAZ at *
 split at hc
 ·rename_i o t h t' h' h1 h2 h3
  have e2:(p++q)[j]?=some (t,h):=by rw[List.getElem?_append_left (List.getElem?_eq_some_iff.1 h2).1];exact h2
  have e3:(p++q)[k]?=some (t',h'):=by rw[List.getElem?_append_left (List.getElem?_eq_some_iff.1 h3).1];exact h3
  rw[h1,e2,e3]
  exact hc
 ·cases hc
theorem zHF {c:Nat×Nat×List Nat}:∀ {cs:List (Nat×Nat×List Nat)},chkd full cs tr i→c∈cs→(c.1=i∧c.2.1≤i)∨(c.2.1=i∧c.1≤i)→zAZ full tr.reverse c.1 c.2.1 c.2.2=true
 | [],_,hm,_=>by simp at hm
 | d::cs,⟨h1,h2⟩,hm,hi=>by
  rcases List.mem_cons.1 hm with rfl|hm
  ·rw[if_pos hi] at h1;exact h1
  ·exact zHF h2 hm hi
theorem zMW (hp:cs.all (fun c=>c.2.2.isEmpty)=true):∀ {l:List XO} {i:Nat} {tr:List (Fr×Heap)} {t:Fr} {h:Heap},tr.length=i→wpd pr full cs i tr l K t h →
  ∃tr2 t' h',opsT (cfi pr) l t h=some tr2∧tr2.getLast?=some (t',h')∧K t' h'∧tr2.length=l.length+1 ∧
   ∀c∈cs,i≤max c.1 c.2.1→max c.1 c.2.1≤i+l.length→zAZ full (tr.reverse++tr2) c.1 c.2.1 c.2.2=true
 | [],i,tr,t,h,hi,⟨h1,h2⟩=>by
  refine⟨[(t,h)],t,h,rfl,rfl,h2,rfl,fun c hc g1 g2=>?_⟩
  have:=zHF h1 hc (by simp at g2;omega)
  simpa using this
 | x::l,i,tr,t,h,hi,⟨h1,r,h2,h3⟩=>by
  obtain⟨tr2,t',h',a1,a2,a3,a4,a5⟩:=zMW hp (i:=i+1) (tr:=(t,h)::tr) (by simp[hi]) h3
  refine⟨(t,h)::tr2,t',h',?_,?_,a3,by simp[a4],fun c hc g1 g2=>?_⟩
  ·obtain⟨v,h4⟩:=r
   simp only[opsT,h2]
   simp only at a1
   rw[a1]
  ·cases tr2 with
   | nil=>simp at a4
   | cons q tr2=>simpa using a2
  ·by_cases hk:max c.1 c.2.1=i
   ·have hpc:c.2.2=[]:=by
     rw[List.all_eq_true] at hp
     simpa using hp c hc
    have:=zHF h1 hc (by omega)
    rw[hpc] at this ⊢
    have h5:=zXg (q:=tr2) this
    simpa using h5
   ·have:=a5 c hc (by omega) (by simp at g2 ⊢;omega)
    simpa using this
def inAll (n:Nat) (cs:List (Nat×Nat×List Nat)):Bool:=cs.all fun c=>c.2.2.isEmpty&&(Nat.ble c.1 n&&Nat.ble c.2.1 n)
theorem zR {k:List KI} {Q:XE→Fr→Heap→Prop} {l:List XO} (hp:inAll l.length cs=true) (hw:wpd pr l cs 0 [] l (kont pr k Q) t h):wpk pr (.draw l cs) k Q t h:=by
 unfold inAll at hp
 have hp1:cs.all (fun c=>c.2.2.isEmpty)=true:=by
  rw[List.all_eq_true] at hp ⊢
  intro c hc
  have:=hp c hc
  simp only[Bool.and_eq_true] at this
  exact this.1
 obtain⟨tr,t',h',h1,h2,h3,h4,h5⟩:=zMW hp1 (i:=0) (tr:=[]) rfl hw
 obtain⟨n,hn⟩:=zF5 h1
 refine⟨.normal,t',h',⟨n+1,?_⟩,h3.out⟩
 have hchk:zAw l tr cs=true:=by
  unfold zAw
  rw[List.all_eq_true]
  intro c hc
  rw[List.all_eq_true] at hp
  have:=hp c hc
  simp only[Bool.and_eq_true] at this
  have b1:=Nat.le_of_ble_eq_true this.2.1
  have b2:=Nat.le_of_ble_eq_true this.2.2
  have:=h5 c hc (by omega) (by omega)
  simpa using this
 simp only[run,hn n (Nat.le_refl n),hchk,cond_true,h2]
theorem zXh {l:List XO} {tr:List (Fr×Heap)} {j k:Nat} {d:Option Nat} {op:ROp} {t t':Fr} {h h':Heap} {v:Value}
  (h1:l[j]?=some ⟨d,.r op,none⟩) (h2:tr[j]?=some (t,h)) (h3:tr[k]?=some (t',h')) (h4:zk t h op=some v) (h5:zk t h' op=some v):zAZ l tr j k []=true:=by
 unfold zAZ
 rw[h1,h2,h3]
 simp only[zBI,h4,h5,zEx,Bool.or_true]
end
end Go.X
namespace Go.X
theorem zAa {l:List XO} {tr:List (Fr×Heap)} {j k:Nat} {d:Option Nat} {op:ROp} {t t':Fr} {h h':Heap}
  (h1:l[j]?=some ⟨d,.r op,none⟩) (h2:tr[j]?=some (t,h)) (h3:tr[k]?=some (t',h')) (h4:(zk t h op).isSome=true) (h5:zk t h' op=zk t h op):zAZ l tr j k []=true:=by
 obtain⟨v,hv⟩:=Option.isSome_iff_exists.1 h4
 exact zXh h1 h2 h3 hv (by rw[h5,hv])
end Go.X
end
section
namespace Go.X
set_option linter.unusedVariables false
section
variable {S:Nat→Prop} {h:Heap} {n:Nat} {v:Value} {l:List Value}
theorem Own.set1 (ho:Own h S 1 v n l) {i:Nat} (hi:i<n) {k:IntKind}:∃B o,zA9 1 v (.int k (i:Int))=some (.pointer (some ⟨B,o,none⟩))∧h.load ⟨B,o,none⟩=l[i]? ∧
  ∀x,zl x=[x]→oneC x=true→∃h',zAG h 1 (.pointer (some ⟨B,o,none⟩)) x=some (.tuple #[],h')∧Own h' S 1 v n (l.set i x)∧Keeps S h h':=by
 obtain⟨h1,hv⟩:=ho
 rcases hv with ⟨rfl,rfl⟩|⟨B,off,sp,cap,c,f,rfl,a2,a3,a4,a5,a6,a7,a8,a14,a9,a10,a11,a12,a13⟩
 ·omega
 ·have hok:h.okCells B=some c:=okCells_iff.2 ⟨a6,f,a7,a8⟩
  rw[Nat.mul_one] at a11 h1 a12
  refine⟨B,off+i,zCi hi,?_,fun x hx1 hx2=>?_⟩
  ·simp only[Heap.load,hok]
   rw[←a12,List.getElem?_take,if_pos hi,List.getElem?_drop]
  ·have hst:h.store ⟨B,off+i,none⟩ [x]=some { h with blks:=h.blks.set B (.cells { c with cells:=putN c.cells (off+i) [x] }),fams:=h.fams.set c.fam { f with since:=h.next,who:=B } }:=by
    simp only[Heap.store,hok]
    rw[Nat.ble_eq_true_of_le (by simp;omega)]
    simp[a9,a7,hx2]
   refine⟨{ h with blks:=h.blks.set B (.cells { c with cells:=putN c.cells (off+i) [x] }),fams:=h.fams.set c.fam { f with since:=h.next,who:=B } },by rw[zY hx1,hst];rfl,⟨by simp[h1],.inr ⟨B,off,sp,cap,{ c with cells:=putN c.cells (off+i) [x] },{ f with since:=h.next,who:=B },rfl,a2,a3,a4,a5,PT.get_set_eq _ _ _,PT.get_set_eq _ _ _,.inl rfl,Nat.le_refl _,a9,a10,?_,?_,a13⟩⟩,⟨Nat.le_refl _,?_,?_⟩⟩
   ·simp only[putN,List.length_append,List.length_take,List.length_drop,List.length_singleton];omega
   ·have e:putN c.cells (off+i) [x]=c.cells.set (off+i) x:=by
     simp only[putN,List.length_singleton]
     rw[List.set_eq_take_append_cons_drop,if_pos (by omega)]
     simp
    simp only[e]
    rw[List.drop_set,if_neg (by omega),List.take_set,show off+i - off=i by omega,Nat.mul_one,a12]
   ·intro A _ hn;exact PT.get_set_ne _ _ fun e=>hn (e▸a2)
   ·intro A _ hn;exact PT.get_set_ne _ _ fun e=>hn (e▸a3)
end
theorem zXX {b:List UInt8} {i:Nat} {x:UInt8}:(zV b).set i (.int .u8 x.toNat)=zV (b.set i x):=by simp[zV,List.map_set]
theorem zGX (x:UInt8):uw .u8 x.toNat=.int .u8 x.toNat:=by
 unfold uw
 rw[zIX,Nat.mod_eq_of_lt (by simpa using x.toNat_lt)]
end Go.X
namespace Go.X
def zEX:Value→Value→Option Value
 | .string s,.int _ i=>if 0≤i then (match s.data.toList[i.toNat]? with|some b=>some (.int .u8 b.toNat)|none=>none) else none
 | _,_=>none
theorem p_idxS {t:Fr} {x i:Operand}:zT t (.idxS x i)=zEX (t.eval x) (t.eval i):=by
 simp only[zT,zEX]
 cases t.eval x<;>try rfl
theorem zHd {s:List UInt8} {k:IntKind} {i:Nat} (hi:i<s.length):zEX (.string (strOf s)) (.int k (i:Int))=some (uw .u8 (s.getD i 0).toNat):=by
 simp only[zEX,zAk]
 rw[if_pos (by omega)]
 simp only[Int.toNat_natCast,List.getElem?_eq_getElem hi,zGX,List.getD_eq_getElem?_getD,Option.getD_some]
end Go.X
namespace Go.X
def zCU (v:Value) (w:Bool):Bool:=match v with|.bool b=>b==w|_=>false
theorem zZp {t:Fr} {s:Nat} {w:Bool}:zAD t (some (s,w))=zCU (t.get s) w:=by
 simp only[zAD,zCU];split<;>simp_all
theorem zAX:zCU (.bool true) true=true:=rfl
theorem zAU:zCU (.bool false) false=true:=rfl
theorem zAW:zCU (.bool true) false=false:=rfl
theorem zAV:zCU (.bool false) true=false:=rfl
theorem wantV_t {b:Bool}:zCU (.bool b) true=b:=by cases b<;>rfl
theorem wantV_f {b:Bool}:zCU (.bool b) false=!b:=by cases b<;>rfl
end Go.X
namespace Go.X
section
variable {s:List UInt8} {n m:Nat} {k k':IntKind}
theorem zHH (h:n≤s.length):zBq (.string (strOf s)) none (some (.int k (n:Int)))=some (.string (strOf (s.take n))):=by rw[slcSV_to,if_pos (by omega)];simp
theorem cut_both (h1:n≤m) (h:m≤s.length):zBq (.string (strOf s)) (some (.int k (n:Int))) (some (.int k' (m:Int)))=some (.string (strOf ((s.drop n).take (m - n)))):=by rw[zZS,if_pos (by omega)];simp
end
end Go.X
namespace Go.X
abbrev E3 (a b:List XO):Prop:=(∀ (pr:Prog) (K:Fr→Heap→Prop) (t:Fr) (h:Heap),wpo pr a K t h=wpo pr b K t h)∧(∀ (pr:Prog) (K:Fr→Heap→Prop) (t:Fr) (h:Heap),wps pr a K t h=wps pr b K t h) ∧
 ∀ (pr:Prog) (u:List XO) (c:List (Nat×Nat×List Nat)) (i:Nat) (r:List (Fr×Heap)) (K:Fr→Heap→Prop) (t:Fr) (h:Heap),wpd pr u c i r a K t h=wpd pr u c i r b K t h
theorem E3.rfl {a:List XO}:E3 a a:=⟨fun _ _ _ _=>Eq.refl _,fun _ _ _ _=>Eq.refl _,fun _ _ _ _ _ _ _ _=>Eq.refl _⟩
end Go.X
end
section
namespace Go.X
set_option linter.unusedVariables false
section
variable {S:Nat→Prop} {h g:Heap} {n m sz bytes:Nat} {v:Value} {l lit:List Value}
theorem Own.putAt (ho:Own h S sz v n l) (h0:n≠0) {k:Nat} {vs:List Value} (hk:k+vs.length≤n*sz) (hone:vs.all oneC=true):∃B off sp cap h',v=.slice (some ⟨B,off,sp⟩) n cap∧h.store ⟨B,off+k,none⟩ vs=some h'∧Own h' S sz v n (putN l k vs)∧Keeps S h h':=by
 obtain⟨h1,hv⟩:=ho
 rcases hv with ⟨rfl,rfl⟩|⟨B,off,sp,cap,c,f,rfl,a2,a3,a4,a5,a6,a7,a8,a14,a9,a10,a11,a12,a13⟩
 ·exact absurd rfl h0
 ·have hok:h.okCells B=some c:=okCells_iff.2 ⟨a6,f,a7,a8⟩
  have hnc:n*sz≤cap*sz:=Nat.mul_le_mul_right _ a10
  have hst:h.store ⟨B,off+k,none⟩ vs=some { h with blks:=h.blks.set B (.cells { c with cells:=putN c.cells (off+k) vs }),fams:=h.fams.set c.fam { f with since:=h.next,who:=B } }:=by
   simp only[Heap.store,hok]
   rw[Nat.ble_eq_true_of_le (show off+k+vs.length≤c.cells.length by omega)]
   simp[a9,a7,hone]
  refine⟨B,off,sp,cap,_,rfl,hst,⟨?_,.inr ⟨B,off,sp,cap,{ c with cells:=putN c.cells (off+k) vs },{ f with since:=h.next,who:=B },rfl,a2,a3,a4,a5,PT.get_set_eq _ _ _,PT.get_set_eq _ _ _,.inl rfl,Nat.le_refl _,a9,a10,?_,?_,a13⟩⟩,⟨Nat.le_refl _,?_,?_⟩⟩
  ·rw[zCz (by omega)];exact h1
  ·rw[zCz (by omega)];exact a11
  ·show ((putN c.cells (off+k) vs).drop off).take (n*sz)=_
   rw[zHK (by omega) (by omega),a12]
  ·intro A _ hn;exact PT.get_set_ne _ _ fun e=>hn (e▸a2)
  ·intro A _ hn;exact PT.get_set_ne _ _ fun e=>hn (e▸a3)
theorem putN_mid {a b c:List Value}:putN (a++b++c) a.length (c++b)=a++c++b:=by
 have:=zCy (l:=a++b++c) (a:=a) (b:=b++c) (c:=[]) a.length (by simp) rfl (vs:=c++b) (by simp;omega)
 simpa using this
theorem Own.insert (ho:Own g S sz v n l) (hlit:lit.length=m*sz) (hm:m≠0) (hone:lit.all oneC=true) (hlone:l.all oneC=true) (hsz:sz≠0) (hby:bytes≠0) (hroom:(n+m)*bytes≤zU) {i:Nat} (hi:i≤n) :
  ∃v' h',zCk sz bytes [v,.int .i64 (i:Int),.slice (some ⟨g.next,0,none⟩) m m] (g.new lit)=some (v',h')∧Own h' (fun A=>S A∨g.next<A) sz v' (n+m) (l.take (i*sz)++lit++l.drop (i*sz))∧Keeps S (g.new lit) h':=by
 have hV:Var (g.new lit) g.next lit:=Var.new_self
 have hO:=ho.grow (Grows.new (l:=lit))
 have hll:l.length=n*sz:=ho.1
 obtain⟨v1,h1,e1,hO1,k1⟩:=hO.append (bytes:=bytes) (m:=m) (new:=lit) hlit hone hsz hby hroom
 have hld:(g.new lit).loadN ⟨g.next,0,none⟩ (m*sz)=some lit:=hV.loadAll hlit
 have hmono:∀A,(S A∨(g.new lit).next≤A)→(S A∨g.next<A):=fun A hA=>hA.imp id fun q=>by
  have:(g.new lit).next=g.next+1:=rfl
  omega
 obtain⟨b,cap,hv,hsh⟩:=hO.shape
 have hcond:¬(m=0∨(i:Int)<0∨(n:Int)<(i:Int)):=by omega
 by_cases hin:i=n
 ·subst hin
  refine⟨v1,h1,?_,?_,k1⟩
  ·rw[hv] at e1 ⊢
   simp only[zCk]
   rw[if_neg hcond,hld]
   simp only[if_true]
   exact e1
  ·rw[List.take_of_length_le (by omega),List.drop_of_length_le (by omega),List.append_nil]
   exact hO1.mono hmono
 ·have hn0:n≠0:=by omega
  obtain⟨B,off,sp,rfl,hl1,_⟩:=hsh hn0
  have hmul:(n+m)*sz=n*sz+m*sz:=Nat.add_mul _ _ _
  have his:i*sz≤n*sz:=Nat.mul_le_mul_right _ hi
  obtain⟨B1,off1,sp1,cap1,h2,rfl,st,hO2,k2⟩:=hO1.putAt (by omega) (k:=i*sz) (vs:=lit++l.drop (i*sz)) (by simp only[List.length_append,List.length_drop];omega) (by
   rw[List.all_append,hone,Bool.true_and,List.all_eq_true]
   intro x hx
   exact List.all_eq_true.1 hlone x (List.mem_of_mem_drop hx))
  have hap:zEO (g.new lit) ⟨B,off,sp⟩ ⟨g.next,0,none⟩=true:=by
   obtain⟨_,hv2⟩:=ho
   rcases hv2 with ⟨e,rfl⟩|⟨B2,off2,sp2,cap2,c,f,e,a2,a3,a4,a5,a6,a7,a8,a14,a9,a10,a11,a12,a13⟩
   ·exact absurd rfl hn0
   ·rw[hv] at e
    cases e
    have hok:(g.new lit).okCells B=some c:=by
     refine okCells_iff.2 ⟨?_,f,?_,a8⟩
     ·rw[←a6];exact PT.get_set_ne _ _ (by omega)
     ·rw[←a7];exact PT.get_set_ne _ _ (by omega)
    have hok2:(g.new lit).okCells g.next=some ⟨lit,g.next,0,false⟩:=okCells_iff.2 ⟨PT.get_set_eq _ _ _,⟨0,g.next,lit.length⟩,PT.get_set_eq _ _ _,.inl rfl⟩
    have hf2:(g.new lit).fams.get g.next=some ⟨0,g.next,lit.length⟩:=PT.get_set_eq _ _ _
    have hne:c.fam.beq g.next=false:=by
     cases hb:c.fam.beq g.next with
     | false=>rfl
     | true=>have:=Nat.eq_of_beq_eq_true hb;omega
    simp only[zEO,hok,hok2,hf2,a9,hne]
    rfl
  refine⟨.slice (some ⟨B1,off1,sp1⟩) (n+m) cap1,h2,?_,?_,(k1.trans k2 fun A hA q=>?_)⟩
  ·rw[hv] at e1 ⊢
   simp only[zCk]
   rw[if_neg hcond,hld]
   simp only
   rw[if_neg (by omega),if_pos hap,Int.toNat_natCast]
   simp only[zFp,hl1,e1,st]
  ·have e:putN (l++lit) (i*sz) (lit++l.drop (i*sz))=l.take (i*sz)++lit++l.drop (i*sz):=by
    have h3:(l.take (i*sz)).length=i*sz:=by simp;omega
    have:=putN_mid (a:=l.take (i*sz)) (b:=l.drop (i*sz)) (c:=lit)
    rw[List.take_append_drop,h3] at this
    exact this
   rw[e] at hO2
   exact hO2.mono hmono
  ·rcases q with q|q
   ·exact q
   ·omega
end
end Go.X
end
section
namespace Go.X
def lemS:=PLift.up (And.intro (And.intro (And.intro (And.intro (And.intro (And.intro (@zZc) (@zZp)) (And.intro (@wantV_t) (@wantV_f))) (And.intro (And.intro (@p_idxS) (@p_ext)) (And.intro (@extV_20) (And.intro (@extV_21) (@extV_30))))) (And.intro (And.intro (And.intro (@extV_31) (@extV_32)) (And.intro (@p_nilc) (@nilcV_p))) (And.intro (And.intro (@p_faddr) (@faddrV_p)) (And.intro (@wpd_cons) (And.intro (@wpd_nil) (@zXj)))))) (And.intro (And.intro (And.intro (And.intro (@chkd_nil) (@wpo_cons)) (And.intro (@wpo_nil) (@wps_cons))) (And.intro (And.intro (@wps_nil) (@zZe)) (And.intro (@stepO_p) (And.intro (@stepO_r) (@zZY))))) (And.intro (And.intro (And.intro (@p_mov) (@p_lenS)) (And.intro (@p_lenV) (@p_bin))) (And.intro (And.intro (@p_un) (@p_cint)) (And.intro (@p_pick) (And.intro (@p_eql) (@zZt))))))) (And.intro (And.intro (And.intro (And.intro (And.intro (@zGJ) (@some_ex2)) (And.intro (@put_some) (@put_none))) (And.intro (And.intro (@zYC) (@eval_tmp)) (And.intro (@get_put) (And.intro (@lenSV_s) (@lenVV_s))))) (And.intro (And.intro (And.intro (@pickV_b) (@zX5)) (And.intro (@eqX_s) (@eqX_i))) (And.intro (And.intro (@eqX_b) (@zJt)) (And.intro (@zJw) (And.intro (@zJu) (@bin_lss)))))) (And.intro (And.intro (And.intro (And.intro (@bin_leq) (@bin_gtr)) (And.intro (@bin_geq) (@un_not))) (And.intro (And.intro (@un_neg) (@zAk)) (And.intro (@ifB_bool) (And.intro (@ifB_t) (@ifB_f))))) (And.intro (And.intro (And.intro (@p_slcS) (@res_tmpE)) (And.intro (@res_twoE) (@zZD))) (And.intro (And.intro (@zZB) (@eval_C)) (And.intro (@eval_T) (And.intro (@imp_t) (@imp_f))))))))
def lemH:=PLift.up (And.intro (And.intro (And.intro (And.intro (And.intro (@zYF) (@zYH)) (And.intro (@r_cb2sV) (@p_idxA1))) (And.intro (And.intro (@zBi) (@zX1)) (And.intro (@zXL) (And.intro (@p_slc) (@stepO_a))))) (And.intro (And.intro (And.intro (@stepO_e) (And.intro (@zYr) (@zYq))) (And.intro (@al_alloc) (@al_box))) (And.intro (And.intro (@al_cs2b) (@zFa)) (And.intro (@val_ptr) (And.intro (@zZo) (@zXz)))))) (And.intro (And.intro (And.intro (And.intro (@e_storeV) (@zFX)) (And.intro (@zXe) (@zHA))) (And.intro (And.intro (@zXd) (@zAA)) (And.intro (@zz) (And.intro (@zAB) (@z8))))) (And.intro (And.intro (And.intro (@zw) (@p_iaddrA)) (And.intro (@wr_next) (And.intro (@new_next) (@zYt)))) (And.intro (And.intro (@p_build) (@zXG)) (And.intro (@zXP) (And.intro (@zYG) (@fillV_uw)))))))
def lemW:=PLift.up (And.intro (And.intro (And.intro (And.intro (And.intro (@add_u8) (@mul_u8)) (And.intro (@xor_u8) (@and_u8))) (And.intro (And.intro (@or_u8) (@shl_u8)) (And.intro (@shr_u8) (And.intro (@com_u8) (@subM_u8))))) (And.intro (And.intro (And.intro (@add_u32) (@mul_u32)) (And.intro (@xor_u32) (@and_u32))) (And.intro (And.intro (@or_u32) (@zL1)) (And.intro (@zIS) (And.intro (@com_u32) (@subM_u32)))))) (And.intro (And.intro (And.intro (And.intro (@add_u64) (@mul_u64)) (And.intro (@xor_u64) (@and_u64))) (And.intro (And.intro (@or_u64) (@zL2)) (And.intro (@shr_u64) (And.intro (@com_u64) (@subM_u64))))) (And.intro (And.intro (And.intro (@zXs) (@zXq)) (And.intro (@zXr) (@zXm))) (And.intro (And.intro (@zXk) (@zXl)) (And.intro (@zXp) (And.intro (@zXn) (@zXo)))))))
def lemC:=PLift.up (And.intro (And.intro (And.intro (And.intro (@Int.cast_ofNat_Int) (And.intro (@beq_self_eq_true.{0}) (@cond_true.{1}))) (And.intro (And.intro (@cond_false.{1}) (@Bool.not_eq_true')) (And.intro (@Bool.not_eq_false') (@beq_iff_eq.{0})))) (And.intro (And.intro (And.intro (@beq_eq_false_iff_ne.{0}) (@Option.isNone_some.{0})) (And.intro (@Option.isNone_none.{0}) (@Nat.zero_add))) (And.intro (And.intro (@and_self) (@and_false)) (And.intro (@false_and) (@or_false))))) (And.intro (And.intro (And.intro (And.intro (@false_or) (@or_self)) (And.intro (@if_true.{1}) (@if_false.{1}))) (And.intro (And.intro (@decide_eq_true_eq) (@decide_eq_false_iff_not)) (And.intro (@List.map_cons.{0,0}) (@List.map_nil.{0,0})))) (And.intro (And.intro (And.intro (@true_and) (@Option.map_some.{0,0})) (And.intro (@Option.map_none.{0,0}) (@decide_true))) (And.intro (And.intro (@decide_false) (@Bool.not_true)) (And.intro (@Bool.not_false) (@and_true))))))
end Go.X
end
section
namespace Go.X
set_option linter.unusedVariables false
section
variable {pr:Prog} {full:List XO} {cs:List (Nat×Nat×List Nat)} {i:Nat} {tr:List (Fr×Heap)} {K:Fr→Heap→Prop} {t:Fr} {h:Heap}
end
end Go.X
end
