/-
 The program's package graph: the parts of a graph.
-/
import Derived.Test.YtkhpbclcfldhmaaGreatDoorT12
set_option linter.constructorNameAsVariable false
set_option linter.unusedSimpArgs false
set_option linter.unusedVariables false
namespace Go.Proofs.YtkhpbclcfldhmaaGreatDoor
open Go.Am Go.Tx
set_option maxRecDepth 100000
abbrev IC:CT:= .i .i64
abbrev E2:CT:= .p IC IC
abbrev nl (l:List Nat):List Int:=l.map Int.ofNat
abbrev el (l:List (Nat×Nat)):List (Int×Int):=l.map fun x=>((x.1:Int),(x.2:Int))
theorem ZvJ (n:Nat) (hn:n<41):PureOK Tryz.prog Zao 100 [.v (.i .u64) (1:Int), .v (.i .u64) (n:Int)] (fun V=>V= .tup [.v (.i .u64) (0:Int), .v (.i .u64) (n:Int)]):=by
 refine Zae Zah Tryz.func100 ?_
 refine And.intro (show(0:Int)≤32 by decide) ?_
 refine And.intro (show(0:Int)≤32 by decide) ?_
 refine And.intro (show(0:Int)≤32 by decide) ?_
 refine And.intro (show(0:Int)≤32 by decide) ?_
 refine And.intro (show(0:Int)≤32 by decide) ?_
 refine congrArg (fun x:Int×Int=>SV.tup [.v (.i .u64) x.1, .v (.i .u64) x.2]) (?_:(_,_)=((0:Int),(n:Int)))
 revert n
 decide+kernel
theorem Zx4 (n:Nat) (hn:n<41):PureOK Tryz.prog Zao 84 [.v (.i .u64) (1:Int), .v (.i .u64) (n:Int)] (fun V=>V= .tup [.v (.i .u64) (0:Int), .v (.i .u64) (n:Int)]):=by
 refine Zae Zah Tryz.func84 ?_
 refine brF rfl ?_
 refine(ZvJ n hn).mono ?_
 rintro _ rfl
 rfl
set_option maxHeartbeats 4000000 in
theorem ZqL (x:Int) (n:Nat) (hn:n<41):ImpOK Tryz.prog Zao 71 [.v (.l IC) [x], .v (.i .i64) (n:Int)] (fun V hp sf=>V= .ref 0 0 n none∧hp=[.row IC (List.replicate n x) true]∧sf=true):=by
 refine Zpl (fn:=Tryz.f71) (code:=Zdg Tryz.f71) Zah (by kernel_rfl) Tryz.func71 (by kernel_rfl) (Nat.le_of_ble_eq_true (by kernel_rfl)) ?_
 have u1:IntKind.u64.wrap (n:Int)=(n:Int):=by revert n;decide+kernel
 have u2:IntKind.i64.wrap (n:Int)=(n:Int):=by revert n;decide+kernel
 have hM:PureOK Tryz.prog Zao 84 [.v (.i .u64) (1:Int), .v (.i .u64) (IntKind.u64.wrap (n:Int))] (fun V=>V= .tup [.v (.i .u64) (0:Int), .v (.i .u64) (n:Int)]):=by rw[u1];exact Zx4 n hn
 have hb:decide ((9223372036854775807:Int)<(n:Int))=false:=decide_eq_false (by omega)
 refine And.intro (fun h=> ?_) (fun _=> ?_)
 ·have h':decide ((n:Int)<0)=true:=h
  have:=of_decide_eq_true h'
  omega
 refine hM.mono ?_
 rintro _ rfl
 refine Zag ?_
 iterate 3 refine Zab ?_
 refine Zac rfl ?_
 refine Zac rfl ?_
 refine Zat rfl ?_
 refine Zaf ?_
 refine brF hb ?_
 have cz:0≤IntKind.i64.wrap (n:Int)∧IntKind.i64.wrap (n:Int)≤IntKind.i64.wrap (n:Int)∧(8:Int)*IntKind.i64.wrap (n:Int)≤281474976710656∧IntKind.i64.wrap (n:Int)<9223372036854775808:=by rw[u2];omega
 have e1:(IntKind.i64.wrap (n:Int)).toNat=n:=by rw[u2,Int.toNat_natCast]
 refine And.intro cz ?_
 refine And.intro (show 0+(IntKind.i64.wrap (n:Int)).toNat≤(List.replicate (IntKind.i64.wrap (n:Int)).toNat (0:Int)).length by simp) ?_
 refine Zaz Zah rfl (fun(t:Nat×List Int)=> [(7, .ref 0 0 n none),(8, .v (.i .i64) (t.1:Int))]) (fun t=> [.row IC t.2 true])
  (fun t=>t.2.length=n∧t.1≤n∧t.2.take t.1=List.replicate t.1 x∧(t.1=0→n=0)) (fun t=>n-t.1) ?_ (min 1 n,spl (List.replicate n (0:Int)) 0 ([x].take n)) ?_ ?_
 ·rintro⟨c,out⟩ ⟨hl,hc,ht,h0⟩
  simp only at hl hc ht h0
  refine And.intro (fun h=> ?_) (fun h=> ?_)
  ·have hlt:c<n:=by have h':(c:Int)<(n:Int):=of_decide_eq_true h;omega
   have hs:(sub out (0+0) ((c:Int).toNat-0)).length=c:=by rw[sub,List.length_take,List.length_drop];omega
   have hsv:sub out (0+0) ((c:Int).toNat-0)=List.replicate c x:=by rw[←ht];rfl
   refine And.intro (show(0:Int)≤(c:Int)∧(c:Int)≤((n:Nat):Int)by omega) ?_
   refine And.intro (show(0:Int)≤(c:Int)∧(c:Int)≤((n:Nat):Int)by omega) ?_
   refine And.intro (show 0+0+((c:Int).toNat-0)≤out.length by omega) ?_
   refine And.intro (show 0+(c:Int).toNat+(n-(c:Int).toNat)≤out.length by omega) ?_
   have w:IntKind.i64.wrap ((c:Int)+((min (sub out (0+0) ((c:Int).toNat-0)).length (n-(c:Int).toNat):Nat):Int))=((c+min c (n-c):Nat):Int):=by
    rw[hs,Int.toNat_natCast,Zar (by omega) (by omega)]
    omega
   refine⟨(c+min c (n-c),spl out (0+(c:Int).toNat) ((sub out (0+0) ((c:Int).toNat-0)).take (n-(c:Int).toNat))), ?_,by show n-(c+min c (n-c))<n-c;omega, ?_⟩
   ·rw[hsv,Int.toNat_natCast,Nat.zero_add,List.take_replicate]
    have hm:min (n-c) c=min c (n-c):=Nat.min_comm _ _
    refine⟨?_,by show c+min c (n-c)≤n;omega, ?_,fun h=>by have h:c+min c (n-c)=0:=h;omega⟩
    ·show(spl out c (List.replicate (min (n-c) c) x)).length=n
     rw[spl,List.length_append,List.length_append,List.length_take,List.length_drop,List.length_replicate]
     omega
    ·show(spl out c (List.replicate (min (n-c) c) x)).take (c+min c (n-c))=List.replicate (c+min c (n-c)) x
     rw[spl,ht,←List.append_assoc,List.replicate_append_replicate,hm,List.take_append_of_le_length (by rw[List.length_replicate];omega),List.take_replicate,Nat.min_self]
   ·refine ZaC rfl rfl ?_ ?_
    ·exact⟨⟨rfl,rfl,rfl⟩,w.symm,trivial⟩
    ·exact⟨⟨rfl,fun _=>rfl⟩,trivial⟩
  ·have hcn:c=n:=by have h': ¬ (c:Int)<(n:Int):=of_decide_eq_false h;omega
   have ho:out=List.replicate n x:=by rw[hcn,List.take_of_length_le (by omega)]at ht;exact ht
   refine⟨.ref 0 0 n none,[.row IC (List.replicate n x) true], ?_,rfl,rfl,rfl,rfl⟩
   refine ZaC rfl rfl ?_ ?_
   ·exact⟨⟨rfl,rfl,rfl⟩,trivial⟩
   ·exact⟨⟨ho.symm,fun _=>rfl⟩,trivial⟩
 ·cases n with
  |zero=>exact⟨rfl,Nat.le_refl 0,rfl,fun _=>rfl⟩
  |succ n=>
   have ht1:[x].take (n+1)=[x]:=List.take_of_length_le (by simp)
   rw[ht1]
   refine⟨?_,show min 1 (n+1)≤n+1 by omega, ?_,fun h=>by have h:min 1 (n+1)=0:=h;omega⟩
   ·show(spl (List.replicate (n+1) (0:Int)) 0 [x]).length=n+1
    rw[spl,List.length_append,List.length_append,List.length_take,List.length_drop,List.length_replicate]
    simp
    omega
   ·show(spl (List.replicate (n+1) (0:Int)) 0 [x]).take (min 1 (n+1))=List.replicate (min 1 (n+1)) x
    rw[show min 1 (n+1)=1 by omega]
    rfl
 ·refine ZaC rfl rfl ?_ ?_
  ·exact⟨⟨rfl,e1.symm,e1.symm⟩,by rw[e1];rfl,trivial⟩
  ·exact⟨⟨by rw[e1];rfl,fun _=>rfl⟩,trivial⟩
theorem ZrU {P:Program} {h:Hints} {T:TypeId→TI} {tm:TM} {hp:List SM} {op:Op} {ct:CT} {by_ id i n id2:Nat} {m2:Option Nat} {b:Bool} {pre l:List ct.D} {x:ct.D} {k:SV→List SM→Prop}
 {c:Call} {t t2 e e2:TypeId} {ts:List TypeId} (ho:op= .call c) (hc:c.callee= .builtin .append) (ha:evL tm c.args.toList=some [.ref id i n none, .ref id2 0 1 m2]) (ht:c.argTypes.toList=t::t2::ts) (hk1:(T t).k= .slice e) (hk2:(T t2).k= .slice e2) (hct:(T e).ct=some ct) (hby:(T e).by_=by_) (hok:(Zep (T e).k,Nat.ble 1 (T e).by_&&Nat.ble 1 (T e).sz,h.frz t)=(false,true,false))
 (hn:nth hp id=some (.row ct (pre++l) true)) (hn2:nth hp id2=some (.row ct [x] b)) (hi:i=pre.length) (hl:n=l.length) (hz:(n+1)*by_≤140737488355328)
 (hk:k (.ref hp.length 0 (n+1) none) (hp.set id .dead++ [.row ct (l++ [x]) true])):opT P h T op tm hp k:=by
 have hg:ZtT ct hp (.ref id2 0 1 m2) (fun new=>ZtS ct by_ hp (.ref id i n none) new k):=by
  refine Zn7 hn2 (Nat.le_refl 1) ?_
  refine Zpe hn (by rw[hi,hl,List.length_append];exact Nat.le_refl _) hz ?_
  have e1:sub (pre++l) i n=l:=by rw[sub,hi,List.drop_left,List.take_of_length_le (by omega)]
  have e2:sub [x] 0 1=[x]:=rfl
  rw[e1]
  exact hk
 simp only[Prod.mk.injEq]at hok
 obtain⟨ok1,ok2,ok3⟩:=hok
 simp only[ho,opT,ZmZ,ha,hc,Zib,ht,hk1,hk2,hct,ok2,ok3]
 subst hby
 generalize(T e).k=kk at*
 cases kk<;>first|(cases ok1;done)|exact hg
theorem ar0:(0:Int)≤0∧(0:Int)<((2:Nat):Int):=by decide
theorem ar1:(0:Int)≤1∧(1:Int)<((2:Nat):Int):=by decide
def zO (n:Nat) (wo:Int) (l:List (Nat×Nat)) (m i:Nat):TM:=[(1, .v (.l E2) (el l)),(2, .v IC wo),(7, .ref 0 0 n none),(8,nt m),(18,nt n),(19,nt i)]
def zD (n:Nat) (wo:Int) (l:List (Nat×Nat)) (m i p q:Nat):TM:=(10, .ref 1 p q none)::zO n wo l m i
def zE (n:Nat) (wo:Int) (l:List (Nat×Nat)) (m i at_ p q k:Nat):TM:=(11,nt at_)::(41, .v (.l E2) (el l))::(42,nt l.length)::(43,nt k)::zD n wo l m i p q
def hD (out:List Int) (pre todo:List Nat):List SM:=[.row IC out true, .row IC (nl pre++nl todo) true]
set_option maxHeartbeats 16000000 in
theorem Zwn (n:Nat) (hn:n≤24) (wo:Int) (l:List (Nat×Nat)) (hok:okL n l) (hl:l.length≤64) (m i at_:Nat) (hat:at_<n) (out:List Int) (pre todo:List Nat) (ho:out.length=n) (ht:cnt out+todo.length≤1000):
 LoopOK Tryz.prog Zao 0 ⟨55,0,88⟩ (Zbw Tryz.f55 13) (zE n wo l m i at_ pre.length todo.length 0) (hD out pre todo)
 (fun e tm hp=>e= .exit 4∧ ∃pre',Ent 0 tm hp (zD n wo l m i pre'.length (Za3 wo at_ m 0 l out todo).2.length) (hD (Za3 wo at_ m 0 l out todo).1 pre' (Za3 wo at_ m 0 l out todo).2)):=by
 refine Zaz Zah rfl (fun(a:Nat×List Int×List Nat×List Nat)=>zE n wo l m i at_ a.2.2.1.length a.2.2.2.length a.1) (fun a=>hD a.2.1 a.2.2.1 a.2.2.2) (fun a=>a.1≤l.length∧a.2.1.length=n∧cnt a.2.1+a.2.2.2.length≤1000∧Za3 wo at_ m a.1 (l.drop a.1) a.2.1 a.2.2.2=Za3 wo at_ m 0 l out todo) (fun a=>l.length-a.1) ?_ (0,out,pre,todo) ⟨Nat.zero_le _,ho,ht,rfl⟩ ZaU
 generalize Za3 wo at_ m 0 l out todo=E
 clear ho ht
 clear out pre todo
 rintro⟨k,out,pre,todo⟩ ⟨hk,ho,ht,hE⟩
 simp only at hk ho ht hE
 cases h1:decide ((k:Int)<((el l).length:Int))with
 |false=>
  have e:k=l.length:=by have:=of_decide_eq_false h1;rw[List.length_map]at this;omega
  rw[e,List.drop_length,Za3]at hE
  rw[←hE]
  have h1':decide ((k:Int)<(l.length:Int))=false:=by rw[List.length_map]at h1;exact h1
  refine Zag ?_
  refine Zab ?_
  refine Zaf ?_
  refine And.intro (fun h=>by first|(cases h;done)|exact(nf h h1').elim) (fun _=> ?_)
  exact⟨rfl,pre,Zaq ⟨rfl,rfl,rfl,rfl,rfl,rfl,rfl,trivial⟩⟩
 |true=>
  have hlt:k<l.length:=by have:=of_decide_eq_true h1;rw[List.length_map]at this;omega
  have h1':decide ((k:Int)<(l.length:Int))=true:=by rw[List.length_map]at h1;exact h1
  have skip:= @ZmK wo at_ m k l hlt out todo
  have take:= @ZnJ wo at_ m k l hlt out todo
  have hx:=hok _ (List.getElem_mem hlt)
  have gx:(el l)[(k:Int).toNat]? =some ((l[k].1:Int),(l[k].2:Int)):=by rw[Int.toNat_natCast,List.getElem?_map,List.getElem?_eq_getElem hlt];rfl
  generalize l[k]=x at gx hx skip take
  obtain⟨a,b⟩:=x
  simp only at gx hx
  have w1:=congrArg (fun x=>some (SV.v (.i .i64) x)) (Zc6 (k:=k) (by omega))
  refine Zag ?_
  refine Zab ?_
  refine Zaf ?_
  refine And.intro (fun _=> ?_) (fun h=>by first|(cases h;done)|exact(nf h1' h).elim)
  refine Zag ?_
  refine Zab ?_
  refine Zb4 rfl (fun _=>rfl) (Int.natCast_nonneg k) gx rfl rfl ?_
  refine Zab ?_
  refine Zbq ?_
  refine Zab ?_
  refine Zad rfl (Zax rfl rfl rfl rfl rfl rfl rfl rfl ?_)
  refine Zau rfl ?_
  refine Zaf ?_
  have next: ∀ {tm:TM} {hp:List SM} (o':List Int) (p' t':List Nat),o'.length=n→cnt o'+t'.length≤1000→Za3 wo at_ m (k+1) (l.drop (k+1)) o' t'=E→Ent 0 tm hp (zE n wo l m i at_ p'.length t'.length (k+1)) (hD o' p' t')→ZvF 0 (fun(a:Nat×List Int×List Nat×List Nat)=>zE n wo l m i at_ a.2.2.1.length a.2.2.2.length a.1) (fun a=>hD a.2.1 a.2.2.1 a.2.2.2) (fun a=>a.1≤l.length∧a.2.1.length=n∧cnt a.2.1+a.2.2.2.length≤1000∧Za3 wo at_ m a.1 (l.drop a.1) a.2.1 a.2.2.2=E) (fun a=>l.length-a.1) (k,out,pre,todo) (fun e tm hp=>e= .exit 4∧ ∃pre',Ent 0 tm hp (zD n wo l m i pre'.length E.2.length) (hD E.1 pre' E.2)) .normal tm hp:=
   fun o' p' t' g1 g2 g3 g4=>⟨(k+1,o',p',t'),⟨hlt,g1,g2,g3⟩,by show l.length-(k+1)<l.length-k;omega,g4⟩
  cases h2:decide ((k:Int)=wo)with
  |true=>
   rw[h2]at skip
   refine Zag ?_
   iterate 4 refine Zab ?_
   refine Zap h2 ?_
   refine Zap h2 ?_
   refine Zap h2 ?_
   refine Zap h2 ?_
   refine Zap h2 ?_
   refine ZhT ?_
   refine ZhT ?_
   refine ZhT ?_
   refine ZhT ?_
   refine Zap h2 ?_
   refine ZaK h2 ?_
   refine Zaf ?_
   refine brT rfl ?_
   refine ZkT ?_
   refine Zag ?_
   iterate 2 refine Zab ?_
   refine Zaf ?_
   exact next out pre todo ho ht (by rw[←skip rfl];exact hE) (ZaI [0,1] ⟨rfl,rfl,rfl,rfl,trivial⟩ (by decide) ⟨rfl,ZaA,rfl,ZaA,rfl,ZaA,w1,ZaA,rfl,ZaY (by show 1<2;omega),rfl,ZaA,rfl,ZaA,rfl,ZaY (by show 0<2;omega),rfl,ZaA,rfl,ZaA,rfl,ZaA,trivial⟩)
  |false=>
   have hs2:IntKind.i64.wrap (IntKind.i64.wrap ((a:Int)+(b:Int))-(at_:Int))=((a+b:Nat):Int)-(at_:Int):=by rw[Zar (x:=(a:Int)+(b:Int)) (by omega) (by omega),Zar (by omega) (by omega)];omega
   cases ht2:Zmg (a,b) at_ with
   |false=>
    have ha:(!decide ((a:Int)=(at_:Int)))=true:=by
     simp only[Zmg,Bool.or_eq_false_iff,decide_eq_false_iff_not]at ht2
     simp only[Bool.not_eq_true',decide_eq_false_iff_not];omega
    have hb:(!decide ((b:Int)=(at_:Int)))=true:=by
     simp only[Zmg,Bool.or_eq_false_iff,decide_eq_false_iff_not]at ht2
     simp only[Bool.not_eq_true',decide_eq_false_iff_not];omega
    refine Zag ?_
    iterate 4 refine Zab ?_
    refine Zam rfl rfl rfl h2 (fun _=>rfl) ar0 rfl rfl ?_
    refine Zam rfl rfl rfl h2 (fun _=>rfl) rfl rfl rfl ?_
    refine Zac h2 ?_
    refine Zac h2 ?_
    refine Zac h2 ?_
    refine Zam rfl rfl rfl ha (fun _=>rfl) ar1 rfl rfl ?_
    refine Zam rfl rfl rfl ha (fun _=>rfl) rfl rfl rfl ?_
    refine Zac ha ?_
    refine Zac ha ?_
    refine ZbE rfl rfl rfl h2 rfl rfl ha rfl rfl rfl ?_
    refine Zat h2 ?_
    refine Zaf ?_
    refine brT hb ?_
    refine ZkT ?_
    refine Zag ?_
    iterate 2 refine Zab ?_
    refine Zaf ?_
    exact next out pre todo ho ht (by rw[←skip (by rw[ht2,Bool.and_false,Bool.false_and])];exact hE) (ZaI [0,1] ⟨rfl,rfl,rfl,rfl,trivial⟩ (by decide) ⟨rfl,ZaA,rfl,ZaA,rfl,ZaA,w1,ZaA,rfl,ZaY (by show 1<2;omega),rfl,ZaA,rfl,ZaA,rfl,ZaY (by show 0<2;omega),rfl,ZaA,rfl,ZaA,rfl,ZaA,trivial⟩)
   |true=>
    have ht3:a=at_∨b=at_:=by simpa[Zmg]using ht2
    obtain⟨y,hy⟩: ∃y,oth (a,b) at_=y:=⟨_,rfl⟩
    rw[hy]at skip take
    have hyn:y<n:=by rw[←hy];simp only[oth];omega
    have hs3:IntKind.i64.wrap (IntKind.i64.wrap ((a:Int)+(b:Int))-(at_:Int))=(y:Int):=by rw[hs2,←hy];simp only[oth];omega
    have hi:(0:Int)≤IntKind.i64.wrap (IntKind.i64.wrap ((a:Int)+(b:Int))-(at_:Int))∧IntKind.i64.wrap (IntKind.i64.wrap ((a:Int)+(b:Int))-(at_:Int))<((n:Nat):Int):=by rw[hs3];omega
    have hj:0+(IntKind.i64.wrap (IntKind.i64.wrap ((a:Int)+(b:Int))-(at_:Int))).toNat=y:=by rw[hs3,Int.toNat_natCast,Nat.zero_add]
    have gy:out[0+(IntKind.i64.wrap (IntKind.i64.wrap ((a:Int)+(b:Int))-(at_:Int))).toNat]? =some (out.getD y 0):=by rw[hj,List.getD_eq_getElem?_getD,List.getElem?_eq_getElem (by omega)];rfl
    cases hn1:Zfy out y with
    |false=>
     have hn2:decide (out.getD y 0<0)=false:=hn1
     have fin: ∀ {tm:TM} {hp:List SM},Ent 0 tm hp (zE n wo l m i at_ pre.length todo.length (k+1)) (hD out pre todo)→_:=fun{tm hp}=>next (tm:=tm) (hp:=hp) out pre todo ho ht (by rw[←skip (by rw[hn1,Bool.and_false])];exact hE)
     cases ha:(!decide ((a:Int)=(at_:Int)))with
     |false=>
      refine Zag ?_
      iterate 4 refine Zab ?_
      refine Zam rfl rfl rfl h2 (fun _=>rfl) ar0 rfl rfl ?_
      refine Zam rfl rfl rfl h2 (fun _=>rfl) rfl rfl rfl ?_
      refine Zac h2 ?_
      refine Zac h2 ?_
      refine Zac h2 ?_
      refine Zap ha ?_
      refine Zap ha ?_
      refine Zap ha ?_
      refine Zap ha ?_
      refine ZcS rfl rfl rfl h2 rfl rfl ha rfl rfl rfl ?_
      refine Zat h2 ?_
      refine Zaf ?_
      refine brF rfl ?_
      refine Zag ?_
      refine Zak rfl (fun _=>rfl) ar0 rfl rfl ?_
      refine Zak rfl (fun _=>rfl) rfl rfl rfl ?_
      refine Zak rfl (fun _=>rfl) ar1 rfl rfl ?_
      refine Zak rfl (fun _=>rfl) rfl rfl rfl ?_
      iterate 4 refine Zab ?_
      refine Zaf ?_
      refine Zag ?_
      iterate 2 refine Zab ?_
      refine Zad rfl (ZaM rfl rfl rfl rfl rfl rfl rfl hi ?_)
      refine Zaa rfl rfl ?_
      refine Zad rfl (Zbb rfl rfl rfl gy rfl ?_)
      refine Zaa rfl rfl ?_
      refine Zab ?_
      refine Zaf ?_
      refine brF hn2 ?_
      refine Zag ?_
      iterate 2 refine Zab ?_
      refine Zaf ?_
      exact fin (ZaI [0,1] ⟨rfl,rfl,rfl,rfl,trivial⟩ (by decide) ⟨rfl,ZaA,rfl,ZaA,rfl,ZaA,w1,ZaA,rfl,ZaY (by show 1<2;omega),rfl,ZaA,rfl,ZaA,rfl,ZaY (by show 0<2;omega),rfl,ZaA,rfl,ZaA,rfl,ZaA,trivial⟩)
     |true=>
      have hb:(!decide ((b:Int)=(at_:Int)))=false:=by
       simp only[Bool.not_eq_true',decide_eq_false_iff_not]at ha
       simp only[Bool.not_eq_false',decide_eq_true_eq];omega
      refine Zag ?_
      iterate 4 refine Zab ?_
      refine Zam rfl rfl rfl h2 (fun _=>rfl) ar0 rfl rfl ?_
      refine Zam rfl rfl rfl h2 (fun _=>rfl) rfl rfl rfl ?_
      refine Zac h2 ?_
      refine Zac h2 ?_
      refine Zac h2 ?_
      refine Zam rfl rfl rfl ha (fun _=>rfl) ar1 rfl rfl ?_
      refine Zam rfl rfl rfl ha (fun _=>rfl) rfl rfl rfl ?_
      refine Zac ha ?_
      refine Zac ha ?_
      refine ZbE rfl rfl rfl h2 rfl rfl ha rfl rfl rfl ?_
      refine Zat h2 ?_
      refine Zaf ?_
      refine brF hb ?_
      refine Zag ?_
      refine Zak rfl (fun _=>rfl) ar0 rfl rfl ?_
      refine Zak rfl (fun _=>rfl) rfl rfl rfl ?_
      refine Zak rfl (fun _=>rfl) ar1 rfl rfl ?_
      refine Zak rfl (fun _=>rfl) rfl rfl rfl ?_
      iterate 4 refine Zab ?_
      refine Zaf ?_
      refine Zag ?_
      iterate 2 refine Zab ?_
      refine Zad rfl (ZaM rfl rfl rfl rfl rfl rfl rfl hi ?_)
      refine Zaa rfl rfl ?_
      refine Zad rfl (Zbb rfl rfl rfl gy rfl ?_)
      refine Zaa rfl rfl ?_
      refine Zab ?_
      refine Zaf ?_
      refine brF hn2 ?_
      refine Zag ?_
      iterate 2 refine Zab ?_
      refine Zaf ?_
      exact fin (ZaI [0,1] ⟨rfl,rfl,rfl,rfl,trivial⟩ (by decide) ⟨rfl,ZaA,rfl,ZaA,rfl,ZaA,w1,ZaA,rfl,ZaY (by show 1<2;omega),rfl,ZaA,rfl,ZaA,rfl,ZaY (by show 0<2;omega),rfl,ZaA,rfl,ZaA,rfl,ZaA,trivial⟩)
    |true=>
     have hn2:decide (out.getD y 0<0)=true:=hn1
     have hcs:=ZkB m hn1
     have h2n:(!decide ((k:Int)=wo)&&Zmg (a,b) at_&&Zfy out y)=true:=by rw[h2,ht2,hn1];rfl
     have hz:(todo.length+1)*8≤140737488355328:=by omega
     have fin: ∀ {tm:TM} {hp:List SM},Ent 0 tm hp (zE n wo l m i at_ ([]:List Nat).length (todo++ [y]).length (k+1)) (hD (out.set y m) [] (todo++ [y]))→_:=fun{tm hp}=>next (tm:=tm) (hp:=hp) (out.set y m) [] (todo++ [y]) (by rw[List.length_set];exact ho) (by rw[List.length_append,List.length_cons,List.length_nil];omega) (by rw[←take h2n];exact hE)
     have e0:=congrArg (fun z=>some (SM.row IC (out.set z (m:Int)) true)) hj
     have e4:some (SM.row IC (nl todo++ [IntKind.i64.wrap (IntKind.i64.wrap ((a:Int)+(b:Int))-(at_:Int))]) true)=some (SM.row IC (nl []++nl (todo++ [y])) true):=by rw[hs3];simp[nl]
     have er:some (SV.ref 4 0 (todo.length+1) none)=some (SV.ref 4 0 (todo++ [y]).length none):=by rw[List.length_append];rfl
     cases ha:(!decide ((a:Int)=(at_:Int)))with
     |false=>
      refine Zag ?_
      iterate 4 refine Zab ?_
      refine Zam rfl rfl rfl h2 (fun _=>rfl) ar0 rfl rfl ?_
      refine Zam rfl rfl rfl h2 (fun _=>rfl) rfl rfl rfl ?_
      refine Zac h2 ?_
      refine Zac h2 ?_
      refine Zac h2 ?_
      refine Zap ha ?_
      refine Zap ha ?_
      refine Zap ha ?_
      refine Zap ha ?_
      refine ZcS rfl rfl rfl h2 rfl rfl ha rfl rfl rfl ?_
      refine Zat h2 ?_
      refine Zaf ?_
      refine brF rfl ?_
      refine Zag ?_
      refine Zak rfl (fun _=>rfl) ar0 rfl rfl ?_
      refine Zak rfl (fun _=>rfl) rfl rfl rfl ?_
      refine Zak rfl (fun _=>rfl) ar1 rfl rfl ?_
      refine Zak rfl (fun _=>rfl) rfl rfl rfl ?_
      iterate 4 refine Zab ?_
      refine Zaf ?_
      refine Zag ?_
      iterate 2 refine Zab ?_
      refine Zad rfl (ZaM rfl rfl rfl rfl rfl rfl rfl hi ?_)
      refine Zaa rfl rfl ?_
      refine Zad rfl (Zbb rfl rfl rfl gy rfl ?_)
      refine Zaa rfl rfl ?_
      refine Zab ?_
      refine Zaf ?_
      refine brT hn2 ?_
      refine Zag ?_
      iterate 3 refine Zab ?_
      refine Zad rfl (ZaM rfl rfl rfl rfl rfl rfl rfl hi ?_)
      refine Zaa rfl rfl ?_
      refine Zad rfl (Zcl rfl rfl rfl rfl rfl gy rfl rfl rfl ?_)
      refine Zau rfl ?_
      refine Zaf ?_
      refine Zag ?_
      iterate 2 refine Zab ?_
      refine Zbq ?_
      refine Zad rfl (ZrU (ct:=IC) (pre:=nl pre) (l:=nl todo) rfl rfl rfl rfl rfl rfl rfl rfl rfl rfl rfl (List.length_map _).symm (List.length_map _).symm hz ?_)
      refine Zaa rfl rfl ?_
      refine Zab ?_
      refine Zaf ?_
      refine Zag ?_
      iterate 2 refine Zab ?_
      refine Zaf ?_
      exact fin (ZaI [0,4] ⟨e0,rfl,e4,rfl,trivial⟩ (by decide) ⟨rfl,ZaA,rfl,ZaA,rfl,ZaA,w1,ZaA,er,ZaY (by show 1<2;omega),rfl,ZaA,rfl,ZaA,rfl,ZaY (by show 0<2;omega),rfl,ZaA,rfl,ZaA,rfl,ZaA,trivial⟩)
     |true=>
      have hb:(!decide ((b:Int)=(at_:Int)))=false:=by
       simp only[Bool.not_eq_true',decide_eq_false_iff_not]at ha
       simp only[Bool.not_eq_false',decide_eq_true_eq];omega
      refine Zag ?_
      iterate 4 refine Zab ?_
      refine Zam rfl rfl rfl h2 (fun _=>rfl) ar0 rfl rfl ?_
      refine Zam rfl rfl rfl h2 (fun _=>rfl) rfl rfl rfl ?_
      refine Zac h2 ?_
      refine Zac h2 ?_
      refine Zac h2 ?_
      refine Zam rfl rfl rfl ha (fun _=>rfl) ar1 rfl rfl ?_
      refine Zam rfl rfl rfl ha (fun _=>rfl) rfl rfl rfl ?_
      refine Zac ha ?_
      refine Zac ha ?_
      refine ZbE rfl rfl rfl h2 rfl rfl ha rfl rfl rfl ?_
      refine Zat h2 ?_
      refine Zaf ?_
      refine brF hb ?_
      refine Zag ?_
      refine Zak rfl (fun _=>rfl) ar0 rfl rfl ?_
      refine Zak rfl (fun _=>rfl) rfl rfl rfl ?_
      refine Zak rfl (fun _=>rfl) ar1 rfl rfl ?_
      refine Zak rfl (fun _=>rfl) rfl rfl rfl ?_
      iterate 4 refine Zab ?_
      refine Zaf ?_
      refine Zag ?_
      iterate 2 refine Zab ?_
      refine Zad rfl (ZaM rfl rfl rfl rfl rfl rfl rfl hi ?_)
      refine Zaa rfl rfl ?_
      refine Zad rfl (Zbb rfl rfl rfl gy rfl ?_)
      refine Zaa rfl rfl ?_
      refine Zab ?_
      refine Zaf ?_
      refine brT hn2 ?_
      refine Zag ?_
      iterate 3 refine Zab ?_
      refine Zad rfl (ZaM rfl rfl rfl rfl rfl rfl rfl hi ?_)
      refine Zaa rfl rfl ?_
      refine Zad rfl (Zcl rfl rfl rfl rfl rfl gy rfl rfl rfl ?_)
      refine Zau rfl ?_
      refine Zaf ?_
      refine Zag ?_
      iterate 2 refine Zab ?_
      refine Zbq ?_
      refine Zad rfl (ZrU (ct:=IC) (pre:=nl pre) (l:=nl todo) rfl rfl rfl rfl rfl rfl rfl rfl rfl rfl rfl (List.length_map _).symm (List.length_map _).symm hz ?_)
      refine Zaa rfl rfl ?_
      refine Zab ?_
      refine Zaf ?_
      refine Zag ?_
      iterate 2 refine Zab ?_
      refine Zaf ?_
      exact fin (ZaI [0,4] ⟨e0,rfl,e4,rfl,trivial⟩ (by decide) ⟨rfl,ZaA,rfl,ZaA,rfl,ZaA,w1,ZaA,er,ZaY (by show 1<2;omega),rfl,ZaA,rfl,ZaA,rfl,ZaY (by show 0<2;omega),rfl,ZaA,rfl,ZaA,rfl,ZaA,trivial⟩)
set_option maxHeartbeats 16000000 in
theorem ZvR (n:Nat) (hn:n≤24) (wo:Int) (l:List (Nat×Nat)) (hok:okL n l) (hl:l.length≤64) (m i:Nat) (out:List Int) (pre todo:List Nat) (f0:Nat) (ho:out.length=n) (hf0:cnt out+todo.length≤f0) (hf1:f0≤1000) (hv: ∀v∈todo,v<n):
 LoopOK Tryz.prog Zao 0 ⟨55,0,88⟩ (Zbw Tryz.f55 9) (zD n wo l m i pre.length todo.length) (hD out pre todo)
 (fun e tm hp=>e= .exit 2∧Ent 0 tm hp (zO n wo l m i) [.row IC (ZhA wo l m f0 out todo) true]):=by
 refine Zaz Zah rfl (fun(a:List Int×List Nat×List Nat)=>zD n wo l m i a.2.1.length a.2.2.length) (fun a=>hD a.1 a.2.1 a.2.2) (fun a=>a.1.length=n∧(∀v∈a.2.2,v<n)∧ ∃f,f≤1000∧cnt a.1+a.2.2.length≤f∧ZhA wo l m f a.1 a.2.2=ZhA wo l m f0 out todo) (fun a=>cnt a.1+a.2.2.length) ?_ (out,pre,todo) ⟨ho,hv,f0,hf1,hf0,rfl⟩ ZaU
 generalize ZhA wo l m f0 out todo=D
 clear ho hv hf0 hf1
 clear out pre todo f0
 rintro⟨out,pre,todo⟩ ⟨ho,hv,f,hf1,hf,hD0⟩
 simp only at ho hv hf hD0
 cases todo with
 |nil=>
  have hd:ZhA wo l m f out []=out:=by cases f<;>rfl
  rw[hd]at hD0
  refine Zag ?_
  iterate 3 refine Zab ?_
  refine Zaf ?_
  refine brF rfl ?_
  refine⟨rfl, ?_⟩
  rw[←hD0]
  exact ZaI [0] ⟨rfl,rfl,trivial⟩ (by decide) ⟨rfl,ZaA,rfl,ZaA,rfl,ZaY (by show 0<1;omega),rfl,ZaA,rfl,ZaA,rfl,ZaA,trivial⟩
 |cons v rest=>
  have hvn:=hv v List.mem_cons_self
  have hc:(0:Int)≤0∧(0:Int)<(((v::rest).length:Nat):Int):=by rw[List.length_cons];omega
  have hb:decide ((0:Int)<(((v::rest).length:Nat):Int))=true:=decide_eq_true hc.2
  have gv:(nl pre++nl (v::rest))[pre.length+(0:Int).toNat]? =some (v:Int):=by rw[List.getElem?_append_right (by rw[List.length_map];exact Nat.le_add_right _ _),List.length_map];simp[nl]
  have hsl:(0:Int)≤1∧(1:Int)≤(((v::rest).length:Nat):Int):=by rw[List.length_cons];omega
  have hsz:(v::rest).length-(1:Int).toNat=rest.length:=by rw[List.length_cons];show rest.length+1-1=_;omega
  have hps:pre.length+(1:Int).toNat=(pre++ [v]).length:=by rw[List.length_append];rfl
  have hrow:nl pre++nl (v::rest)=nl (pre++ [v])++nl rest:=by simp[nl]
  obtain⟨f,rfl⟩: ∃k,f=k+1:=⟨f-1,by rw[List.length_cons]at hf;omega⟩
  have g1:=ZeV wo v m l 0 out rest
  have g2:=ZgD wo v m l 0 out rest
  have g3:=Zfh wo v m n l 0 out rest ho fun w hw=>hv w (List.mem_cons_of_mem _ hw)
  rw[List.length_cons]at hf
  refine Zag ?_
  iterate 3 refine Zab ?_
  refine Zaf ?_
  refine brT hb ?_
  refine Zag ?_
  refine Zab ?_
  refine Zad rfl (ZaM rfl rfl rfl rfl rfl rfl rfl hc ?_)
  refine Zaa rfl rfl ?_
  refine Zad rfl (Zbb rfl rfl rfl gv rfl ?_)
  refine Zaa rfl rfl ?_
  refine Zab ?_
  refine Zaf ?_
  refine Zag ?_
  refine Zab ?_
  refine Zad rfl (Zwz rfl rfl rfl rfl rfl rfl rfl hsl ?_)
  refine Zaa rfl rfl ?_
  refine Zab ?_
  refine Zaf ?_
  refine Zag ?_
  iterate 3 refine Zab ?_
  refine Zaf ?_
  refine((Zwn n hn wo l hok hl m i v hvn out (pre++ [v]) rest ho (by omega)).ent ?_).through ?_
  ·exact ZaI [0,1] ⟨rfl,rfl,congrArg (fun z=>some (SM.row IC z true)) hrow,rfl,trivial⟩ (by decide) ⟨rfl,ZaA,rfl,ZaA,congrArg (fun z:Nat=>some (nt z)) (List.length_map _),ZaA,rfl,ZaA,(congrArg (fun x=>some (SV.ref 1 x _ none)) hps).trans (congrArg (fun z=>some (SV.ref 1 _ z none)) hsz),ZaY (by show 1<2;omega),rfl,ZaA,rfl,ZaA,rfl,ZaY (by show 0<2;omega),rfl,ZaA,rfl,ZaA,rfl,ZaA,trivial⟩
  rintro _ tm hp ⟨rfl,pre',hE⟩
  refine⟨_,_,hE, ?_⟩
  exact⟨((Za3 wo v m 0 l out rest).1,pre',(Za3 wo v m 0 l out rest).2),⟨by rw[g1];exact ho,g3,f,by omega,by rw[g2];omega,hD0⟩,by show cnt (Za3 wo v m 0 l out rest).1+(Za3 wo v m 0 l out rest).2.length<cnt out+(v::rest).length;rw[g2,List.length_cons];omega,ZaU⟩
set_option maxHeartbeats 16000000 in
theorem ZwK (n:Nat) (hn:n≤24) (wo:Int) (l:List (Nat×Nat)) (hok:okL n l) (hl:l.length≤64):
 LoopOK Tryz.prog Zao 0 ⟨55,0,88⟩ (Zbw Tryz.f55 4) (zO n wo l 0 0) [.row IC (List.replicate n (-1:Int)) true]
 (fun e tm hp=>e= .exit 0∧Ent 0 tm hp [(7, .ref 0 0 n none)] [.row IC (Zeg wo l n) true]):=by
 refine Zaz Zah rfl (fun(a:Nat×Nat×List Int)=>zO n wo l a.2.1 a.1) (fun a=> [.row IC a.2.2 true]) (fun a=>a.1≤n∧a.2.1≤a.1∧a.2.2.length=n∧ZbX wo l (n-a.1) a.1 a.2.1 a.2.2=Zeg wo l n) (fun a=>n-a.1) ?_ (0,0,List.replicate n (-1)) ⟨Nat.zero_le _,Nat.le_refl _,List.length_replicate,rfl⟩ ZaU
 generalize Zeg wo l n=F
 rintro⟨i,m,out⟩ ⟨hi,hm,ho,hF⟩
 simp only at hi hm ho hF
 cases h1:decide ((i:Int)<(n:Int))with
 |false=>
  have e:n-i=0:=by have:=of_decide_eq_false h1;omega
  rw[e,ZbX]at hF
  refine Zag ?_
  refine Zab ?_
  refine Zaf ?_
  refine brF h1 ?_
  refine⟨rfl, ?_⟩
  rw[←hF]
  exact Zaq ⟨rfl,trivial⟩
 |true=>
  have hlt:i<n:=by have:=of_decide_eq_true h1;omega
  obtain⟨k,hk⟩: ∃k,n-i=k+1:=⟨n-i-1,by omega⟩
  have hk':n-(i+1)=k:=by omega
  rw[hk,ZbX]at hF
  have hj:=cin hlt
  have gy:out[0+(i:Int).toNat]? =some (out.getD i 0):=by rw[Int.toNat_natCast,Nat.zero_add,List.getD_eq_getElem?_getD,List.getElem?_eq_getElem (by omega)];rfl
  have w1:=congrArg (fun x=>some (SV.v (.i .i64) x)) (Zc6 (k:=i) (by omega))
  have w2:=congrArg (fun x=>some (SV.v (.i .i64) x)) (Zc6 (k:=m) (by omega))
  refine Zag ?_
  refine Zab ?_
  refine Zaf ?_
  refine brT h1 ?_
  refine Zag ?_
  iterate 2 refine Zab ?_
  refine Zaf ?_
  cases hn1:Zfy out i with
  |false=>
   rw[hn1,if_neg (by simp)]at hF
   have hg:decide ((0:Int)≤out.getD i 0)=true:=by
    have:decide (out.getD i 0<0)=false:=hn1
    have:=of_decide_eq_false this
    exact decide_eq_true (by omega)
   refine Zag ?_
   iterate 2 refine Zab ?_
   refine Zad rfl (ZaM rfl rfl rfl rfl rfl rfl rfl hj ?_)
   refine Zaa rfl rfl ?_
   refine Zad rfl (Zbb rfl rfl rfl gy rfl ?_)
   refine Zaa rfl rfl ?_
   refine Zab ?_
   refine Zaf ?_
   refine brT hg ?_
   refine ZkT ?_
   refine Zag ?_
   iterate 2 refine Zab ?_
   refine Zaf ?_
   refine⟨(i+1,m,out),⟨hlt,by show m≤i+1;omega,ho,by show ZbX wo l (n-(i+1)) (i+1) m out=F;rw[hk'];exact hF⟩,by show n-(i+1)<n-i;omega, ?_⟩
   exact Zaq ⟨rfl,rfl,rfl,rfl,rfl,w1,trivial⟩
  |true=>
   rw[hn1,if_pos rfl]at hF
   have hg:decide ((0:Int)≤out.getD i 0)=false:=by
    have:=of_decide_eq_true (show decide (out.getD i 0<0)=true from hn1)
    exact decide_eq_false (by omega)
   have hcs:=ZkB m hn1
   have hcl:cnt out≤n:=by rw[←ho];exact List.length_filter_le _ _
   refine Zag ?_
   iterate 2 refine Zab ?_
   refine Zad rfl (ZaM rfl rfl rfl rfl rfl rfl rfl hj ?_)
   refine Zaa rfl rfl ?_
   refine Zad rfl (Zbb rfl rfl rfl gy rfl ?_)
   refine Zaa rfl rfl ?_
   refine Zab ?_
   refine Zaf ?_
   refine brF hg ?_
   refine Zag ?_
   iterate 3 refine Zab ?_
   refine Zad rfl (ZaM rfl rfl rfl rfl rfl rfl rfl hj ?_)
   refine Zaa rfl rfl ?_
   refine Zad rfl (Zcl rfl rfl rfl rfl rfl gy rfl rfl rfl ?_)
   refine Zau rfl ?_
   refine Zaf ?_
   refine Zag ?_
   refine Zab ?_
   refine Zbq ?_
   refine Zab ?_
   refine Zaf ?_
   refine((ZvR n hn wo l hok hl m i (out.set i m) [] [i] (cnt (out.set i m)+1) (by rw[List.length_set];exact ho) (Nat.le_refl _) (by omega) (fun v hv=>by rw[List.mem_singleton.1 hv];exact hlt)).ent ?_).through ?_
   ·exact ZaI [0,1] ⟨congrArg (fun z=>some (SM.row IC (out.set z (m:Int)) true)) (by rw[Int.toNat_natCast,Nat.zero_add]),rfl,rfl,rfl,trivial⟩ (by decide) ⟨rfl,ZaY (by show 1<2;omega),rfl,ZaA,rfl,ZaA,rfl,ZaY (by show 0<2;omega),rfl,ZaA,rfl,ZaA,rfl,ZaA,trivial⟩
   rintro _ tm hp ⟨rfl,hE⟩
   refine⟨_,_,hE, ?_⟩
   show wp _ _ _ _ _ _ _ _ _
   refine Zag ?_
   iterate 3 refine Zab ?_
   refine Zaf ?_
   refine Zag ?_
   iterate 2 refine Zab ?_
   refine Zaf ?_
   refine⟨(i+1,m+1,ZhA wo l m (cnt (out.set i m)+1) (out.set i m) [i]),⟨hlt,by show m+1≤i+1;omega,by rw[Ziy,List.length_set];exact ho,by show ZbX wo l (n-(i+1)) (i+1) (m+1) _=F;rw[hk'];exact hF⟩,by show n-(i+1)<n-i;omega, ?_⟩
   exact Zaq ⟨rfl,rfl,rfl,w2,rfl,w1,trivial⟩
set_option maxHeartbeats 16000000 in
theorem Ztl (n:Nat) (hn:n≤24) (wo:Int) (l:List (Nat×Nat)) (hok:okL n l) (hl:l.length≤64):PureOK Tryz.prog Zao 55 [nt n, .v (.l E2) (el l), .v IC wo] (fun V=>V= .v (.l IC) (Zeg wo l n)):=by
 refine Zae Zah Tryz.func55 ?_
 have hR:=ZqL (-1) n (by omega)
 refine Zag ?_
 refine Zab ?_
 refine Zaf ?_
 refine Zag ?_
 refine Zbq ?_
 refine Zab ?_
 refine Zad rfl (Zru rfl rfl rfl rfl rfl rfl (Nat.le_refl 1) (hR.mono ?_))
 rintro _ _ _ ⟨rfl,rfl,rfl⟩
 refine Zaa rfl rfl ?_
 refine Zab ?_
 refine Zaf ?_
 refine Zag ?_
 refine Zab ?_
 refine Zaf ?_
 refine Zag ?_
 iterate 2 refine Zab ?_
 refine Zaf ?_
 refine((ZwK n hn wo l hok hl).ent ?_).through ?_
 ·exact ZaI [1] ⟨rfl,rfl,trivial⟩ (by decide) ⟨rfl,ZaA,rfl,ZaA,rfl,ZaY (by show 0<1;omega),rfl,ZaA,rfl,ZaA,rfl,ZaA,trivial⟩
 rintro _ tm hp ⟨rfl,hE⟩
 refine⟨_,_,hE, ?_⟩
 show wp _ _ _ _ _ _ _ _ _
 refine Zag ?_
 iterate 2 refine Zab ?_
 refine Zaf ?_
 exact⟨by rw[ZdJ];omega,by rw[ZeU (ZdJ wo l n)]⟩
set_option maxHeartbeats 16000000 in
theorem ZuB (n:Nat) (hn:n≤24) (l:List (Nat×Nat)) (hok:okL n l) (hl:l.length≤64):PureOK Tryz.prog Zao 54 [nt n, .v (.l E2) (el l)] (fun V=>V=nt 0):=by
 refine Zae Zah Tryz.func54 ?_
 have c1:decide ((n:Int)<0)=false:=decide_eq_false (by omega)
 have c2:decide ((24:Int)<(n:Int))=false:=decide_eq_false (by omega)
 have c3:decide ((64:Int)<((el l).length:Int))=false:=decide_eq_false (by rw[List.length_map];omega)
 refine Zag ?_
 refine Zab ?_
 refine Zaf ?_
 refine Zag ?_
 iterate 3 refine Zab ?_
 refine Zac c1 ?_
 refine Zac c1 ?_
 refine Zat c1 ?_
 refine Zab ?_
 refine Zac c2 ?_
 refine Zac c2 ?_
 refine Zac c2 ?_
 refine Zat c2 ?_
 refine Zaf ?_
 refine brF c3 ?_
 refine Zag ?_
 iterate 3 refine Zab ?_
 refine Zaf ?_
 refine Zaz Zah rfl (fun(k:Nat)=> [(0,nt n),(18, .v (.l E2) (el l)),(19,nt l.length),(20,nt k)]) (fun _=> []) (fun k=>k≤l.length) (fun k=>l.length-k) ?_ 0 (Nat.zero_le _) (ZcX ⟨rfl,rfl,rfl,rfl,congrArg (fun z:Nat=>some (nt z)) (List.length_map _),rfl,rfl,rfl,trivial⟩)
 intro k hk
 cases h1:decide ((k:Int)<(l.length:Int))with
 |false=>
  refine Zag ?_
  refine Zab ?_
  refine Zaf ?_
  refine brF h1 ?_
  show wp _ _ _ _ _ _ _ _ _
  refine Zag ?_
  refine Zab ?_
  refine Zaf ?_
  rfl
 |true=>
  have hlt:k<l.length:=by have:=of_decide_eq_true h1;omega
  have hx:=hok _ (List.getElem_mem hlt)
  have gx:(el l)[(k:Int).toNat]? =some ((l[k].1:Int),(l[k].2:Int)):=by rw[Int.toNat_natCast,List.getElem?_map,List.getElem?_eq_getElem hlt];rfl
  generalize l[k]=x at gx hx
  obtain⟨a,b⟩:=x
  simp only at gx hx
  have d1:decide ((a:Int)<0)=false:=decide_eq_false (by omega)
  have d2:decide ((n:Int)≤(a:Int))=false:=decide_eq_false (by omega)
  have d3:decide ((b:Int)<0)=false:=decide_eq_false (by omega)
  have d4:decide ((n:Int)≤(b:Int))=false:=decide_eq_false (by omega)
  refine Zag ?_
  refine Zab ?_
  refine Zaf ?_
  refine brT h1 ?_
  refine Zag ?_
  refine Zb4 rfl (fun _=>rfl) (Int.natCast_nonneg k) gx rfl rfl ?_
  refine Zab ?_
  refine Zbq ?_
  refine Zad rfl (Zax rfl rfl rfl rfl rfl rfl rfl rfl ?_)
  refine Zau rfl ?_
  refine Zaf ?_
  refine Zag ?_
  refine Zak rfl (fun _=>rfl) ar0 rfl rfl ?_
  refine Zak rfl (fun _=>rfl) rfl rfl rfl ?_
  iterate 2 refine Zab ?_
  refine Zam rfl rfl rfl d1 (fun _=>rfl) ar0 rfl rfl ?_
  refine Zam rfl rfl rfl d1 (fun _=>rfl) rfl rfl rfl ?_
  refine Zac d1 ?_
  refine Zac d1 ?_
  refine Zat d1 ?_
  refine Zab ?_
  refine Zam rfl rfl rfl d2 (fun _=>rfl) ar1 rfl rfl ?_
  refine Zam rfl rfl rfl d2 (fun _=>rfl) rfl rfl rfl ?_
  refine Zac d2 ?_
  refine Zat d2 ?_
  refine Zab ?_
  refine Zam rfl rfl rfl d3 (fun _=>rfl) ar1 rfl rfl ?_
  refine Zam rfl rfl rfl d3 (fun _=>rfl) rfl rfl rfl ?_
  refine Zac d3 ?_
  refine Zac d3 ?_
  refine Zat d3 ?_
  refine Zaf ?_
  refine brF d4 ?_
  refine Zag ?_
  iterate 2 refine Zab ?_
  refine Zaf ?_
  exact⟨k+1,hlt,by show l.length-(k+1)<l.length-k;omega,ZcX ⟨rfl,rfl,rfl,rfl,rfl,rfl,congrArg (fun x=>some (SV.v (.i .i64) x)) (Zc6 (by omega)),rfl,trivial⟩⟩
theorem Zhp (n:Nat) (hn:n≤24) (l:List (Nat×Nat)) (hok:okL n l) (hl:l.length≤64):PureOK Tryz.prog Zao 35 [nt n, .v (.l E2) (el l)] (fun V=>V= .tup [.v (.l IC) (Zeg (-1) l n),nt 0]):=by
 refine Zae Zah Tryz.func35 ?_
 have hC:=ZuB n hn l hok hl
 have hP:=Ztl n hn (-1) l hok hl
 refine Zag ?_
 iterate 2 refine Zab ?_
 refine Zaf ?_
 refine Zag ?_
 iterate 2 refine Zab ?_
 refine Zad rfl ((hC).mono ?_)
 rintro _ rfl
 refine Zaa rfl rfl ?_
 refine Zab ?_
 refine Zaf ?_
 refine Zag ?_
 iterate 2 refine Zab ?_
 refine Zaf ?_
 refine brF rfl ?_
 refine Zag ?_
 iterate 2 refine Zab ?_
 refine Zad rfl ((hP).mono ?_)
 rintro _ rfl
 refine Zaa rfl rfl ?_
 iterate 2 refine Zab ?_
 refine Zaf ?_
 rfl
end Go.Proofs.YtkhpbclcfldhmaaGreatDoor
