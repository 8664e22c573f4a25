/- The program's package graph: the parts of a graph. -/
import Derived.Test.YtplkkbcnilnfaaaGreatDoorT12
set_option linter.all false
set_option maxHeartbeats 64000000
set_option maxRecDepth 100000
open Go.Proofs.Tryz
open Go.IntKind(i64 u64)
namespace Go.Proofs.YtplkkbcnilnfaaaGreatDoor
variable {bb:Bool}
open Go.Am Go.Tx
abbrev IC:CT:= .i .i64
abbrev E2:CT:= .p IC IC
abbrev nl (l:List Nat):List Int:=l.map Int.ofNat
abbrev el (l:List (Nat×Nat)):List (Int×Int):=l.map λx=>((x.1:Int),(x.2:Int))
def ZCp (n:Nat) (j:n<41):PureOK prog (Zbw bb) 136 [.v (.i .u64) (1:Int), .v (.i .u64) (n:Int)] (λV=>V= .tup [.v (.i .u64) (0:Int), .v (.i .u64) (n:Int)]):=by refine Zad Zab func136 ?_;refine Xab (show(0:Int)<=32 by decide) ?_;refine Xab (show(0:Int)<=32 by decide) ?_;refine Xab (show(0:Int)<=32 by decide) ?_;refine Xab (show(0:Int)<=32 by decide) ?_;refine Xab (show(0:Int)<=32 by decide) ?_;refine congrArg (λx:Int×Int=>SV.tup [.v (.i .u64) x.1, .v (.i .u64) x.2]) (?_:(_,_)=((0:Int),(n:Int)));revert n;decide+kernel
def ZFf (n:Nat) (j:n<41):PureOK prog (Zbw bb) 116 [.v (.i .u64) (1:Int), .v (.i .u64) (n:Int)] (λV=>V= .tup [.v (.i .u64) (0:Int), .v (.i .u64) (n:Int)]):=by refine Zad Zab func116 ?_;refine brF rfl ?_;refine(ZCp (bb:=bb) n j).mono ?_;rintro _ rfl;rfl
abbrev ZyJ (q:Bool):CT:=match q with
 |true=> .p (.p .b (.l (.i .u32))) (.p .b (.l (.i .u32)))
 |false=>IC
def rpF (q:Bool):FuncId:=match q with
 |true=>101
 |false=>113
def Zts (q:Bool) (x:(ZyJ q).D) (n:Nat) (U:n<41):ImpOK prog (Zbw bb) (rpF q) [.v (.l (ZyJ q)) [x], .v (.i .i64) (n:Int)] (λV hp sf=>V= .ref 0 0 n none/\hp=[.row (ZyJ q) (List.replicate n x) true]/\sf=false):=by
 have u1:u64.wrap (n:Int)=(n:Int):=by revert n;decide+kernel
 have u2:i64.wrap (n:Int)=(n:Int):=by revert n;decide+kernel
 have hM:PureOK prog (Zbw bb) 116 [.v (.i .u64) (1:Int), .v (.i .u64) (u64.wrap (n:Int))] (λV=>V= .tup [.v (.i .u64) (0:Int), .v (.i .u64) (n:Int)]):=by rw[u1];exact ZFf (bb:=bb) n U
 have hb:decide ((9223372036854775807:Int)<(n:Int))=false:=decide_eq_false (by omega);have cz:0<=i64.wrap (n:Int)/\i64.wrap (n:Int)<=i64.wrap (n:Int)/\(bif q then 64 else 8:Int)*i64.wrap (n:Int)<=281474976710656/\i64.wrap (n:Int)<9223372036854775808:=by rw[u2];cases q<;>simp only[cond_true,cond_false]<;>omega
 have C:(i64.wrap (n:Int)).toNat=n:=by rw[u2,Xac]
 have cl:0+(i64.wrap (n:Int)).toNat<=(List.replicate (i64.wrap (n:Int)).toNat (ZyJ q).z).length:=by simp
 cases q
 all_goals
  first
  |refine Zbs Zab func113 (Zag Zab ?_)
  |refine Zbs Zab func101 (Zag Zab ?_)
  refine Xab (λh=> ?_) (λ_=> ?_)
  ·have I:decide ((n:Int)<0)=true:=h
   have:=of_decide_eq_true I
   omega
  refine hM.mono ?_
  rintro _ rfl
  refine axT ?_
  refine Zap Zab rfl (λ(t:Nat×List (ZyJ _).D)=> [(7, .ref 0 0 n none),(8, .v (.i .i64) (t.1:Int))]) (λt=> [.row (ZyJ _) t.2 true])
   (λt=>t.2.length=n/\t.1<=n/\t.2.take t.1=List.replicate t.1 x/\(t.1=0->n=0)) (λt=>n-t.1) ?_ (min 1 n,spl (List.replicate n (ZyJ _).z) 0 ([x].take n)) ?_ ?_
  ·rintro⟨c,out⟩ ⟨hl,hc,j,h0⟩
   simp only at hl hc j h0
   refine Xab (λh=> ?_) (λh=> ?_)
   ·have aa:c<n:=by have I:(c:Int)<(n:Int):=of_decide_eq_true h;omega
    have hs:(sub out (0+0) ((c:Int).toNat-0)).length=c:=by rw[sub,Xay,Xbo];omega
    have J:sub out (0+0) ((c:Int).toNat-0)=List.replicate c x:=by rw[<-j];rfl
    refine Xab (show(0:Int)<=(c:Int)/\(c:Int)<=((n:Nat):Int)by omega) ?_
    refine Xab (show(0:Int)<=(c:Int)/\(c:Int)<=((n:Nat):Int)by omega) ?_
    refine Xab (show 0+0+((c:Int).toNat-0)<=out.length by omega) ?_
    refine Xab (show 0+(c:Int).toNat+(n-(c:Int).toNat)<=out.length by omega) ?_
    have w:i64.wrap ((c:Int)+((min (sub out (0+0) ((c:Int).toNat-0)).length (n-(c:Int).toNat):Nat):Int))=((c+min c (n-c):Nat):Int):=by
     rw[hs,Xac,Zat (by omega) (by omega)];omega
    refine⟨(c+min c (n-c),spl out (0+(c:Int).toNat) ((sub out (0+0) ((c:Int).toNat-0)).take (n-(c:Int).toNat))), ?_,by show n-(c+min c (n-c))<n-c;omega, ?_⟩
    ·rw[J,Xac,Xak,List.take_replicate]
     have hm:min (n-c) c=min c (n-c):=Nat.min_comm _ _
     refine⟨?_,by show c+min c (n-c)<=n;omega, ?_,λh=>by have h:c+min c (n-c)=0:=h;omega⟩
     ·show(spl out c (List.replicate (min (n-c) c) x)).length=n
      rw[spl,Xas,Xas,Xay,Xbo,XaM]
      omega
     ·show(spl out c (List.replicate (min (n-c) c) x)).take (c+min c (n-c))=List.replicate (c+min c (n-c)) x
      rw[spl,j,<-Xa2,List.replicate_append_replicate,hm,XbT (by rw[XaM];omega),List.take_replicate,Nat.min_self]
    ·refine ZaH rfl rfl ?_ ?_
     ·exact⟨⟨rfl,rfl,rfl⟩,w.symm,trivial⟩
     ·exact⟨⟨rfl,λ_=>rfl⟩,trivial⟩
   ·have hcn:c=n:=by have I: ¬ (c:Int)<(n:Int):=of_decide_eq_false h;omega
    have ho:out=List.replicate n x:=by rw[hcn,XaA (by omega)]at j;exact j
    refine⟨.ref 0 0 n none,[.row (ZyJ _) (List.replicate n x) true], ?_,⟨rfl,rfl,Zln⟩,rfl,rfl,rfl⟩
    refine ZaH rfl rfl ?_ ?_
    ·exact⟨⟨rfl,rfl,rfl⟩,trivial⟩
    ·exact⟨⟨ho.symm,λ_=>rfl⟩,trivial⟩
  ·cases n with
   |zero=>exact⟨rfl,Xag 0,rfl,λ_=>rfl⟩
   |succ n=>
    have R:[x].take (n+1)=[x]:=XaA (by simp)
    rw[R]
    refine⟨?_,show min 1 (n+1)<=n+1 by omega, ?_,λh=>by have h:min 1 (n+1)=0:=h;omega⟩
    ·show(spl (List.replicate (n+1) (ZyJ _).z) 0 [x]).length=n+1
     rw[spl,Xas,Xas,Xay,Xbo,XaM]
     simp
     omega
    ·show(spl (List.replicate (n+1) (ZyJ _).z) 0 [x]).take (min 1 (n+1))=List.replicate (min 1 (n+1)) x
     rw[show min 1 (n+1)=1 by omega]
     rfl
  ·refine ZaH rfl rfl ?_ ?_
   ·exact⟨⟨rfl,C.symm,C.symm⟩,by rw[C];rfl,trivial⟩
   ·exact⟨⟨by rw[C];rfl,λ_=>rfl⟩,trivial⟩
def ZvZ {P:Program} {h:Hints} {T:TypeId->TI} {tm:TM} {hp:List SM} {op:Op} {ct:CT} {by_ id i n j:Nat} {m2:Option Nat} {b:Bool} {pre l:List ct.D} {x:ct.D} {k:SV->List SM->Prop}
 {c:Call} {t t2 e e2:TypeId} {ts:List TypeId} (ho:op= .call c) (hc:c.callee= .builtin .append) (ha:evL tm c.args.toList=some [.ref id i n none, .ref j 0 1 m2]) (ht:c.argTypes.toList=t::t2::ts) (I:(T t).k= .slice e) (J:(T t2).k= .slice e2) (R:(T e).ct=some ct) (U:(T e).by_=by_) (C:(ZcO (T e).k,Nat.ble 1 (T e).by_&&Nat.ble 1 (T e).sz,h.frz t)=(false,true,false))
 (hn:nth hp id=some (.row ct (pre++l) true)) (aa:nth hp j=some (.row ct [x] b)) (hi:i=pre.length) (hl:n=l.length) (hz:(n+1)*by_<=140737488355328)
 (hk:k (.ref hp.length 0 (n+1) none) (hp.set id .dead++ [.row ct (l++ [x]) true])):opT P h T op tm hp k:=by
 have hg:Zys ct hp (.ref j 0 1 m2) (λnew=>ZuV ct by_ hp (.ref id i n none) new k):=by refine Zjx aa (Xag 1) ?_;refine ZnI hn (by rw[hi,hl,Xas];exact Xag _) hz ?_;have e1:sub (pre++l) i n=l:=(by rw[sub,hi,List.drop_left,XaA (by omega)]);have e2:sub [x] 0 1=[x]:=rfl;rw[e1];exact hk
 simp only[Prod.mk.injEq]at C;obtain⟨ab,ad,ae⟩:=C;simp only[ho,opT,ZfU,ha,hc,ZgX,ht,I,J,R,ad,ae];subst U;generalize(T e).k=kk at*;cases kk<;>first|(cases ab;done)|exact hg
def ar0:(0:Int)<=0/\(0:Int)<((2:Nat):Int):=by decide
def ar1:(0:Int)<=1/\(1:Int)<((2:Nat):Int):=by decide
def zO (n:Nat) (wo:Int) (l:List (Nat×Nat)) (m i:Nat):TM:=[(1, .v (.l E2) (el l)),(2, .v IC wo),(7, .ref 0 0 n none),(8,nt m),(18,nt n),(19,nt i)]
def zD (n:Nat) (wo:Int) (l:List (Nat×Nat)) (m i p q:Nat):TM:=(10, .ref 1 p q none)::zO n wo l m i
def zE (n:Nat) (wo:Int) (l:List (Nat×Nat)) (m i at_ p q k:Nat):TM:=(11,nt at_)::(41, .v (.l E2) (el l))::(42,nt l.length)::(43,nt k)::zD n wo l m i p q
def hD (out:List Int) (pre todo:List Nat):List SM:=[.row IC out true, .row IC (nl pre++nl todo) true]
def ZCD (n:Nat) (hn:n<=24) (wo:Int) (l:List (Nat×Nat)) (ad:okL n l) (hl:l.length<=64) (m i at_:Nat) (ag:at_<n) (out:List Int) (pre todo:List Nat) (U:out.length=n) (ht:cnt out+todo.length<=1000):
 LoopOK prog (Zbw bb) 0 ⟨98,0,88⟩ (Za6 Tryz.f98 13) (zE n wo l m i at_ pre.length todo.length 0) (hD out pre todo)
 (λe tm hp=>e= .exit 4/\ ∃j,Ent 0 tm hp (zD n wo l m i j.length (Za9 wo at_ m 0 l out todo).2.length) (hD (Za9 wo at_ m 0 l out todo).1 j (Za9 wo at_ m 0 l out todo).2)):=by
 refine Zap Zab rfl (λ(a:Nat×List Int×List Nat×List Nat)=>zE n wo l m i at_ a.2.2.1.length a.2.2.2.length a.1) (λa=>hD a.2.1 a.2.2.1 a.2.2.2) (λa=>a.1<=l.length/\a.2.1.length=n/\cnt a.2.1+a.2.2.2.length<=1000/\Za9 wo at_ m a.1 (l.drop a.1) a.2.1 a.2.2.2=Za9 wo at_ m 0 l out todo) (λa=>l.length-a.1) ?_ (0,out,pre,todo) ⟨Xap _,U,ht,rfl⟩ Zar;generalize Za9 wo at_ m 0 l out todo=E;clear U ht;clear out pre todo;rintro⟨k,out,pre,todo⟩ ⟨hk,U,ht,hE⟩;simp only at hk U ht hE;cases h1:decide ((k:Int)<((el l).length:Int))with
 |false=>have e:k=l.length:=(by have:=of_decide_eq_false h1;rw[XaG]at this;omega);rw[e,Xbt,Za9]at hE;rw[<-hE];have aa:decide ((k:Int)<(l.length:Int))=false:=(by rw[XaG]at h1;exact h1);refine auG ?_;refine Xab (λh=>by first|(cases h;done)|exact(nf h aa).elim) (λ_=> ?_);exact⟨rfl,pre,Zae ⟨rfl,rfl,rfl,rfl,rfl,rfl,rfl,trivial⟩⟩
 |true=>
  have C:k<l.length:=(by have:=of_decide_eq_true h1;rw[XaG]at this;omega);have aa:decide ((k:Int)<(l.length:Int))=true:=(by rw[XaG]at h1;exact h1);have skip:= @ZqI wo at_ m k l C out todo;have take:= @Zrk wo at_ m k l C out todo;have hx:=ad _ (XaI C);have gx:(el l)[(k:Int).toNat]? =some ((l[k].1:Int),(l[k].2:Int)):=(by rw[Xac,XaC,Xad C];rfl);generalize l[k]=x at gx hx skip take;obtain⟨a,b⟩:=x;simp only at gx hx;have w1:=congrArg (λx=>some (SV.v (.i .i64) x)) (Zbd (k:=k) (by omega));refine auG ?_;refine Xab (λ_=> ?_) (λh=>by first|(cases h;done)|exact(nf aa h).elim);refine auH ?_;refine Zac rfl (Zay rfl rfl rfl rfl rfl rfl rfl rfl ?_);refine Zal rfl ?_;refine Zc2 ?_;have next: ∀ {tm:TM} {hp:List SM} (o':List Int) (p' t':List Nat),o'.length=n->cnt o'+t'.length<=1000->Za9 wo at_ m (k+1) (l.drop (k+1)) o' t'=E->Ent 0 tm hp (zE n wo l m i at_ p'.length t'.length (k+1)) (hD o' p' t')->Zqq 0 (λ(a:Nat×List Int×List Nat×List Nat)=>zE n wo l m i at_ a.2.2.1.length a.2.2.2.length a.1) (λa=>hD a.2.1 a.2.2.1 a.2.2.2) (λa=>a.1<=l.length/\a.2.1.length=n/\cnt a.2.1+a.2.2.2.length<=1000/\Za9 wo at_ m a.1 (l.drop a.1) a.2.1 a.2.2.2=E) (λa=>l.length-a.1) (k,out,pre,todo) (λe tm hp=>e= .exit 4/\ ∃j,Ent 0 tm hp (zD n wo l m i j.length E.2.length) (hD E.1 j E.2)) .normal tm hp:=
   λo' p' t' g1 g2 g3 g4=>⟨(k+1,o',p',t'),⟨C,g1,g2,g3⟩,by show l.length-(k+1)<l.length-k;omega,g4⟩
  cases h2:decide ((k:Int)=wo)with
  |true=>rw[h2]at skip;refine auG ?_;refine brT rfl ?_;refine Zjy ?_;refine auG ?_;exact next out pre todo U ht (by rw[<-skip rfl];exact hE) (Zbj [0,1] ⟨rfl,rfl,rfl,rfl,trivial⟩ (by decide) ⟨rfl,ZaJ,rfl,ZaJ,rfl,ZaJ,w1,ZaJ,rfl,ZaQ (by show 1<2;omega),rfl,ZaJ,rfl,ZaJ,rfl,ZaQ (by show 0<2;omega),rfl,ZaJ,rfl,ZaJ,rfl,ZaJ,trivial⟩)
  |false=>
   have ae:i64.wrap (i64.wrap ((a:Int)+(b:Int))-(at_:Int))=((a+b:Nat):Int)-(at_:Int):=(by rw[Zat (x:=(a:Int)+(b:Int)) (by omega) (by omega),Zat (by omega) (by omega)];omega);cases I:Zil (a,b) at_ with
   |false=>have ha:(!decide ((a:Int)=(at_:Int)))=true:=(by simp only[Zil,Xbz,decide_eq_false_iff_not]at I;simp only[XbJ,decide_eq_false_iff_not];omega);have hb:(!decide ((b:Int)=(at_:Int)))=true:=(by simp only[Zil,Xbz,decide_eq_false_iff_not]at I;simp only[XbJ,decide_eq_false_iff_not];omega);refine auH ?_;refine ZcD rfl rfl rfl h2 (λ_=>rfl) ar0 rfl rfl ?_;refine auM ?_;refine ZcD rfl rfl rfl ha (λ_=>rfl) ar1 rfl rfl ?_;refine auN ?_;refine brT hb ?_;refine Zjy ?_;refine auG ?_;exact next out pre todo U ht (by rw[<-skip (by rw[I,Bool.and_false,XbZ])];exact hE) (Zbj [0,1] ⟨rfl,rfl,rfl,rfl,trivial⟩ (by decide) ⟨rfl,ZaJ,rfl,ZaJ,rfl,ZaJ,w1,ZaJ,rfl,ZaQ (by show 1<2;omega),rfl,ZaJ,rfl,ZaJ,rfl,ZaQ (by show 0<2;omega),rfl,ZaJ,rfl,ZaJ,rfl,ZaJ,trivial⟩)
   |true=>
    have ah:a=at_\/b=at_:=(by simpa[Zil]using I);obtain⟨y,hy⟩: ∃y,oth (a,b) at_=y:=⟨_,rfl⟩;rw[hy]at skip take;have ai:y<n:=(by rw[<-hy];simp only[oth];omega);have ab:i64.wrap (i64.wrap ((a:Int)+(b:Int))-(at_:Int))=(y:Int):=(by rw[ae,<-hy];simp only[oth];omega);have hi:(0:Int)<=i64.wrap (i64.wrap ((a:Int)+(b:Int))-(at_:Int))/\i64.wrap (i64.wrap ((a:Int)+(b:Int))-(at_:Int))<((n:Nat):Int):=(by rw[ab];omega);have hj:0+(i64.wrap (i64.wrap ((a:Int)+(b:Int))-(at_:Int))).toNat=y:=(by rw[ab,Xac,Xak]);have gy:out[0+(i64.wrap (i64.wrap ((a:Int)+(b:Int))-(at_:Int))).toNat]? =some (out.getD y 0):=(by rw[hj,Xan,Xad (by omega)];rfl);cases J:Za3 out y with
    |false=>
     have R:decide (out.getD y 0<0)=false:=J;have fin: ∀ {tm:TM} {hp:List SM},Ent 0 tm hp (zE n wo l m i at_ pre.length todo.length (k+1)) (hD out pre todo)->_:=λ{tm hp}=>next (tm:=tm) (hp:=hp) out pre todo U ht (by rw[<-skip (by rw[J,Bool.and_false])];exact hE)
     cases ha:(!decide ((a:Int)=(at_:Int)))with|false=>refine auH ?_;refine ZcD rfl rfl rfl h2 (λ_=>rfl) ar0 rfl rfl ?_;refine auN ?_;refine brF rfl ?_;refine ZpR ?_;refine Zgx rfl (λ_=>rfl) ar0 rfl rfl ?_;refine Zgx rfl (λ_=>rfl) rfl rfl rfl ?_;refine Zgx rfl (λ_=>rfl) ar1 rfl rfl ?_;refine auN ?_;refine auH ?_;refine Zac rfl (Zam rfl rfl rfl rfl rfl rfl rfl hi ?_);refine Zaa rfl rfl ?_;refine Zac rfl (Zau rfl rfl rfl gy rfl ?_);refine Zaa rfl rfl ?_;refine auN ?_;refine brF R ?_;refine auG ?_;exact fin (Zbj [0,1] ⟨rfl,rfl,rfl,rfl,trivial⟩ (by decide) ⟨rfl,ZaJ,rfl,ZaJ,rfl,ZaJ,w1,ZaJ,rfl,ZaQ (by show 1<2;omega),rfl,ZaJ,rfl,ZaJ,rfl,ZaQ (by show 0<2;omega),rfl,ZaJ,rfl,ZaJ,rfl,ZaJ,trivial⟩)|true=>have hb:(!decide ((b:Int)=(at_:Int)))=false:=(by simp only[XbJ,decide_eq_false_iff_not]at ha;simp only[Bool.not_eq_false',decide_eq_true_eq];omega);refine auH ?_;refine ZcD rfl rfl rfl h2 (λ_=>rfl) ar0 rfl rfl ?_;refine auM ?_;refine ZcD rfl rfl rfl ha (λ_=>rfl) ar1 rfl rfl ?_;refine auN ?_;refine brF hb ?_;refine ZpR ?_;refine Zgx rfl (λ_=>rfl) ar0 rfl rfl ?_;refine Zgx rfl (λ_=>rfl) rfl rfl rfl ?_;refine Zgx rfl (λ_=>rfl) ar1 rfl rfl ?_;refine auN ?_;refine auH ?_;refine Zac rfl (Zam rfl rfl rfl rfl rfl rfl rfl hi ?_);refine Zaa rfl rfl ?_;refine Zac rfl (Zau rfl rfl rfl gy rfl ?_);refine Zaa rfl rfl ?_;refine auN ?_;refine brF R ?_;refine auG ?_;exact fin (Zbj [0,1] ⟨rfl,rfl,rfl,rfl,trivial⟩ (by decide) ⟨rfl,ZaJ,rfl,ZaJ,rfl,ZaJ,w1,ZaJ,rfl,ZaQ (by show 1<2;omega),rfl,ZaJ,rfl,ZaJ,rfl,ZaQ (by show 0<2;omega),rfl,ZaJ,rfl,ZaJ,rfl,ZaJ,trivial⟩)
    |true=>
     have R:decide (out.getD y 0<0)=true:=J;have aj:=Znn m J;have af:(!decide ((k:Int)=wo)&&Zil (a,b) at_&&Za3 out y)=true:=(by rw[h2,I,J];rfl);have hz:(todo.length+1)*8<=140737488355328:=(by omega);have fin: ∀ {tm:TM} {hp:List SM},Ent 0 tm hp (zE n wo l m i at_ ([]:List Nat).length (todo++ [y]).length (k+1)) (hD (out.set y m) [] (todo++ [y]))->_:=λ{tm hp}=>next (tm:=tm) (hp:=hp) (out.set y m) [] (todo++ [y]) (by rw[XaB];exact U) (by rw[Xas,Xaq,XbG];omega) (by rw[<-take af];exact hE)
     have e0:=congrArg (λz=>some (SM.row IC (out.set z (m:Int)) true)) hj;have e4:some (SM.row IC (nl todo++ [i64.wrap (i64.wrap ((a:Int)+(b:Int))-(at_:Int))]) true)=some (SM.row IC (nl []++nl (todo++ [y])) true):=(by rw[ab];simp[nl]);have er:some (SV.ref 4 0 (todo.length+1) none)=some (SV.ref 4 0 (todo++ [y]).length none):=(by rw[Xas];rfl);cases ha:(!decide ((a:Int)=(at_:Int)))with|false=>refine auH ?_;refine ZcD rfl rfl rfl h2 (λ_=>rfl) ar0 rfl rfl ?_;refine auN ?_;refine brF rfl ?_;refine ZpR ?_;refine Zgx rfl (λ_=>rfl) ar0 rfl rfl ?_;refine Zgx rfl (λ_=>rfl) rfl rfl rfl ?_;refine Zgx rfl (λ_=>rfl) ar1 rfl rfl ?_;refine auN ?_;refine auH ?_;refine Zac rfl (Zam rfl rfl rfl rfl rfl rfl rfl hi ?_);refine Zaa rfl rfl ?_;refine Zac rfl (Zau rfl rfl rfl gy rfl ?_);refine Zaa rfl rfl ?_;refine auN ?_;refine brT R ?_;refine auH ?_;refine Zac rfl (Zam rfl rfl rfl rfl rfl rfl rfl hi ?_);refine Zaa rfl rfl ?_;refine Zac rfl (Za8 rfl rfl rfl rfl rfl gy rfl rfl rfl ?_);refine Zal rfl ?_;refine Zc2 ?_;refine auH ?_;refine Zac rfl (ZvZ (ct:=IC) (pre:=nl pre) (l:=nl todo) rfl rfl rfl rfl rfl rfl rfl rfl rfl rfl rfl (XaG _).symm (XaG _).symm hz ?_);refine Zaa rfl rfl ?_;refine auN ?_;refine auG ?_;exact fin (Zbj [0,4] ⟨e0,rfl,e4,rfl,trivial⟩ (by decide) ⟨rfl,ZaJ,rfl,ZaJ,rfl,ZaJ,w1,ZaJ,er,ZaQ (by show 1<2;omega),rfl,ZaJ,rfl,ZaJ,rfl,ZaQ (by show 0<2;omega),rfl,ZaJ,rfl,ZaJ,rfl,ZaJ,trivial⟩)|true=>have hb:(!decide ((b:Int)=(at_:Int)))=false:=(by simp only[XbJ,decide_eq_false_iff_not]at ha;simp only[Bool.not_eq_false',decide_eq_true_eq];omega);refine auH ?_;refine ZcD rfl rfl rfl h2 (λ_=>rfl) ar0 rfl rfl ?_;refine auM ?_;refine ZcD rfl rfl rfl ha (λ_=>rfl) ar1 rfl rfl ?_;refine auN ?_;refine brF hb ?_;refine ZpR ?_;refine Zgx rfl (λ_=>rfl) ar0 rfl rfl ?_;refine Zgx rfl (λ_=>rfl) rfl rfl rfl ?_;refine Zgx rfl (λ_=>rfl) ar1 rfl rfl ?_;refine auN ?_;refine auH ?_;refine Zac rfl (Zam rfl rfl rfl rfl rfl rfl rfl hi ?_);refine Zaa rfl rfl ?_;refine Zac rfl (Zau rfl rfl rfl gy rfl ?_);refine Zaa rfl rfl ?_;refine auN ?_;refine brT R ?_;refine auH ?_;refine Zac rfl (Zam rfl rfl rfl rfl rfl rfl rfl hi ?_);refine Zaa rfl rfl ?_;refine Zac rfl (Za8 rfl rfl rfl rfl rfl gy rfl rfl rfl ?_);refine Zal rfl ?_;refine Zc2 ?_;refine auH ?_;refine Zac rfl (ZvZ (ct:=IC) (pre:=nl pre) (l:=nl todo) rfl rfl rfl rfl rfl rfl rfl rfl rfl rfl rfl (XaG _).symm (XaG _).symm hz ?_);refine Zaa rfl rfl ?_;refine auN ?_;refine auG ?_;exact fin (Zbj [0,4] ⟨e0,rfl,e4,rfl,trivial⟩ (by decide) ⟨rfl,ZaJ,rfl,ZaJ,rfl,ZaJ,w1,ZaJ,er,ZaQ (by show 1<2;omega),rfl,ZaJ,rfl,ZaJ,rfl,ZaQ (by show 0<2;omega),rfl,ZaJ,rfl,ZaJ,rfl,ZaJ,trivial⟩)
def ZEo (n:Nat) (hn:n<=24) (wo:Int) (l:List (Nat×Nat)) (ab:okL n l) (hl:l.length<=64) (m i:Nat) (out:List Int) (pre todo:List Nat) (f0:Nat) (C:out.length=n) (R:cnt out+todo.length<=f0) (I:f0<=1000) (J: ∀v∈todo,v<n):
 LoopOK prog (Zbw bb) 0 ⟨98,0,88⟩ (Za6 Tryz.f98 9) (zD n wo l m i pre.length todo.length) (hD out pre todo)
 (λe tm hp=>e= .exit 2/\Ent 0 tm hp (zO n wo l m i) [.row IC (Zfd wo l m f0 out todo) true]):=by refine Zap Zab rfl (λ(a:List Int×List Nat×List Nat)=>zD n wo l m i a.2.1.length a.2.2.length) (λa=>hD a.1 a.2.1 a.2.2) (λa=>a.1.length=n/\(∀v∈a.2.2,v<n)/\ ∃f,f<=1000/\cnt a.1+a.2.2.length<=f/\Zfd wo l m f a.1 a.2.2=Zfd wo l m f0 out todo) (λa=>cnt a.1+a.2.2.length) ?_ (out,pre,todo) ⟨C,J,f0,I,R,rfl⟩ Zar;generalize Zfd wo l m f0 out todo=D;clear C J R I;clear out pre todo f0;rintro⟨out,pre,todo⟩ ⟨C,J,f,I,hf,j⟩;simp only at C J hf j;cases todo with|nil=>have hd:Zfd wo l m f out []=out:=(by cases f<;>rfl);rw[hd]at j;refine auG ?_;refine brF rfl ?_;refine⟨rfl, ?_⟩;rw[<-j];exact Zbj [0] ⟨rfl,rfl,trivial⟩ (by decide) ⟨rfl,ZaJ,rfl,ZaJ,rfl,ZaQ (by show 0<1;omega),rfl,ZaJ,rfl,ZaJ,rfl,ZaJ,trivial⟩|cons v rest=>have ad:=J v Xai;have hc:(0:Int)<=0/\(0:Int)<(((v::rest).length:Nat):Int):=(by rw[Xaq];omega);have hb:decide ((0:Int)<(((v::rest).length:Nat):Int))=true:=decide_eq_true hc.2;have gv:(nl pre++nl (v::rest))[pre.length+(0:Int).toNat]? =some (v:Int):=(by rw[Xaz (by rw[XaG];exact Nat.le_add_right _ _),XaG];simp[nl]);have ae:(0:Int)<=1/\(1:Int)<=(((v::rest).length:Nat):Int):=(by rw[Xaq];omega);have af:(v::rest).length-(1:Int).toNat=rest.length:=(by rw[Xaq];show rest.length+1-1=_;omega);have ag:pre.length+(1:Int).toNat=(pre++ [v]).length:=(by rw[Xas];rfl);have U:nl pre++nl (v::rest)=nl (pre++ [v])++nl rest:=(by simp[nl]);obtain⟨f,rfl⟩: ∃k,f=k+1:=⟨f-1,by rw[Xaq]at hf;omega⟩;have g1:=ZeY wo v m l 0 out rest;have g2:=Zgq wo v m l 0 out rest;have g3:=ZgN wo v m n l 0 out rest C λw hw=>J w (Xaj _ hw);rw[Xaq]at hf;refine auG ?_;refine brT hb ?_;refine auH ?_;refine Zac rfl (Zam rfl rfl rfl rfl rfl rfl rfl hc ?_);refine Zaa rfl rfl ?_;refine Zac rfl (Zau rfl rfl rfl gv rfl ?_);refine Zaa rfl rfl ?_;refine auN ?_;refine auH ?_;refine Zac rfl (ZqW rfl rfl rfl rfl rfl rfl rfl ae ?_);refine Zaa rfl rfl ?_;refine auN ?_;refine auG ?_;refine((ZCD (bb:=bb) n hn wo l ab hl m i v ad out (pre++ [v]) rest C (by omega)).ent ?_).through ?_;exact Zbj [0,1] ⟨rfl,rfl,congrArg (λz=>some (SM.row IC z true)) U,rfl,trivial⟩ (by decide) ⟨rfl,ZaJ,rfl,ZaJ,congrArg (λz:Nat=>some (nt z)) (XaG _),ZaJ,rfl,ZaJ,(congrArg (λx=>some (SV.ref 1 x _ none)) ag).trans (congrArg (λz=>some (SV.ref 1 _ z none)) af),ZaQ (by show 1<2;omega),rfl,ZaJ,rfl,ZaJ,rfl,ZaQ (by show 0<2;omega),rfl,ZaJ,rfl,ZaJ,rfl,ZaJ,trivial⟩;rintro _ tm hp ⟨rfl,aa,hE⟩;refine⟨_,_,hE, ?_⟩;exact⟨((Za9 wo v m 0 l out rest).1,aa,(Za9 wo v m 0 l out rest).2),⟨by rw[g1];exact C,g3,f,by omega,by rw[g2];omega,j⟩,by show cnt (Za9 wo v m 0 l out rest).1+(Za9 wo v m 0 l out rest).2.length<cnt out+(v::rest).length;rw[g2,Xaq];omega,Zar⟩
def ZDf (n:Nat) (hn:n<=24) (wo:Int) (l:List (Nat×Nat)) (aa:okL n l) (hl:l.length<=64):
 LoopOK prog (Zbw bb) 0 ⟨98,0,88⟩ (Za6 Tryz.f98 4) (zO n wo l 0 0) [.row IC (List.replicate n (-1:Int)) true]
 (λe tm hp=>e= .exit 0/\Ent 0 tm hp [(7, .ref 0 0 n none)] [.row IC (ZeJ wo l n) true]):=by refine Zap Zab rfl (λ(a:Nat×Nat×List Int)=>zO n wo l a.2.1 a.1) (λa=> [.row IC a.2.2 true]) (λa=>a.1<=n/\a.2.1<=a.1/\a.2.2.length=n/\ZbZ wo l (n-a.1) a.1 a.2.1 a.2.2=ZeJ wo l n) (λa=>n-a.1) ?_ (0,0,List.replicate n (-1)) ⟨Xap _,Xag _,XaM,rfl⟩ Zar;generalize ZeJ wo l n=F;rintro⟨i,m,out⟩ ⟨hi,hm,J,I⟩;simp only at hi hm J I;cases U:decide ((i:Int)<(n:Int))with|false=>have e:n-i=0:=(by have:=of_decide_eq_false U;omega);rw[e,ZbZ]at I;refine auG ?_;refine brF U ?_;refine⟨rfl, ?_⟩;rw[<-I];exact Zae ⟨rfl,trivial⟩|true=>have C:i<n:=(by have:=of_decide_eq_true U;omega);obtain⟨k,hk⟩: ∃k,n-i=k+1:=⟨n-i-1,by omega⟩;have R:n-(i+1)=k:=(by omega);rw[hk,ZbZ]at I;have hj:=cin C;have gy:out[0+(i:Int).toNat]? =some (out.getD i 0):=(by rw[Xac,Xak,Xan,Xad (by omega)];rfl);have w1:=congrArg (λx=>some (SV.v (.i .i64) x)) (Zbd (k:=i) (by omega));have w2:=congrArg (λx=>some (SV.v (.i .i64) x)) (Zbd (k:=m) (by omega));refine auG ?_;refine brT U ?_;refine auG ?_;cases j:Za3 out i with|false=>rw[j,if_neg (by simp)]at I;have hg:decide ((0:Int)<=out.getD i 0)=true:=(by have:decide (out.getD i 0<0)=false:=j;have:=of_decide_eq_false this;exact decide_eq_true (by omega));refine auH ?_;refine Zac rfl (Zam rfl rfl rfl rfl rfl rfl rfl hj ?_);refine Zaa rfl rfl ?_;refine Zac rfl (Zau rfl rfl rfl gy rfl ?_);refine Zaa rfl rfl ?_;refine auN ?_;refine brT hg ?_;refine Zjy ?_;refine auG ?_;refine⟨(i+1,m,out),⟨C,by show m<=i+1;omega,J,by show ZbZ wo l (n-(i+1)) (i+1) m out=F;rw[R];exact I⟩,by show n-(i+1)<n-i;omega, ?_⟩;exact Zae ⟨rfl,rfl,rfl,rfl,rfl,w1,trivial⟩|true=>rw[j,if_pos rfl]at I;have hg:decide ((0:Int)<=out.getD i 0)=false:=(by have:=of_decide_eq_true (show decide (out.getD i 0<0)=true from j);exact decide_eq_false (by omega));have ab:=Znn m j;have ad:cnt out<=n:=(by rw[<-J];exact List.length_filter_le _ _);refine auH ?_;refine Zac rfl (Zam rfl rfl rfl rfl rfl rfl rfl hj ?_);refine Zaa rfl rfl ?_;refine Zac rfl (Zau rfl rfl rfl gy rfl ?_);refine Zaa rfl rfl ?_;refine auN ?_;refine brF hg ?_;refine auH ?_;refine Zac rfl (Zam rfl rfl rfl rfl rfl rfl rfl hj ?_);refine Zaa rfl rfl ?_;refine Zac rfl (Za8 rfl rfl rfl rfl rfl gy rfl rfl rfl ?_);refine Zal rfl ?_;refine Zc2 ?_;refine auG ?_;refine((ZEo (bb:=bb) n hn wo l aa hl m i (out.set i m) [] [i] (cnt (out.set i m)+1) (by rw[XaB];exact J) (Xag _) (by omega) (λv hv=>by rw[Xat.1 hv];exact C)).ent ?_).through ?_;exact Zbj [0,1] ⟨congrArg (λz=>some (SM.row IC (out.set z (m:Int)) true)) (by rw[Xac,Xak]),rfl,rfl,rfl,trivial⟩ (by decide) ⟨rfl,ZaQ (by show 1<2;omega),rfl,ZaJ,rfl,ZaJ,rfl,ZaQ (by show 0<2;omega),rfl,ZaJ,rfl,ZaJ,rfl,ZaJ,trivial⟩;rintro _ tm hp ⟨rfl,hE⟩;refine⟨_,_,hE, ?_⟩;show wp _ _ _ _ _ _ _ _ _;refine auG ?_;refine auG ?_;refine⟨(i+1,m+1,Zfd wo l m (cnt (out.set i m)+1) (out.set i m) [i]),⟨C,by show m+1<=i+1;omega,by rw[ZhE,XaB];exact J,by show ZbZ wo l (n-(i+1)) (i+1) (m+1) _=F;rw[R];exact I⟩,by show n-(i+1)<n-i;omega, ?_⟩;exact Zae ⟨rfl,rfl,rfl,w2,rfl,w1,trivial⟩
def ZyW (n:Nat) (C:n<=24) (wo:Int) (l:List (Nat×Nat)) (j:okL n l) (I:l.length<=64):PureOK prog (Zbw bb) 98 [nt n, .v (.l E2) (el l), .v IC wo] (λV=>V= .v (.l IC) (ZeJ wo l n)):=by refine Zad Zab func98 ?_;have hR:=Zts (bb:=bb) false (-1:Int) n (by omega);refine auG ?_;refine auH ?_;refine Zac rfl (Zvk rfl rfl rfl rfl rfl rfl (Xag 1) (hR.mono ?_));rintro _ _ _ ⟨rfl,rfl,rfl⟩;refine Zaa rfl rfl ?_;refine auN ?_;refine auG ?_;refine auG ?_;refine((ZDf (bb:=bb) n C wo l j I).ent ?_).through ?_;exact Zbj [1] ⟨rfl,rfl,trivial⟩ (by decide) ⟨rfl,ZaJ,rfl,ZaJ,rfl,ZaQ (by show 0<1;omega),rfl,ZaJ,rfl,ZaJ,rfl,ZaJ,trivial⟩;rintro _ tm hp ⟨rfl,hE⟩;refine⟨_,_,hE, ?_⟩;show wp _ _ _ _ _ _ _ _ _;refine auG ?_;exact⟨by rw[ZeT];omega,by rw[ZaM (ZeT wo l n)]⟩
def ZzA (n:Nat) (U:n<=24) (l:List (Nat×Nat)) (C:okL n l) (hl:l.length<=64):PureOK prog (Zbw bb) 97 [nt n, .v (.l E2) (el l)] (λV=>V=nt 0):=by refine Zad Zab func97 ?_;have c1:decide ((n:Int)<0)=false:=decide_eq_false (by omega);have c2:decide ((24:Int)<(n:Int))=false:=decide_eq_false (by omega);have c3:decide ((64:Int)<((el l).length:Int))=false:=decide_eq_false (by rw[XaG];omega);refine auG ?_;refine auG ?_;refine brF c3 ?_;refine auG ?_;refine Zap Zab rfl (λ(k:Nat)=> [(0,nt n),(18, .v (.l E2) (el l)),(19,nt l.length),(20,nt k)]) (λ_=> []) (λk=>k<=l.length) (λk=>l.length-k) ?_ 0 (Xap _) (ZbW ⟨rfl,rfl,rfl,rfl,congrArg (λz:Nat=>some (nt z)) (XaG _),rfl,rfl,rfl,trivial⟩);intro k hk;cases I:decide ((k:Int)<(l.length:Int))with|false=>refine auG ?_;refine brF I ?_;show wp _ _ _ _ _ _ _ _ _;refine auG ?_;rfl|true=>have j:k<l.length:=(by have:=of_decide_eq_true I;omega);have J:=C _ (XaI j);have R:(el l)[(k:Int).toNat]? =some ((l[k].1:Int),(l[k].2:Int)):=(by rw[Xac,XaC,Xad j];rfl);generalize l[k]=x at R J;obtain⟨a,b⟩:=x;simp only at R J;have d1:decide ((a:Int)<0)=false:=decide_eq_false (by omega);have d2:decide ((n:Int)<=(a:Int))=false:=decide_eq_false (by omega);have d3:decide ((b:Int)<0)=false:=decide_eq_false (by omega);have d4:decide ((n:Int)<=(b:Int))=false:=decide_eq_false (by omega);refine auG ?_;refine brT I ?_;refine auH ?_;refine Zac rfl (Zay rfl rfl rfl rfl rfl rfl rfl rfl ?_);refine Zal rfl ?_;refine Zc2 ?_;refine ZpR ?_;refine Zgx rfl (λ_=>rfl) ar0 rfl rfl ?_;refine auM ?_;refine ZcD rfl rfl rfl d1 (λ_=>rfl) ar0 rfl rfl ?_;refine auM ?_;refine ZcD rfl rfl rfl d2 (λ_=>rfl) ar1 rfl rfl ?_;refine auM ?_;refine ZcD rfl rfl rfl d3 (λ_=>rfl) ar1 rfl rfl ?_;refine auN ?_;refine brF d4 ?_;refine auG ?_;exact⟨k+1,j,by show l.length-(k+1)<l.length-k;omega,ZbW ⟨rfl,rfl,rfl,rfl,rfl,rfl,congrArg (λx=>some (SV.v (.i .i64) x)) (Zbd (by omega)),rfl,trivial⟩⟩
def Zjc (n:Nat) (C:n<=24) (l:List (Nat×Nat)) (j:okL n l) (I:l.length<=64):PureOK prog (Zbw bb) 78 [nt n, .v (.l E2) (el l)] (λV=>V= .tup [.v (.l IC) (ZeJ (-1) l n),nt 0]):=by refine Zad Zab func78 ?_;have J:=ZzA (bb:=bb) n C l j I;have R:=ZyW (bb:=bb) n C (-1) l j I;refine auG ?_;refine auG ?_;refine auG ?_;refine brF rfl ?_;refine auG ?_;rfl
open Ne
def Zfk (s:Txt): ∀l:List Txt,ZdF s l=decide (s∈l)
 | []=>by simp[ZdF]
 |k::r=>by rw[ZdF,Zfk s r];cases h:(s==k)with|true=>rw[eq_of_beq h];simp|false=>have j:s≠k:=λe=>(by rw[e,beq_self_eq_true]at h;cases h);simp[j]
def ZD1 {nodes met:List Txt} {it:Ne.Item} (h:ZeE nodes met it=0):Zcf it.1=true/\ZdF it.1 met=false/\(∀s∈it.2.1,s∈nodes)/\it.2.2.2=false:=by unfold ZeE at h;cases C:Zcf it.1 with|false=>rw[C]at h;simp at h|true=>rw[C]at h;cases I:ZdF it.1 met with|true=>rw[I]at h;simp at h|false=>rw[I]at h;cases j:(it.2.1.all λs=>ZdF s nodes)with|false=>rw[j]at h;simp at h|true=>rw[j]at h;cases J:(it.2.2.1&&(it.2.1.getD 0 []==it.2.1.getD 1 []))with|true=>rw[J]at h;simp at h|false=>rw[J]at h;cases R:it.2.2.2 with|true=>rw[R]at h;simp at h|false=>refine⟨rfl,rfl,λs U=> ?_,rfl⟩;have:=Xaw.1 j s U;rw[Zfk]at this;exact of_decide_eq_true this
def Zmm {nodes:List Txt}: ∀ {l:List Ne.Item} {met:List Txt},Zbt nodes met l=0->met.Nodup->(∀it∈l,Zcf it.1=true/\(∀s∈it.2.1,s∈nodes)/\it.2.2.2=false)/\(met++l.map (·.1)).Nodup
 | [],met,_,C=>⟨λ_ h=>absurd h Xav,by simpa using C⟩
 |it::l,met,h,C=>by rw[Zbt]at h;cases j:decide (ZeE nodes met it=0)with|false=>rw[j]at h;exact absurd h (of_decide_eq_false j)|true=>rw[j]at h;have hd:=ZD1 (of_decide_eq_true j);have hm:(met++ [it.1]).Nodup:=(by rw[List.nodup_append];refine⟨C,by simp,λa J b R e=> ?_⟩;rw[Xat.1 R]at e;have I:=hd.2.1;rw[Zfk]at I;exact(of_decide_eq_false I) (e▸J));obtain⟨g1,g2⟩:=Zmm (l:=l) h hm;refine⟨λx hx=> ?_, ?_⟩;rcases Xau.1 hx with rfl|hx;exact⟨hd.1,hd.2.2.1,hd.2.2.2⟩;exact g1 x hx;rw[XaX];simpa[Xa2]using g2
structure Fine (n:Ne.Net):Prop where
 big:Ne.big n=false
 node: ∀s∈n.nodes,Zcf s=true
 dev: ∀it∈ZHL n,Zcf it.1=true/\(∀s∈it.2.1,s∈n.nodes)/\it.2.2.2=false
 nd:(n.nodes++(ZHL n).map (·.1)).Nodup
def ZoI {n:Ne.Net} (h:ZdW n=0):big n=false:=by cases j:big n with|false=>rfl|true=>unfold ZdW at h;rw[j,cond_true]at h;cases h
def ZeC {n:Ne.Net} (h:ZdW n=0):Fine n:=by have j:=ZoI h;unfold ZdW at h;rw[j,cond_false]at h;obtain⟨g1,g2⟩:=Zmm h List.nodup_nil;refine⟨j,λs C=>(g1 (noI s) (Xa8 _ (Xbu C))).1,λit hi=> ?_, ?_⟩;exact g1 it (XaT _ hi);rw[Xbl,Xby,XbE]at g2;have e:((λx:Ne.Item=>x.1)∘noI)=id:=rfl;rw[e,List.map_id]at g2;exact g2
def Zyw {n:Ne.Net} (hf:Fine n) {x:Ge} (j:x∈n.gens):Zcf x.1=true/\x.2.1∈n.nodes/\(geI x).2.2.2=false:=by have h:=hf.dev (geI x) (XaT _ (XaT _ (Xa8 _ (Xbu j))));exact⟨h.1,h.2.1 _ (by simp[geI]),h.2.2⟩
def ZBV {n:Ne.Net} (hf:Fine n) {x:Lo} (j:x∈n.loads):Zcf x.1=true/\x.2.1∈n.nodes/\(loI x).2.2.2=false:=by have h:=hf.dev (loI x) (XaT _ (XaT _ (XaT _ (Xa8 _ (Xbu j)))));exact⟨h.1,h.2.1 _ (by simp[loI]),h.2.2⟩
def ZFN {n:Ne.Net} (hf:Fine n) {x:Sto} (j:x∈n.stores):Zcf x.1=true/\x.2.1∈n.nodes/\(stI x).2.2.2=false:=by have h:=hf.dev (stI x) (XaT _ (XaT _ (XaT _ (XaT _ (Xbu j)))));exact⟨h.1,h.2.1 _ (by simp[stI]),h.2.2⟩
def ZgK {x lo hi:Int} (h:inR x lo hi=true):lo<=x/\x<=hi:=by unfold inR at h;simpa using h
def ZBx {x:Ge} (h:(geI x).2.2.2=false):0<=x.2.2.1/\x.2.2.1<=100000/\x.2.2.1<=x.2.2.2.1/\x.2.2.2.1<=100000:=by simp only[geI,Xbz,Bool.not_eq_false']at h;obtain⟨⟨j,C⟩,_⟩:=h;have j:=ZgK j;have C:=ZgK C;omega
def ZA8 {x:Lo} (h:(loI x).2.2.2=false):0<=x.2.2/\x.2.2<=100000:=by simp only[loI,Bool.not_eq_false']at h;exact ZgK h
def ZGE {x:Sto} (h:(stI x).2.2.2=false):0<=x.2.2.1/\x.2.2.1<=100000/\0<=x.2.2.2.1/\x.2.2.2.1<=100000:=by simp only[stI,Xbz,Bool.not_eq_false']at h;obtain⟨⟨j,C⟩,_⟩:=h;have j:=ZgK j;have C:=ZgK C;omega
def ZxX {n:Ne.Net} (hf:Fine n) {x:Sw} (j:x∈n.sws):x.2.1∈n.nodes/\x.2.2.1∈n.nodes:=by have h:=hf.dev (swI x) (Xa8 _ (Xbu j));exact⟨h.2.1 _ (by simp[swI]),h.2.1 _ (by simp[swI])⟩
def Zo3 {n:Ne.Net} (hf:Fine n) {x:Br} (j:x∈n.brs):x.2.1∈n.nodes/\x.2.2.1∈n.nodes/\Zm1 x=false:=by have h:=hf.dev (brI x) (XaT _ (Xa8 _ (Xbu j)));exact⟨h.2.1 _ (by simp[brI]),h.2.1 _ (by simp[brI]),h.2.2⟩
def ZsO {t:Txt}: ∀ {nodes:List Txt} (i:Nat),t∈nodes-> ∃j,Zdg t nodes i=((i+j:Nat):Int)/\j<nodes.length
 | [],i,h=>absurd h Xav
 |k::r,i,h=>by rw[Zdg];cases C:(t==k)with|true=>exact⟨0,rfl,Nat.succ_pos _⟩|false=>have hr:t∈r:=(by rcases Xau.1 h with rfl|hr;rw[beq_self_eq_true]at C;cases C;exact hr);obtain⟨j,I,J⟩:=ZsO (i+1) hr;exact⟨j+1,by rw[cond_false,I];congr 1;omega,Nat.succ_lt_succ J⟩
def ZaC {n:Ne.Net} (hf:Fine n):n.nodes.length<=24/\n.sws.length<=32/\n.brs.length<=24/\n.gens.length<=10/\n.loads.length<=12/\n.stores.length<=4:=by have j:=hf.big;simp only[big,Xbz,decide_eq_false_iff_not]at j;omega
def plN (n:Ne.Net) (s:Txt):Nat:=(Zdg s n.nodes 0).toNat
def swE (n:Ne.Net) (s:Sw):Nat×Nat:=(plN n s.2.1,plN n s.2.2.1)
def ZBY (s:Sw):Bool:=s.2.2.2.2==false
def ZeB (n:Ne.Net):List (Nat×Nat):=(n.sws.filter ZBY).map (swE n)
def ZcS (n:Ne.Net):List Int:=ZeJ (-1) (ZeB n) n.nodes.length
def ZdS (l:List Int):Int:=l.foldl (λm b=>if b+1>m then b+1 else m) 0
def Zaf (n:Ne.Net):Nat:=(ZdS (ZcS n)).toNat
def bAt (n:Ne.Net) (s:Txt):Nat:=((ZcS n).getD (plN n s) 0).toNat
def brE (n:Ne.Net) (b:Br):Nat×Nat:=(bAt n b.2.1,bAt n b.2.2.1)
def Zbp (n:Ne.Net):List Int:=ZeJ (-1) (n.brs.map (brE n)) (Zaf n)
def Zfr {n:Ne.Net} {s:Txt} (h:s∈n.nodes):Zdg s n.nodes 0=((plN n s:Nat):Int)/\plN n s<n.nodes.length:=by
 obtain⟨j,C,I⟩:=ZsO 0 h;rw[Xak]at C;have e:plN n s=j:=by rw[plN,C,Xac]
 rw[e];exact⟨C,I⟩
def Zly (l:List Int) (b:Int):ZdS (l++ [b])=if b+1>ZdS l then b+1 else ZdS l:=by rw[ZdS,List.foldl_append];rfl
def ZrG (k:Int): ∀ (l:List Int) (m:Int),m<=k->(∀x∈l,x<k)->(∀x∈l,x<l.foldl (λm b=>if b+1>m then b+1 else m) m)/\m<=l.foldl (λm b=>if b+1>m then b+1 else m) m/\l.foldl (λm b=>if b+1>m then b+1 else m) m<=k
 | [],m,hm,_=>⟨λx h=>absurd h Xav,Xbw _,hm⟩
 |a::l,m,hm,h=>by have j:=h a Xai;obtain⟨g1,g2,g3⟩:=ZrG k l (if a+1>m then a+1 else m) (by split<;>omega) (λx hx=>h x (Xaj _ hx));rw[List.foldl_cons];refine⟨λx hx=> ?_, ?_,g3⟩;rcases Xau.1 hx with rfl|hx;revert g2;split<;>omega;exact g1 x hx;revert g2;split<;>omega
def ZjQ {l:List Int} {k:Nat} (h: ∀x∈l,x<(k:Int)):(∀x∈l,x<ZdS l)/\0<=ZdS l/\ZdS l<=(k:Int):=ZrG k l 0 (XaH k) h
def Ziv {n:Ne.Net} (hf:Fine n):okL n.nodes.length (ZeB n)/\(ZeB n).length<=64:=by refine⟨λx j=> ?_, ?_⟩;obtain⟨s,C,rfl⟩:=XaU.1 j;have h:=ZxX hf (XbF.1 C).1;exact⟨(Zfr h.1).2,(Zfr h.2).2⟩;have I:=(ZaC hf).2.1;have J:=List.length_filter_le ZBY n.sws;rw[ZeB,XaG];omega
def ZjD (n:Ne.Net):(ZcS n).length=n.nodes.length:=ZeT _ _ _
def ZmL (n:Ne.Net): ∀x∈ZcS n,0<=x/\x<(n.nodes.length:Int):=ZlJ _ _ _
def Zcl (n:Ne.Net):ZdS (ZcS n)=(Zaf n:Int)/\Zaf n<=n.nodes.length:=by
 have h:=ZjQ (l:=ZcS n) λx j=>(ZmL n x j).2;have e:ZdS (ZcS n)=(Zaf n:Int):=by rw[Zaf];omega
 exact⟨e,by omega⟩
def ZkT {n:Ne.Net} {i:Nat} (hi:i<n.nodes.length): ∃b:Nat,(ZcS n)[i]? =some (b:Int)/\b<Zaf n:=by
 have I:=ZjD n;have j:i<(ZcS n).length:=by omega
 have h:=ZjQ (l:=ZcS n) λx C=>(ZmL n x C).2;have J:=ZmL n _ (XaI j);have R:=h.1 _ (XaI j);have U:=(Zcl n).1;refine⟨((ZcS n)[i]).toNat, ?_,by omega⟩;rw[Xad j];congr 1;omega
def ZdJ {n:Ne.Net} {s:Txt} (h:s∈n.nodes):(ZcS n)[plN n s]? =some ((bAt n s:Nat):Int)/\bAt n s<Zaf n:=by
 obtain⟨b,j,C⟩:=ZkT (Zfr h).2;have e:bAt n s=b:=by rw[bAt,Xan,j];exact Xac b
 rw[e];exact⟨j,C⟩
def ZxD {n:Ne.Net} (hf:Fine n):okL (Zaf n) (n.brs.map (brE n))/\(n.brs.map (brE n)).length<=64:=by refine⟨λx j=> ?_, ?_⟩;obtain⟨b,C,rfl⟩:=XaU.1 j;have h:=Zo3 hf C;exact⟨(ZdJ h.1).2,(ZdJ h.2.1).2⟩;have I:=(ZaC hf).2.2.1;rw[XaG];omega
def ZdQ (n:Ne.Net):(Zbp n).length=Zaf n:=ZeT _ _ _
def Zkg (n:Ne.Net): ∀x∈Zbp n,0<=x/\x<(Zaf n:Int):=ZlJ _ _ _
variable {bb:Bool}
def Zu4 (i:Nat) (c:UInt8):Bool:=ZBQ c||(decide (0<i)&&Zwp c)
def ZCX (i:Nat) (c:UInt8):Zu4 i c=((decide ((c.toNat:Int)≥(65:Int))&&decide ((c.toNat:Int)<=(90:Int)))||(decide ((i:Int)>(0:Int))&&(decide ((c.toNat:Int)≥(48:Int))&&decide ((c.toNat:Int)<=(57:Int))))):=by unfold Zu4 ZBQ Zwp;rw[Bool.eq_iff_iff];simp only[Xb2,Xah,decide_eq_true_eq];omega
def ZzQ {s:Txt} (h: ∀j (C:j<s.length),Zu4 j s[j]=true):Zcf s=(decide (1<=s.length)&&decide (s.length<=8)):=by cases s with|nil=>rfl|cons c r=>have I:=h 0 (Nat.succ_pos _);have J:ZBQ c=true:=(by simpa[Zu4]using I);have R:(r.all λc=>ZBQ c||Zwp c)=true:=(by rw[Xaw];intro x U;obtain⟨j,C,rfl⟩:=List.getElem_of_mem U;have:=h (j+1) (Nat.succ_lt_succ C);simpa[Zu4]using this);rw[Zcf,J,R,Bool.and_true,Bool.and_true,Xaq,Bool.eq_iff_iff];simp
def ZAv {s:Txt} {j:Nat} (I:j<s.length) (h:Zu4 j s[j]=false):Zcf s=false:=by cases s with|nil=>exact absurd I (Xa1 j)|cons c r=>rw[Zcf];cases j with|zero=>have C:ZBQ c=false:=(by simpa[Zu4]using h);rw[C];simp|succ j=>have C:(r.all λc=>ZBQ c||Zwp c)=false:=(by rw[List.all_eq_false];exact⟨r[j]'(Nat.lt_of_succ_lt_succ I),XaI _,by simpa[Zu4]using h⟩);rw[C];simp
def ZAn {s:Txt} {i:Nat} (h:i<s.length):(ZiX s)[(i:Int).toNat]? =some ((s[i].toNat:Nat):Int):=by rw[Xac,ZiX,XaC,Xad h];rfl
def ZBG (s:Txt) (hs:s.length<=9223372036854775806):PureOK prog (Zbw bb) 35 [.v .s s] (λV=>V= .v .b (Zcf s)):=by
 refine Zad Zab func35 ?_;have U:(ZiX s).length=s.length:=XaG _;refine auG ?_;refine auG ?_;refine Zap Zab rfl (λ(i:Nat)=> [(0, .v .s s),(6, .v (.l (.i .u8)) (ZiX s)),(7,nt s.length),(8,nt i)]) (λ_=> []) (λi=>i<=s.length/\ ∀j (I:j<s.length),j<i->Zu4 j s[j]=true) (λi=>s.length-i) ?_ 0 ⟨Xap _,λj _ h=>absurd h (Xa1 j)⟩ (Zae ⟨rfl,rfl,congrArg (λx=>some (SV.v (.i .i64) x)) (congrArg Int.ofNat U),rfl,trivial⟩);rintro i ⟨hi,J⟩;cases h0:decide ((i:Int)<(s.length:Int))with
 |false=>have e:i=s.length:=(by have:=of_decide_eq_false h0;omega);have hn:=ZzQ λj I=>J j I (by omega);cases g1:decide ((s.length:Int)≥(1:Int))<;>refine axT ?_<;>refine congrArg (λx=>SV.v .b x) ?_<;>rw[hn,Bool.eq_iff_iff]<;>simp only[Xah,decide_eq_true_eq,decide_eq_false_iff_not,XaO]at g1|- <;>first|omega|exact⟨False.elim,λh=>by omega⟩
 |true=>
  have C:i<s.length:=(by have:=of_decide_eq_true h0;omega);have gx:=ZAn C;have wi:i64.wrap ((i:Int)+1)=((i+1:Nat):Int):=Zat (by omega) (by omega);have okN:Zu4 i s[i]=true->i+1<=s.length/\ ∀j (I:j<s.length),j<i+1->Zu4 j s[j]=true:=λh=>⟨C,λj I aa=>by by_cases e:j=i;subst e;exact h;exact J j I (by omega)⟩
  have R:Zu4 i s[i]=false->Zcf s=false:=ZAv C;obtain⟨c,ec⟩: ∃x,s[i]=x:=⟨_,rfl⟩;rw[ec]at gx okN R;have hc:=ZCX i c;refine axT ?_;cases h1:decide ((c.toNat:Int)≥(65:Int))<;>cases h2:decide ((c.toNat:Int)<=(90:Int))<;>cases h3:decide ((i:Int)>(0:Int))<;>cases h4:decide ((c.toNat:Int)≥(48:Int))<;>cases h5:decide ((c.toNat:Int)<=(57:Int))<;>refine axT ?_<;>rw[h1,h2,h3,h4,h5]at hc<;>first
  |exact⟨i+1,okN hc,by show s.length-(i+1)<s.length-i;omega,Zae ⟨rfl,rfl,rfl,congrArg (λx=>some (SV.v (.i .i64) x)) wi,trivial⟩⟩
  |(refine Za2 ?_
    repeat (first|refine ZaL ?_|refine ZaN ?_|refine ZaE ?_)
    exact congrArg (λx=>SV.v .b x) (R hc).symm)
variable {bb:Bool}
def Zoc (s:Txt): ∀ks:List Txt,ZuY s ks=ZdF s ks
 | []=>rfl
 |k::r=>by rw[ZuY,ZdF,Zoc s r]
abbrev Zla (name:Txt) (ns:List Txt):Ne.Item:=(name,ns,decide (ns.length=2),false)
def ZrH {α:Type} {l r:List α} {i:Nat} {x y:α} (h:nth l i=some y):(l++r).set i x=l.set i x++r:=by rw[List.set_append_left _ _ (Zje h)]
def Zef {α:Type} {l r:List α} {i:Nat} {y:α} (h:nth l i=some y):nth (l++r) i=some y:=by have j:=Zje h;rw[ZaK]at h|-;rw[Xam j,h]
def ZdR {α:Type} {a:List α} {x:α} {r:List α}:nth (a++x::r) a.length=some x:=by rw[ZaK,Xaz (Xag _),XbI];rfl
def ZBU {P:Program} {h:Hints} {T:TypeId->TI} {F:Nat} {c:Cx} {b:Code} {tm:TM} {hp hp':List SM} {k:Ex->TM->List SM->Prop} (e:hp=hp') (hw:wp P h T F c b tm hp' k):wp P h T F c b tm hp k:=e▸hw
def Zsq {α:Type} {l:List α} {i:Nat} {x y:α} (h:nth l i=some y):nth (l.set i x) i=some x:=by rw[ZaK,XaE (Zje h)]
def vDv (nodes:List Txt) (L j n i:Nat):TM:=[(2, .ref j 0 n none),(3, .ptr L 0 0),(21, .ref j 0 n none),(22,nt n),(23,nt i)]
def ZAN (hp:List SM) (R L j base:Nat) (nodes ns:List Txt) (hn:nodes.length<=1000) (aa:ns.length<=1000) (U:nth hp L=some (.cell [.mp R, .v (.l .s) nodes] true)) (hr:nth hp j=some (.row .s ns true)) (F:Nat):
 LoopOK prog (Zbw bb) F ⟨22,base,45⟩ (Za6 Tryz.f22 7) (vDv nodes L j ns.length 0) hp
 (λe tm hp'=>(e= .exit 1/\(ns.all λs=>ZdF s nodes)=true/\Ent F tm hp' [(2, .ref j 0 ns.length none),(3, .ptr L 0 0)] hp)\/(e= .ret/\(ns.all λs=>ZdF s nodes)=false/\Ent F tm hp' [(6, .v (.i .i64) (6:Int))] hp)):=by refine Zap Zab rfl (vDv nodes L j ns.length) (λ_=>hp) (λi=>i<=ns.length/\(ns.all λs=>ZdF s nodes)=((ns.drop i).all λs=>ZdF s nodes)) (λi=>ns.length-i) ?_ 0 ⟨Xap _,rfl⟩ Zar;rintro i ⟨hi,he⟩;cases J:decide ((i:Int)<(ns.length:Int))with|false=>have e:i=ns.length:=(by have:=of_decide_eq_false J;omega);refine auG ?_;refine brF J ?_;exact .inl ⟨rfl,by rw[he,e,Xbt];rfl,Zae ⟨rfl,rfl,trivial⟩⟩|true=>have C:i<ns.length:=(by have:=of_decide_eq_true J;omega);have ci:=cin C;have gx:ns[0+(i:Int).toNat]? =some ns[i]:=(by rw[Xac,Xak];exact Xad C);have I:((ns.drop i).all λs=>ZdF s nodes)=(ZdF ns[i] nodes&&(ns.drop (i+1)).all λs=>ZdF s nodes):=(by rw[XaL C,XbM]);obtain⟨x,ex⟩: ∃x,ns[i]=x:=⟨_,rfl⟩;rw[ex]at gx I;have hC:=ZdG (bb:=bb) nodes x hn;refine auG ?_;refine brT J ?_;refine ZpR ?_;refine Zac rfl (Zam rfl rfl rfl rfl rfl hr rfl ci ?_);refine Zaa rfl rfl ?_;refine Zac rfl (Zau rfl rfl hr gx rfl ?_);refine Zaa rfl rfl ?_;refine auN ?_;cases h2:ZdF x nodes with|true=>rw[h2]at hC I;refine auH ?_;refine Zac rfl (ZaZ rfl rfl U rfl rfl ?_);refine Zaa rfl rfl ?_;refine auN ?_;refine brF rfl ?_;refine auG ?_;refine⟨i+1,⟨C,he.trans I⟩,by show ns.length-(i+1)<ns.length-i;omega, ?_⟩;exact Zae ⟨rfl,rfl,rfl,rfl,congrArg (λx=>some (SV.v (.i .i64) x)) (Zbd (by omega)),trivial⟩|false=>rw[h2]at hC I;refine auH ?_;refine Zac rfl (ZaZ rfl rfl U rfl rfl ?_);refine Zaa rfl rfl ?_;refine auN ?_;refine brT rfl ?_;refine auG ?_;refine Za2 ?_;(repeat (first|refine ZaL ?_|refine ZaN ?_|refine ZaE ?_));exact .inr ⟨rfl,he.trans I,Zae ⟨rfl,trivial⟩⟩
def ZI6 (hp:List SM) (j:Nat) (nodes ks:List Txt) (name:Txt) (ns:List Txt) (V:SV) (hp':List SM):Prop:=
 V= .v (.i .i64) (ZeE nodes ks (Zla name ns))/\(ZeE nodes ks (Zla name ns)=0-> ∃ex,hp'=hp.set j (.set (ks++ [name]))++ex)
def ZtP {nodes ks:List Txt} {it:Ne.Item} (h:Zcf it.1=false):ZeE nodes ks it=5:=by rw[ZeE,h];rfl
def ZsZ {nodes ks:List Txt} {it:Ne.Item} (h:Zcf it.1=true) (j:ZdF it.1 ks=true):ZeE nodes ks it=7:=by rw[ZeE,h,j];rfl
def Zzt {nodes ks:List Txt} {it:Ne.Item} (h:Zcf it.1=true) (j:ZdF it.1 ks=false) (C:(it.2.1.all λs=>ZdF s nodes)=false):ZeE nodes ks it=6:=by rw[ZeE,h,j,C];rfl
def Zn7 {nodes ks:List Txt} {it:Ne.Item} (h:Zcf it.1=true) (j:ZdF it.1 ks=false) (C:(it.2.1.all λs=>ZdF s nodes)=true):ZeE nodes ks it=bif it.2.2.1&&(it.2.1.getD 0 []==it.2.1.getD 1 [])then 3 else bif it.2.2.2 then 4 else 0:=by rw[ZeE,h,j,C];rfl
def Ztc (hp:List SM) (j J:Nat) (nodes ks:List Txt) (name:Txt) (ns:List Txt) (hs:name.length<=9223372036854775806) (hn:nodes.length<=1000) (ab:ns.length<=1000) (hm:nth hp j=some (.set ks)) (hr:nth hp J=some (.row .s ns true)) (ah:J≠j):
 OpenOK prog (Zbw bb) 22 [.agg [.mp j, .v (.l .s) nodes], .v .s name, .ref J 0 ns.length none] hp (ZI6 hp j nodes ks name ns):=by
 refine ZbH (fn:=Tryz.f22) (code:=bodyOf Tryz.f22) Zab (by kernel_rfl) func22 (by kernel_rfl) (Xao (by kernel_rfl)) ?_;intro base;have hN:=ZBG (bb:=bb) name hs;have R:nth (hp++ [SM.cell [.mp j, .v (.l .s) nodes] true]) hp.length=some (.cell [.mp j, .v (.l .s) nodes] true):=ZdR;have U:nth (hp++ [SM.cell [.mp j, .v (.l .s) nodes] true]) j=some (.set ks):=Zef hm;cases h1:Zcf name with
 |false=>rw[h1]at hN;have C:=ZtP (nodes:=nodes) (ks:=ks) (it:=Zla name ns) h1;refine auG ?_;refine auG ?_;refine brT rfl ?_;refine auG ?_;exact⟨congrArg (λx=>SV.v (.i .i64) x) C.symm,λh=>by rw[C]at h;cases h⟩
 |true=>
  rw[h1]at hN;cases h2:ZuY name ks with
  |true=>have C:=ZsZ (nodes:=nodes) (it:=Zla name ns) h1 ((Zoc name ks).symm.trans h2);refine auG ?_;refine auG ?_;refine brF rfl ?_;refine auH ?_;refine Zac rfl (ZaZ rfl rfl R rfl rfl ?_);refine Zaa rfl rfl ?_;refine ZfJ ?_;refine Zac rfl (ZHx rfl rfl rfl rfl U ?_);refine Zaa rfl rfl ?_;refine auN ?_;refine brT h2 ?_;refine auG ?_;exact⟨congrArg (λx=>SV.v (.i .i64) x) C.symm,λh=>by rw[C]at h;cases h⟩
  |false=>
   have ad:ZdF name ks=false:=(Zoc name ks).symm.trans h2;have ae:(hp++ [SM.cell [.mp j, .v (.l .s) nodes] true]).set j (.set (ZyY name ks))=hp.set j (.set (ks++ [name]))++ [.cell [.mp j, .v (.l .s) nodes] true]:=(by rw[ZrH hm,Zmz h2]);have ai:nth (hp.set j (.set (ks++ [name]))++ [SM.cell [.mp j, .v (.l .s) nodes] true]) hp.length=some (.cell [.mp j, .v (.l .s) nodes] true):=(by have:=ZdR (a:=hp.set j (SM.set (ks++ [name]))) (x:=SM.cell [.mp j, .v (.l .s) nodes] true) (r:=[]);rwa[XaB]at this);have I:nth (hp.set j (.set (ks++ [name]))++ [SM.cell [.mp j, .v (.l .s) nodes] true]) J=some (.row .s ns true):=Zef (by rw[ZoZ λe=>ah e.symm];exact hr);have aa:=ZAN (bb:=bb) (hp.set j (.set (ks++ [name]))++ [SM.cell [.mp j, .v (.l .s) nodes] true]) j hp.length J base nodes ns hn ab ai I hp.length;have af:=Zn7 (nodes:=nodes) (it:=Zla name ns) h1 ad;have ag:=Zzt (nodes:=nodes) (it:=Zla name ns) h1 ad;refine auG ?_;refine auG ?_;refine brF rfl ?_;refine auH ?_;refine Zac rfl (ZaZ rfl rfl R rfl rfl ?_);refine Zaa rfl rfl ?_;refine ZfJ ?_;refine Zac rfl (ZHx rfl rfl rfl rfl U ?_);refine Zaa rfl rfl ?_;refine auN ?_;refine brF h2 ?_;refine auH ?_;refine Zac rfl (ZaZ rfl rfl R rfl rfl ?_);refine Zaa rfl rfl ?_;refine ZfJ ?_;refine Zac rfl (ZIX rfl rfl rfl rfl rfl U ?_);refine Zal rfl ?_;refine Zc2 ?_;refine auG ?_;refine ZBU ae ?_;refine(aa.ent ?_).through ?_;exact Zae ⟨rfl,rfl,rfl,rfl,rfl,trivial⟩;rintro _ tm hp' (⟨rfl,ha,hE⟩|⟨rfl,ha,hE⟩);refine⟨_,_,hE, ?_⟩;show wp _ _ _ _ _ _ _ _ _;have C:=af ha;match ns,ab,hr,I,ha,C with| [a,b],_,_,I,ha,C=>(have c0:(0:Int)<=(0:Int)/\(0:Int)<((2:Nat):Int):=(by omega);have c1:(0:Int)<=(1:Int)/\(1:Int)<((2:Nat):Int):=(by omega);have C:ZeE nodes ks (Zla name [a,b])=bif a==b then 3 else 0:=C;cases h5:(a==b)with|true=>rw[h5]at C;refine auH ?_;refine ZaX rfl rfl rfl rfl (Zam rfl rfl rfl rfl rfl I rfl c0 ?_);refine Zaa rfl rfl ?_;refine ZaX rfl rfl rfl rfl (Zau rfl rfl I rfl rfl ?_);refine Zaa rfl rfl ?_;refine Zfu rfl ?_;refine ZaX rfl rfl rfl rfl (Zam rfl rfl rfl rfl rfl I rfl c1 ?_);refine Zaa rfl rfl ?_;refine ZaX rfl rfl rfl rfl (Zau rfl rfl I rfl rfl ?_);refine Zaa rfl rfl ?_;refine auN ?_;refine brT h5 ?_;refine auG ?_;exact⟨congrArg (λx=>SV.v (.i .i64) x) C.symm,λh=>by rw[C]at h;cases h⟩|false=>rw[h5]at C;refine auH ?_;refine ZaX rfl rfl rfl rfl (Zam rfl rfl rfl rfl rfl I rfl c0 ?_);refine Zaa rfl rfl ?_;refine ZaX rfl rfl rfl rfl (Zau rfl rfl I rfl rfl ?_);refine Zaa rfl rfl ?_;refine Zfu rfl ?_;refine ZaX rfl rfl rfl rfl (Zam rfl rfl rfl rfl rfl I rfl c1 ?_);refine Zaa rfl rfl ?_;refine ZaX rfl rfl rfl rfl (Zau rfl rfl I rfl rfl ?_);refine Zaa rfl rfl ?_;refine auN ?_;refine brF h5 ?_;refine auG ?_;exact⟨congrArg (λx=>SV.v (.i .i64) x) C.symm,λ_=>⟨_,rfl⟩⟩)| [],_,_,_,_,C=>refine auG ?_;refine brF rfl ?_;refine auG ?_;exact⟨congrArg (λx=>SV.v (.i .i64) x) C.symm,λ_=>⟨_,rfl⟩⟩| [_],_,_,_,_,C=>refine auG ?_;refine brF rfl ?_;refine auG ?_;exact⟨congrArg (λx=>SV.v (.i .i64) x) C.symm,λ_=>⟨_,rfl⟩⟩|a::b::c::r,_,_,_,_,C=>have h6:decide (((a::b::c::r).length:Int)=(2:Int))=false:=(by rw[decide_eq_false_iff_not,Xaq,Xaq,Xaq];omega);have h7:decide ((a::b::c::r).length=2)=false:=(by rw[decide_eq_false_iff_not,Xaq,Xaq,Xaq];omega);have C:ZeE nodes ks (Zla name (a::b::c::r))=0:=(by rw[C];show(bif decide ((a::b::c::r).length=2)&&_ then(3:Int)else _)=0;rw[h7];rfl);refine auG ?_;refine brF rfl ?_;refine auG ?_;exact⟨congrArg (λx=>SV.v (.i .i64) x) C.symm,λ_=>⟨_,rfl⟩⟩
   have C:=ag ha;refine⟨_,_,hE, ?_⟩;exact⟨congrArg (λx=>SV.v (.i .i64) x) C.symm,λh=>by rw[C]at h;cases h⟩
variable {bb:Bool}
def ZyO (hp:List SM) (j:Nat) (nodes ks:List Txt) (name:Txt) (hs:name.length<=9223372036854775806) (hm:nth hp j=some (.set ks)):
 OpenOK prog (Zbw bb) 22 [.agg [.mp j, .v (.l .s) nodes], .v .s name, .nils] hp (ZI6 hp j nodes ks name []):=by refine ZbH (fn:=Tryz.f22) (code:=bodyOf Tryz.f22) Zab (by kernel_rfl) func22 (by kernel_rfl) (Xao (by kernel_rfl)) ?_;intro base;have hN:=ZBG (bb:=bb) name hs;have C:nth (hp++ [SM.cell [.mp j, .v (.l .s) nodes] true]) hp.length=some (.cell [.mp j, .v (.l .s) nodes] true):=ZdR;have I:nth (hp++ [SM.cell [.mp j, .v (.l .s) nodes] true]) j=some (.set ks):=Zef hm;cases R:Zcf name with|false=>rw[R]at hN;have J:=ZtP (nodes:=nodes) (ks:=ks) (it:=Zla name []) R;refine auG ?_;refine auG ?_;refine brT rfl ?_;refine auG ?_;exact⟨congrArg (λx=>SV.v (.i .i64) x) J.symm,λh=>by rw[J]at h;cases h⟩|true=>rw[R]at hN;cases U:ZuY name ks with|true=>have J:=ZsZ (nodes:=nodes) (it:=Zla name []) R ((Zoc name ks).symm.trans U);refine auG ?_;refine auG ?_;refine brF rfl ?_;refine auH ?_;refine Zac rfl (ZaZ rfl rfl C rfl rfl ?_);refine Zaa rfl rfl ?_;refine ZfJ ?_;refine Zac rfl (ZHx rfl rfl rfl rfl I ?_);refine Zaa rfl rfl ?_;refine auN ?_;refine brT U ?_;refine auG ?_;exact⟨congrArg (λx=>SV.v (.i .i64) x) J.symm,λh=>by rw[J]at h;cases h⟩|false=>have ab:ZdF name ks=false:=(Zoc name ks).symm.trans U;have aa:(hp++ [SM.cell [.mp j, .v (.l .s) nodes] true]).set j (.set (ZyY name ks))=hp.set j (.set (ks++ [name]))++ [.cell [.mp j, .v (.l .s) nodes] true]:=(by rw[ZrH hm,Zmz U]);have J:ZeE nodes ks (Zla name [])=0:=Zn7 (nodes:=nodes) (it:=Zla name []) R ab rfl;refine auG ?_;refine auG ?_;refine brF rfl ?_;refine auH ?_;refine Zac rfl (ZaZ rfl rfl C rfl rfl ?_);refine Zaa rfl rfl ?_;refine ZfJ ?_;refine Zac rfl (ZHx rfl rfl rfl rfl I ?_);refine Zaa rfl rfl ?_;refine auN ?_;refine brF U ?_;refine auH ?_;refine Zac rfl (ZaZ rfl rfl C rfl rfl ?_);refine Zaa rfl rfl ?_;refine ZfJ ?_;refine Zac rfl (ZIX rfl rfl rfl rfl rfl I ?_);refine Zal rfl ?_;refine Zc2 ?_;refine auG ?_;refine ZBU aa ?_;refine Zap Zab rfl (λ(_:Unit)=> [(2, .nils),(21, .nils),(22,nt 0),(23,nt 0)]) (λ_=>hp.set j (.set (ks++ [name]))++ [SM.cell [.mp j, .v (.l .s) nodes] true]) (λ_=>True) (λ_=>0) ?_ () trivial (Zae ⟨rfl,rfl,rfl,rfl,trivial⟩);rintro _ _;refine auG ?_;refine brF rfl ?_;refine auG ?_;refine brF rfl ?_;refine auG ?_;exact⟨congrArg (λx=>SV.v (.i .i64) x) J.symm,λ_=>⟨_,rfl⟩⟩
section
variable {α:Type} (f:α->Ne.Item) (ks0:List Txt) (l:List α)
def ZcC (i:Nat):List Txt:=ks0++(l.take i).map λx=>(f x).1
variable {f ks0 l}
def Zht {i:Nat} {x:α} (j:l[i]? =some x):ZcC f ks0 l i++ [(f x).1]=ZcC f ks0 l (i+1):=by rw[ZcC,ZcC,Xa2,List.take_add_one,j];simp
def ZnK {i:Nat} (h:i=l.length):ZcC f ks0 l i=ks0++l.map λx=>(f x).1:=by rw[ZcC,XaA (by omega)]
def Zq4 {nodes:List Txt} {i:Nat} {x:α} (j:l[i]? =some x) (e:ZeE nodes (ZcC f ks0 l i) (f x)=0):
 Zbt nodes (ZcC f ks0 l i) ((l.drop i).map f)=Zbt nodes (ZcC f ks0 l (i+1)) ((l.drop (i+1)).map f):=by obtain⟨hi,rfl⟩:=Xae.1 j;rw[XaL hi,XaX,Zbt,decide_eq_true e,<-Zht j]
def ZhO {nodes:List Txt} {i:Nat} {x:α} (j:l[i]? =some x) (e:ZeE nodes (ZcC f ks0 l i) (f x)≠0):
 Zbt nodes (ZcC f ks0 l i) ((l.drop i).map f)=ZeE nodes (ZcC f ks0 l i) (f x):=by obtain⟨hi,rfl⟩:=Xae.1 j;rw[XaL hi,XaX,Zbt,decide_eq_false e]
end
def hB (j:List SV) (nodes ks:List Txt):List SM:=[.cell j true, .set ks, .cell [.mp 1, .v (.l .s) nodes] true]
def ZBb {j:List SV} {nodes ks:List Txt} (C:rchL j=[]): ∀m∈hB j nodes ks,∀id∈Zes m,id<3:=by
 intro m hm id hid;simp only[hB,Xau,Xav,or_false]at hm;rcases hm with rfl|rfl|rfl;rw[Zes,C]at hid;exact absurd hid Xav;exact absurd hid Xav;have h:id=1:=by simpa[Zes,rchL,ZdI]using hid
 omega
def vNo (nodes:List Txt) (i:Nat):TM:=[(1, .ptr 0 0 0),(3, .ptr 2 0 0),(53, .v (.l .s) nodes),(54,nt nodes.length),(55,nt i)]
def ZC8 (j:List SV) (nodes:List Txt) (hr:rchL j=[]) (hn:nodes.length<=1000) (hs: ∀x∈nodes,x.length<=9223372036854775806):
 LoopOK prog (Zbw bb) 0 ⟨9,0,114⟩ (Za6 Tryz.f9 5) (vNo nodes 0) (hB j nodes [])
 (λe tm hp'=>(e= .exit 0/\Zbt nodes [] (nodes.map noI)=0/\Ent 0 tm hp' [(1, .ptr 0 0 0),(3, .ptr 2 0 0)] (hB j nodes nodes))\/(e= .ret/\Zbt nodes [] (nodes.map noI)≠0/\Ent 0 tm hp' [(2, .v (.i .i64) (Zbt nodes [] (nodes.map noI)))] [])):=by refine Zap Zab rfl (vNo nodes) (λi=>hB j nodes (ZcC noI [] nodes i)) (λi=>i<=nodes.length/\Zbt nodes [] (nodes.map noI)=Zbt nodes (ZcC noI [] nodes i) ((nodes.drop i).map noI)) (λi=>nodes.length-i) ?_ 0 ⟨Xap _,rfl⟩ Zar;rintro i ⟨hi,he⟩;cases R:decide ((i:Int)<(nodes.length:Int))with|false=>have e:i=nodes.length:=(by have:=of_decide_eq_false R;omega);have e0:Zbt nodes [] (nodes.map noI)=0:=(by rw[he,e,Xbt];rfl);have em:ZcC noI [] nodes i=nodes:=(by rw[ZnK e];exact List.map_id' nodes);refine auG ?_;refine brF R ?_;refine .inl ⟨rfl,e0, ?_⟩;rw[em];exact Zae ⟨rfl,rfl,trivial⟩|true=>have I:i<nodes.length:=(by have:=of_decide_eq_true R;omega);have C:nodes[i]? =some nodes[i]:=Xad I;have gx:nodes[(i:Int).toNat]? =some nodes[i]:=(by rw[Xac];exact C);have hx:nodes[i].length<=9223372036854775806:=hs _ (XaI I);obtain⟨x,ex⟩: ∃x,nodes[i]=x:=⟨_,rfl⟩;rw[ex]at gx C hx;have aa:nth (hB j nodes (ZcC noI [] nodes i)) 2=some (.cell [.mp 1, .v (.l .s) nodes] true):=rfl;have hD:=ZyO (bb:=bb) (hB j nodes (ZcC noI [] nodes i)) 1 nodes (ZcC noI [] nodes i) x hx rfl;refine auG ?_;refine brT R ?_;refine auG ?_;refine ZpR ?_;refine Zac rfl (ZaZ rfl rfl aa rfl rfl ?_);refine Zaa rfl rfl ?_;refine ZfJ ?_;refine Zac rfl ((hD.mono ?_));rintro _ hp' ⟨rfl,hX⟩;refine Zaa rfl rfl ?_;refine auN ?_;cases U:decide (ZeE nodes (ZcC noI [] nodes i) (Zla x [])=0)with|true=>have J:=of_decide_eq_true U;have hc:(!decide (ZeE nodes (ZcC noI [] nodes i) (Zla x [])=0))=false:=(by rw[U];rfl);refine auG ?_;refine brF hc ?_;refine auG ?_;refine⟨i+1,⟨I,he.trans (Zq4 C J)⟩,by show nodes.length-(i+1)<nodes.length-i;omega, ?_⟩;obtain⟨ex,rfl⟩:=hX J;have em:(hB j nodes (ZcC noI [] nodes i)).set 1 (.set (ZcC noI [] nodes i++ [x]))=hB j nodes (ZcC noI [] nodes (i+1)):=congrArg (hB j nodes) (Zht (f:=noI) C);rw[em];exact ZcL (Xap _) ⟨rfl,ZbQ (by show 0<3;omega),rfl,ZbQ (by show 2<3;omega),rfl,ZaJ,rfl,ZaJ,congrArg (λx=>some (SV.v (.i .i64) x)) (Zbd (by omega)),ZaJ,trivial⟩ (ZBb hr)|false=>have J:=of_decide_eq_false U;have hc:(!decide (ZeE nodes (ZcC noI [] nodes i) (Zla x [])=0))=true:=(by rw[U];rfl);refine auG ?_;refine brT hc ?_;refine auG ?_;refine Za2 ?_;(repeat (first|refine ZaL ?_|refine ZaN ?_|refine ZaE ?_));have e3:=he.trans (ZhO C J);exact .inr ⟨rfl,λh=>J (e3.symm.trans h),ZbW ⟨congrArg (λx=>some (SV.v (.i .i64) x)) e3.symm,rfl,trivial⟩⟩
abbrev ZlS:CT:= .p .s (.p .s (.p .s (.p .b .b)))
def Zsc {nodes ks:List Txt} {name:Txt} {ns:List Txt} {bad:Bool}:ZeE nodes ks (name,ns,decide (ns.length=2),bad)=Zfa (ZeE nodes ks (Zla name ns)) (bif bad then 4 else 0):=by simp only[ZeE];generalize Zcf name=j;generalize ZdF name ks=b2;generalize(ns.all λs=>ZdF s nodes)=C;generalize(decide (ns.length=2)&&(ns.getD 0 []==ns.getD 1 []))=I;cases j<;>cases b2<;>cases C<;>cases I<;>rfl
abbrev ZiZ:CT:= .p .s (.p .s (.p .s (.p (.i .i64) (.p (.i .i64) (.p (.i .i64) (.p (.i .i64) (.p (.i .i64) (.i .i64))))))))
def rsB:Bool->CT
 |false=> .p .b .b
 |true=> .p (.i .i64) (.p (.i .i64) (.p (.i .i64) (.p (.i .i64) (.p (.i .i64) (.i .i64)))))
abbrev ctB (b:Bool):CT:= .p .s (.p .s (.p .s (rsB b)))
def ZIk:(b:Bool)->(ctB b).D->Bool
 |false=>λ_=>false
 |true=>Zm1
def itB (b:Bool) (x:(ctB b).D):Ne.Item:=(x.1,[x.2.1,x.2.2.1],true,ZIk b x)
def nrB:Bool->Nat×Nat×Nat
 |false=>(12,2,67)
 |true=>(19,4,87)
def vBn (b:Bool) (l:List (ctB b).D) (i:Nat):TM:=[(1, .ptr 0 0 0),(3, .ptr 2 0 0),((nrB b).2.2, .v (.l (ctB b)) l),((nrB b).2.2+1,nt l.length),((nrB b).2.2+2,nt i)]
def ZBB (b:Bool) (j:List SV) (nodes ks:List Txt) (l:List (ctB b).D) (hr:rchL j=[]) (hn:nodes.length<=1000) (hl:l.length<=1000) (hs: ∀x∈l,x.1.length<=9223372036854775806):
 LoopOK prog (Zbw bb) 0 ⟨9,0,114⟩ (Za6 Tryz.f9 (nrB b).1) (vBn b l 0) (hB j nodes ks)
 (λe tm hp'=>(e= .exit (nrB b).2.1/\Zbt nodes ks (l.map (itB b))=0/\Ent 0 tm hp' [(1, .ptr 0 0 0),(3, .ptr 2 0 0)] (hB j nodes (ks++l.map (·.1))))\/(e= .ret/\Zbt nodes ks (l.map (itB b))≠0/\Ent 0 tm hp' [(2, .v (.i .i64) (Zbt nodes ks (l.map (itB b))))] [])):=by
 refine Zap Zab (by cases b<;>rfl) (vBn b l) (λi=>hB j nodes (ZcC (itB b) ks l i)) (λi=>i<=l.length/\Zbt nodes ks (l.map (itB b))=Zbt nodes (ZcC (itB b) ks l i) ((l.drop i).map (itB b))) (λi=>l.length-i) ?_ 0 ⟨Xap _,by rw[ZcC,XbK,List.map_nil,XaN,XaV]⟩ ?_;case refine_2=>
  have e0:ZcC (itB b) ks l 0=ks:=by rw[ZcC,XbK,List.map_nil,XaN]
  rw[e0];exact Zar
 rintro i ⟨hi,he⟩;cases h1:decide ((i:Int)<(l.length:Int))with
 |false=>have e:i=l.length:=(by have:=of_decide_eq_false h1;omega);have e0:Zbt nodes ks (l.map (itB b))=0:=(by rw[he,e,Xbt];rfl);have em:ZcC (itB b) ks l i=ks++l.map (·.1):=ZnK e;cases b<;>refine axT ?_<;>refine .inl ⟨rfl,e0, ?_⟩<;>rw[em]<;>exact eK
 |true=>
  have J:i<l.length:=(by have:=of_decide_eq_true h1;omega);have I:l[i]? =some l[i]:=Xad J;have gx:l[(i:Int).toNat]? =some l[i]:=(by rw[Xac];exact I);have hx:l[i].1.length<=9223372036854775806:=hs _ (XaI J);obtain⟨x,ex⟩: ∃x,l[i]=x:=⟨_,rfl⟩;rw[ex]at gx I hx;have hD:=Ztc (bb:=bb) [.cell j true, .set (ZcC (itB b) ks l i), .cell [.mp 1, .v (.l .s) nodes] true, .cell (Zbf (ctB b) x) true, .row .s [x.2.1,x.2.2.1] true] 1 4 nodes (ZcC (itB b) ks l i) x.1 [x.2.1,x.2.2.1] hx hn (Xao rfl) rfl rfl (by decide);have C:ZeE nodes (ZcC (itB b) ks l i) (itB b x)=Zfa (ZeE nodes (ZcC (itB b) ks l i) (Zla x.1 [x.2.1,x.2.2.1])) (bif ZIk b x then 4 else 0):=Zsc;have em: ∀A B ex,[SM.cell j true, .set (ZcC (itB b) ks l i), .cell [.mp 1, .v (.l .s) nodes] true,A,B].set 1 (.set (ZcC (itB b) ks l i++ [x.1]))++ex=hB j nodes (ZcC (itB b) ks l (i+1))++(A::B::ex):=λA B ex=>congrArg (λz=>hB j nodes z++(A::B::ex)) (Zht (f:=itB b) I)
  cases U:decide (ZeE nodes (ZcC (itB b) ks l i) (Zla x.1 [x.2.1,x.2.2.1])=0)with
  |true=>
   have e2:=of_decide_eq_true U;rw[Zfa,U]at C;cases b;all_goals
    refine axT ?_
    refine Zac rfl (hD.mono ?_)
    rintro _ hp' ⟨rfl,hX⟩
    refine Zaa rfl rfl ?_
    obtain⟨ex,rfl⟩:=hX e2
   (rotate_left);have aa:=ZJx (bb:=bb) false x;cases h3:Zm1 x<;>rw[ZIk,h3]at C<;>rw[h3]at aa;all_goals
    refine axT ?_
    first
    |(have C:ZeE nodes (ZcC (itB _) ks l i) (itB _ x)=4:=C
      have R:=he.trans (ZhO I (by rw[C];decide))
      refine Za2 ?_
      repeat (first|refine ZaL ?_|refine ZaN ?_|refine ZaE ?_)
      exact .inr ⟨rfl,(λh=>by rw[R,C]at h;cases h),ZbW ⟨congrArg (λx=>some (SV.v (.i .i64) x)) (R.trans C).symm,rfl,trivial⟩⟩)
    |(have C:ZeE nodes (ZcC (itB _) ks l i) (itB _ x)=0:=C
      refine⟨i+1,⟨J,he.trans (Zq4 I C)⟩,by show l.length-(i+1)<l.length-i;omega, ?_⟩
      rw[em]
      exact ZcL (Xap _) ⟨rfl,ZbQ (by show 0<3;omega),rfl,ZbQ (by show 2<3;omega),rfl,ZaJ,rfl,ZaJ,congrArg (λx=>some (SV.v (.i .i64) x)) (Zbd (by omega)),ZaJ,trivial⟩ (ZBb hr))
  |false=>
   have e2:=of_decide_eq_false U;rw[Zfa,U]at C;have C:ZeE nodes (ZcC (itB b) ks l i) (itB b x)=ZeE nodes (ZcC (itB b) ks l i) (Zla x.1 [x.2.1,x.2.2.1]):=C;have R:=(he.trans (ZhO I (by rw[C];exact e2))).trans C;cases b;all_goals
    refine axT ?_
    refine Zac rfl (hD.mono ?_)
    rintro _ hp' ⟨rfl,hX⟩
    refine Zaa rfl rfl ?_
    refine axT ?_
    refine Za2 ?_
    repeat (first|refine ZaL ?_|refine ZaN ?_|refine ZaE ?_)
    exact .inr ⟨rfl,λh=>e2 (R.symm.trans h),ZbW ⟨congrArg (λx=>some (SV.v (.i .i64) x)) R.symm,rfl,trivial⟩⟩
end Go.Proofs.YtplkkbcnilnfaaaGreatDoor
