/- Matrices of own rows: two rows change places; a slice without memory seen as an empty row; a row that was built anew behind the matrix. -/
import Derived.Test.YtplkkbcnilnfaaaGreatDoorTxB
import Derived.Test.YtplkkbcnilnfaaaGreatDoorRows
set_option linter.all false
set_option maxRecDepth 100000
namespace Go.Tx
open Go.Am
section
variable {P:Program} {h:Hints} {T:TypeId->TI} {hp:List SM} {tm:TM}
def ZIN (ok:Nat->Prop) (tm:TM):TM->Prop
 | []=>True
 |(i,V')::r=>Zck i tm=some V'/\(∀id∈ZdI V',ok id)/\ZIN ok tm r
mutual
theorem ZBd {f:Nat->Nat}: ∀V:SV,(∀id∈ZdI V,f id=id)->rnV f V=V
 | .ref id i n m,j=>by rw[rnV,j id (by simp[ZdI])]
 | .ptr id i r,j=>by rw[rnV,j id (by simp[ZdI])]
 | .func g a c,j=>by simp only[ZdI,XaJ]at j;rw[rnV,rnL_ok a (λid hi=>j id (.inl hi)),rnL_ok c (λid hi=>j id (.inr hi))]
 | .agg cs,j=>by rw[rnV,rnL_ok cs (by simpa only[ZdI]using j)]
 | .tup cs,j=>by rw[rnV,rnL_ok cs (by simpa only[ZdI]using j)]
 | .v _ _,_| .nilp,_| .nils,_| .nilf,_| .nili,_| .nilmp,_| .box _ _ _,_| .cl _ _,_=>rfl
 | .mp id,j=>by rw[rnV,j id (by simp[ZdI])]
theorem rnL_ok {f:Nat->Nat}: ∀l:List SV,(∀id∈rchL l,f id=id)->rnL f l=l
 | [],_=>rfl
 |v::r,j=>by simp only[rchL,XaJ]at j;rw[rnL,ZBd v (λid hi=>j id (.inl hi)),rnL_ok r (λid hi=>j id (.inr hi))]
end
def ZoK {ok:Nat->Prop} {f:Nat->Nat} {n:Nat} (j: ∀id,ok id->f id=id/\id<n) {tm:TM}: ∀ {tm':TM},ZIN ok tm tm'->ZyK f n tm tm'
 | [],_=>trivial
 |(i,V')::r,⟨I,C,J⟩=>⟨by rw[ZBd V' λid hi=>(j id (C id hi)).1];exact I,λid hi=>(j id (C id hi)).2,ZoK j J⟩
def ZtQ {A:SM} {ct:CT} {xs:List (List ct.D)} {ex:List SM} {j:Nat} (C:j<xs.length):(A::(ZaU ct xs++ex))[j+1]? =some (.row ct xs[j] true):=by rw[XaP,Xam (by rw[Zaq];exact C),ZcH C]
def ZtF {A:SM} {ct:CT} {xs:List (List ct.D)} {ex:List SM} {j:Nat} (C:xs.length<=j):(A::(ZaU ct xs++ex))[j+1]? =ex[j-xs.length]? :=by rw[XaP,Xaz (by rw[Zaq];exact C),Zaq]
def swJ (a b j:Nat):Nat:=if j=a then b else if j=b then a else j
def ZBA {a b j n:Nat} (C:a<n) (I:b<n) (J:j<n):swJ a b j<n:=by
 unfold swJ;repeat' split
 all_goals omega
def ZyU {F:Nat} {tm tm':TM} {ct:CT} {ex:List SM} {xs ys:List (List ct.D)} {a b la lb:Nat} (ha:a<xs.length) (hb:b<xs.length) (af:xs[a].length=la) (ag:xs[b].length=lb) (hl:ys.length=xs.length)
 (hy: ∀j (h1:j<ys.length) (h2:swJ a b j<xs.length),ys[j]=xs[swJ a b j]) (hF:F<=1) (hex: ∀m∈ex,Zes m=[]) (ah:ZIN (λid=>id=0\/(xs.length<id/\id<xs.length+1+ex.length)) tm tm'):
 Ent F tm (.many (.l ct) (((Zaz 1 xs).set a (.ref (b+1) 0 lb none)).set b (.ref (a+1) 0 la none)) true::([]++(ZaU ct xs++ex))) tm' (.many (.l ct) (Zaz 1 ys) true::([]++(ZaU ct ys++ex))):=by
 subst af ag;rw[Xbl,Xbl];have hlen: ∀A:SM,(A::(ZaU ct ys++ex)).length=xs.length+1+ex.length:=λA=>by rw[Xaq,Xas,Zaq];omega
 have aa: ∀A:SM,(A::(ZaU ct xs++ex)).length=xs.length+1+ex.length:=λA=>by rw[Xaq,Xas,Zaq];omega
 let f:Nat->Nat:=λj=>match j with|0=>0|j+1=>swJ a b j+1
 have R: ∀j,f (j+1)=swJ a b j+1:=λ_=>rfl
 have f0:f 0=0:=rfl;have U: ∀j,xs.length<j->f j=j:=λj C=>by obtain⟨i,rfl⟩: ∃i,j=i+1:=⟨j-1,by omega⟩;(rw[R];unfold swJ;repeat' split);all_goals omega
 have ae: ∀i j,f i=f j->i=j:=by
  intro i j h;cases i with
  |zero=>cases j with
   |zero=>rfl
   |succ j=>rw[f0,R]at h;omega
  |succ i=>cases j with
   |zero=>rw[f0,R]at h;omega
   |succ j=>rw[R,R]at h;unfold swJ at h;(repeat' split at h);all_goals omega
 have ai: ∀j,j<xs.length+1+ex.length->f j<xs.length+1+ex.length:=by intro j C;cases j with|zero=>omega|succ j=>(rw[R];unfold swJ;repeat' split);all_goals omega
 refine Zfv f ?_ ?_ ?_ ?_ ?_ ?_;rw[hlen];omega;intro j C;rw[show j=0 by omega];intro j C;rw[hlen]at C;rw[aa];exact ai j C;exact λi j _ _ h=>ae i j h;refine ZoK (λid hid=> ?_) ah;rw[hlen];rcases hid with rfl|⟨h1,h2⟩;exact⟨rfl,by omega⟩;exact⟨U id h1,h2⟩;·intro j m hm;right;cases j with|zero=>have hm:some (SM.many (.l ct) (Zaz 1 ys) true)=some m:=hm;cases hm;refine⟨?_,λid hid=> ?_⟩;(·show some (SM.many (.l ct) (((Zaz 1 xs).set a (.ref (b+1) 0 xs[b].length none)).set b (.ref (a+1) 0 xs[a].length none)) true)=some (SM.many (.l ct) (rnL f (Zaz 1 ys)) true);congr 2;rw[ZpZ];apply XaW;intro j;rw[XaC];by_cases C:j<xs.length;have I:j<ys.length:=(by omega);have J:=ZBA ha hb C;have e:=hy j I J;rw[ZcN I];show _=some (SV.ref (f (j+1)) 0 ys[j].length none);rw[R,e];by_cases ab:j=b;subst ab;rw[XaE (by rw[XaB,ZaI];exact C)];have:swJ a j j=a:=(by unfold swJ;split<;>simp_all);simp only[this];rw[XaD (λe=>ab e.symm)];by_cases ad:j=a;subst ad;rw[XaE (by rw[ZaI];exact C)];have:swJ j b j=b:=(by unfold swJ;rw[if_pos rfl]);simp only[this];rw[XaD (λe=>ad e.symm),ZcN C];have:swJ a b j=j:=(by unfold swJ;rw[if_neg ad,if_neg ab]);simp only[this];rw[Xax (by rw[XaB,XaB,ZaI];omega),Xax (by rw[ZaI];omega)];rfl);have:=ZeM (by simpa only[Zes]using hid);rw[hlen];omega|succ j=>by_cases C:j<xs.length;have I:j<ys.length:=(by omega);rw[ZtQ I]at hm;cases hm;have J:=ZBA ha hb C;refine⟨?_,λid hid=>by simp[Zes]at hid⟩;rw[R,ZtQ J,hy j I J];rfl;rw[ZtF (by omega)]at hm;have hr:=hex m (XaF hm);refine⟨?_,λid hid=>by rw[hr]at hid;exact absurd hid Xav⟩;rw[U (j+1) (by omega),ZtF (by omega),<-hl,hm,Zmh (p:=0) (λj C=>absurd C (Xa1 j)) m (λid hid=>by rw[hr]at hid;exact absurd hid Xav)]
end
section
variable {P:Program} {h:Hints} {T:TypeId->TI} {hp:List SM} {tm:TM} {F:Nat}
def Zf7 {σ:Type} {c:Cx} {b:Code} {k:Ex->TM->List SM->Prop} (hk:h.keep c.fid (Zdu b)=none) (R:σ->TM) (U:σ->List SM) (Inv:σ->Prop) (I:σ->Nat)
 (round: ∀a,Inv a->CodeOK P h F c b (R a) (U a) (Zqq F R U Inv I a k)) (a:σ) (hi:Inv a) (he:Ent F tm hp (R a) (U a)):LoopOK P h F c b tm hp k:=by
 have main: ∀ (n:Nat) (a:σ),I a=n->Inv a-> ∀φ st,F<=φ.length->SRep φ (R a) (U a) st-> ∃e C φ' tm' hp',(lim P h).ex c (.loop b) st=some (e,C)/\Fr F φ φ'/\SRep φ' tm' hp' C/\k e tm' hp':=by intro n;induction n using Nat.strongRecOn with|_ n ih=>intro a hm hi φ st hF hs;obtain⟨e,st1,J,tm1,hp1,h1,h2,h3,h4⟩:=(round a hi).out φ st hF hs;have hr:ZlF P h (lim P h) c b st=some (e,st1):=(by unfold ZlF;rw[hk];exact h1);cases e with|normal=>obtain⟨a',g1,g2,g3⟩:=h4;obtain⟨aa,g4,g5⟩:=g3.out J st1 (h2.len hF) h3;obtain⟨e,C,φ',tm',hp',f1,f2,f3,f4⟩:=ih (I a') (by omega) a' rfl g1 aa st1 (g4.len (h2.len hF)) g5;exact⟨e,C,φ',tm',hp',ZxR hr f1,(h2.trans g4).trans f2,f3,f4⟩|exit j=>exact⟨_,st1,J,tm1,hp1,ZpB (by simp) hr,h2,h3,h4⟩|ret=>exact⟨_,st1,J,tm1,hp1,ZpB (by simp) hr,h2,h3,h4⟩
 refine⟨λφ st hF hs=> ?_⟩;obtain⟨J,h1,h2⟩:=he.out φ st hF hs;obtain⟨e,C,φ',tm',hp',f1,f2,f3,f4⟩:=main _ a rfl hi J st (h1.len hF) h2;exact⟨e,C,φ',tm',hp',f1,h1.trans f2,f3,f4⟩
def Zap {σ:Type} (hT:TysOK P T) {c:Cx} {b:Code} {k:Ex->TM->List SM->Prop} (J:h.keep c.fid (Zdu b)=none) (j:σ->TM) (C:σ->List SM) (Inv:σ->Prop) (I:σ->Nat)
 (round: ∀a,Inv a->wp P h T F c b (j a) (C a) (Zqq F j C Inv I a k)) (a:σ) (hi:Inv a) (he:Ent F tm hp (j a) (C a)):LoopOK P h F c b tm hp k:=Zf7 J j C Inv I (λa h=>Zag hT (round a h)) a hi he
def ZaY {c:Cx} {id:Nat} {b:Code} {k:Ex->TM->List SM->Prop} (hk:h.keepB c.fid id=none) (hb:CodeOK P h F c b tm hp (ZyI id k)):CodeOK P h F c (.block id b) tm hp k:=by refine⟨λφ st hF hs=> ?_⟩;obtain⟨e,st1,C,tm1,hp1,R,U,h3,J⟩:=hb.out φ st hF hs;cases e with|normal=>exact⟨.normal,st1,C,tm1,hp1,by simp only[exS,R,Xaa,Zdt,hk,Zft,Xal],U,h3,J⟩|exit j=>simp only[ZyI]at J;split at J;rename_i I;have I:=Xar I;exact⟨.normal,st1,C,tm1,hp1,by simp only[exS,R,Xaa,Zdt,hk,Zft,Xal,if_pos I],U,h3,J⟩;rename_i I;have I:j≠id:=λe=>(by subst e;simp at I);exact⟨.exit j,st1,C,tm1,hp1,by simp only[exS,R,Xaa,Zdt,if_neg I],U,h3,J⟩|ret=>exact⟨.ret,st1,C,tm1,hp1,by simp only[exS,R,Xaa,Zdt],U,h3,J⟩
def ZbG {c:Cx} {b:Code} {k:Ex->TM->List SM->Prop} (C:LoopOK P h F c b tm hp k):CodeOK P h F c (.loop b) tm hp k:=⟨λφ st I J=>by obtain⟨e,j,φ',tm',hp',R,U,h3,h4⟩:=LoopOK.out C φ st I J;exact⟨e,j,φ',tm',hp',R,U,h3,h4⟩⟩
def CodeOK.mono {c:Cx} {b:Code} {k k':Ex->TM->List SM->Prop} (C:CodeOK P h F c b tm hp k) (I: ∀e tm hp,k e tm hp->k' e tm hp):CodeOK P h F c b tm hp k':=
 ⟨λφ st J R=>by obtain⟨e,j,φ',tm',hp',f1,f2,f3,f4⟩:=C.out φ st J R;exact⟨e,j,φ',tm',hp',f1,f2,f3,I _ _ _ f4⟩⟩
def Zcj {op:Op} {ct:CT} {by_ id n j:Nat} {m2:Option Nat} {b:Bool} {l:List ct.D} {x:ct.D} {k:SV->List SM->Prop}
 {c:Call} {t t2 e e2:TypeId} {ts:List TypeId} (ho:op= .call c) (hc:c.callee= .builtin .append) (ha:evL tm c.args.toList=some [.ref id 0 n none, .ref j 0 1 m2]) (ht:c.argTypes.toList=t::t2::ts) (I:(T t).k= .slice e) (J:(T t2).k= .slice e2) (R:(T e).ct=some ct) (U:(T e).by_=by_) (C:(ZcO (T e).k,Nat.ble 1 (T e).by_&&Nat.ble 1 (T e).sz,h.frz t)=(false,true,false))
 (hn:nth hp id=some (.row ct l true)) (aa:nth hp j=some (.row ct [x] b)) (hl:n=l.length) (hz:(n+1)*by_<=140737488355328)
 (hk:k (.ref hp.length 0 (n+1) none) (hp.set id .dead++ [.row ct (l++ [x]) true])):opT P h T op tm hp k:=by
 have hg:Zys ct hp (.ref j 0 1 m2) (λnew=>ZuV ct by_ hp (.ref id 0 n none) new k):=by refine Zjx aa (Xag 1) ?_;refine ZnI hn (by rw[hl];omega) hz ?_;have e1:sub l 0 n=l:=(by rw[sub,XaV,XaA (by omega)]);have e2:sub [x] 0 1=[x]:=rfl;rw[e1];exact hk
 simp only[Prod.mk.injEq]at C;obtain⟨ab,ad,ae⟩:=C;simp only[ho,opT,ZfU,ha,hc,ZgX,ht,I,J,R,ad,ae];subst U;generalize(T e).k=kk at*;cases kk<;>first|(cases ab;done)|exact hg
def ZaJ {t:CT} {x:t.D} {n:Nat}: ∀id∈ZdI (.v t x),id<n:=λ_ h=>absurd h Xav
def ZaQ {i a l n:Nat} {o:Option Nat} (h:i<n): ∀id∈ZdI (.ref i a l o),id<n:=λid hid=>by rw[Xat.1 hid];exact h
def ZbQ {i a l n:Nat} (h:i<n): ∀id∈ZdI (.ptr i a l),id<n:=λid hid=>by rw[Xat.1 hid];exact h
end
section
variable {P:Program} {h:Hints} {T:TypeId->TI} {hp:List SM} {tm:TM} {F:Nat}
def Za2 {c:Cx} {k:Ex->TM->List SM->Prop} (j:k .ret tm hp):wp P h T F c .ret tm hp k:=j
def ZaL {k:Ex->TM->List SM->Prop} {n:TM->List SM->Prop} (j:k .ret tm hp):ZEA k n .ret tm hp:=j
def ZaN {id:Nat} {k:Ex->TM->List SM->Prop} (j:k .ret tm hp):ZyI id k .ret tm hp:=j
def ZaE {σ:Type} {C:σ->TM} {I:σ->List SM} {Inv:σ->Prop} {j:σ->Nat} {a:σ} {k:Ex->TM->List SM->Prop} (J:k .ret tm hp):Zqq F C I Inv j a k .ret tm hp:=J
def Zjy {c:Cx} {j:TM->List SM->Prop} {id:Nat} {k:Ex->TM->List SM->Prop} (C:k .normal tm hp):wp P h T F c (.exit id) tm hp (ZEA (ZyI id k) j):=by show ZyI id k (.exit id) tm hp;have e:Nat.beq id id=true:=Nat.beq_refl id;simp only[ZyI,e];exact C
def Zje {α:Type} {l:List α} {n:Nat} {x:α} (h:nth l n=some x):n<l.length:=by rw[ZaK]at h;exact(Xae.1 h).1
def ZoZ {α:Type} {l:List α} {i n:Nat} {x:α} (h:i≠n):nth (l.set i x) n=nth l n:=by rw[ZaK,ZaK,XaD h]
def ZDq {id j:Nat} (h:id≠j):nth (frz1 hp id) j=nth hp j:=by unfold frz1;split<;>first|rfl|exact ZoZ h
def Zp7 {j:Nat}: ∀ {ids:List Nat} {hp:List SM},j ∉ ids->nth (frzT hp ids) j=nth hp j
 | [],_,_=>rfl
 |i::r,hp,h=>by rw[frzT,Zp7 λC=>h (Xaj _ C)];exact ZDq λe=>h (by rw[e];exact Xai)
def ZA1 {id:Nat}:(frz1 hp id).length=hp.length:=by unfold frz1;split<;>first|rfl|exact XaB
def ZjB: ∀ {ids:List Nat} {hp:List SM},(frzT hp ids).length=hp.length
 | [],_=>rfl
 |i::r,hp=>by rw[frzT,ZjB,ZA1]
def ZDo {op:Op} {c:Call} {i g:Nat} {a d vs:List SV} {k:SV->List SM->Prop} (j:op= .call c) (C:c.callee= .value (.tmp i)) (I:evS tm (.tmp i)=some (.func g a d)) (J:evL tm c.args.toList=some vs) (R:h.opn g=true) (U:OpenOK P h g (a++vs++d) hp k):opT P h T op tm hp k:=by subst j;simp only[opT,ZfU,J,C,I,Zb1,R];exact U
variable {N i dd:Nat} {ls:List Nat} {l:List Oper} {o:Oper} {ks:List (Nat × Nat × Bool)} {kk:TM->List SM->Prop} {V:SV}
def ZBv {c:Call} (hi:has i ls=true) (j:o.op= .call c) (C:ZHJ tm c=true) (he:opT P h T (.call c) tm hp λW hp'=>ZcR N o.dst W tm λtm'=>ZaD P h T N ls l (i+1) ks tm' hp' kk):ZaD P h T N ls (o::l) i ks tm hp kk:=by simp only[ZaD,hi,j,C];exact he
def ZER {t:TypeId} {x:Operand} {lo j C:Option Operand} {ct:CT} {xs:List ct.D} (hi:has i ls=true) (I:o.op= .slice t x lo j C) (J:evS tm x=some (.v (.l ct) xs)) (he:opT P h T (.slice t x lo j C) tm hp λW hp'=>ZcR N o.dst W tm λtm'=>ZaD P h T N ls l (i+1) ks tm' hp' kk):ZaD P h T N ls (o::l) i ks tm hp kk:=by simp only[ZaD,hi,I,J];exact he
end
section
variable {P:Program} {h:Hints} {T:TypeId->TI} {hp:List SM} {tm:TM} {N i:Nat} {ls:List Nat} {l:List Oper} {o:Oper} {ks:List (Nat × Nat × Bool)} {kk:TM->List SM->Prop} {V:SV}
def Zw8 (hp:List SM):List Nat->List SM->Prop
 | [],[]=>True
 |i::is,m::ms=>nth hp i=some m/\Zes m=[]/\Zw8 hp is ms
 |_,_=>False
def Zxt: ∀ {is:List Nat} {ms:List SM},Zw8 hp is ms->is.length=ms.length/\ ∀ (j:Nat) (x:SM),ms[j]? =some x-> ∃i,is[j]? =some i/\nth hp i=some x/\Zes x=[]
 | [],[],_=>⟨rfl,λj x h=>by simp at h⟩
 | [],_::_,h=>h.elim
 |_::_,[],h=>h.elim
 |i::is,m::ms,⟨I,J,R⟩=>by obtain⟨g1,g2⟩:=Zxt R;refine⟨by simp[g1],λj x C=> ?_⟩;cases j with|zero=>cases C;exact⟨i,rfl,I,J⟩|succ j=>exact g2 j x C
def ZnS: ∀ {l:List Nat} {a b x:Nat},l.Nodup->l[a]? =some x->l[b]? =some x->a=b
 | [],_,_,_,_,h,_=>by simp at h
 |i::r,0,0,_,_,_,_=>rfl
 |i::r,0,b+1,x,I,j,C=>by cases j;rw[XaP]at C;exact absurd (XaF C) (List.nodup_cons.1 I).1
 |i::r,a+1,0,x,I,j,C=>by cases C;rw[XaP]at j;exact absurd (XaF j) (List.nodup_cons.1 I).1
 |i::r,a+1,b+1,x,I,j,C=>congrArg (· +1) (ZnS (l:=r) (List.nodup_cons.1 I).2 j C)
def Zbj {tm':TM} (is:List Nat) {ms:List SM} (hk:Zw8 hp is ms) (R:is.Nodup) (U:ZyK (λj=>is.getD j 0) ms.length tm tm'):Ent 0 tm hp tm' ms:=by
 obtain⟨hl,aa⟩:=Zxt hk;have C: ∀j,j<ms.length-> ∃x i,ms[j]? =some x/\is[j]? =some i/\is.getD j 0=i/\nth hp i=some x/\Zes x=[]:=λj I=>by obtain⟨i,g1,g2,g3⟩:=aa j ms[j] (Xad I);exact⟨ms[j],i,Xad I,g1,by rw[Xan,g1];rfl,g2,g3⟩
 refine Zfv (λj=>is.getD j 0) (Xap _) (λj I=>absurd I (Xa1 j)) (λj I=> ?_) (λa b ha hb J=> ?_) U λj x hx=> ?_;obtain⟨x,i,_,_,g3,g4,_⟩:=C j I;show is.getD j 0<_;rw[g3];exact Zje g4;obtain⟨_,i,_,g2,g3,_⟩:=C a ha;obtain⟨_,i',_,ab,ad,_⟩:=C b hb;have J:is.getD a 0=is.getD b 0:=J;rw[g3,ad]at J;subst J;exact ZnS R g2 ab;obtain⟨I,_⟩:=Xae.1 hx;obtain⟨y,i,g1,_,g3,g4,g5⟩:=C j I;rw[g1]at hx;cases hx;refine .inr ⟨?_,λid hid=>by rw[g5]at hid;exact absurd hid Xav⟩;show hp[is.getD j 0]? =_;rw[g3,<-ZaK,g4,Zmh (p:=0) (λj I=>absurd I (Xa1 j)) x (λid hid=>by rw[g5]at hid;exact absurd hid Xav)]
def Zia {op:Op} {c:Call} {f:FuncId} {V W:SV} {k:SV->List SM->Prop} (j:op= .call c) (C:c.callee= .value (.func f)) (I:evL tm c.args.toList=some [V,W]) (J:h.opn f=false) (U:h.imp f=false) (h3:h.mem f=true) (he:ZdB hp 40 V λv=>ZdB hp 40 W λw=>PureOK P h f [v,w] λR=>k R (frzT hp (ZdX hp [V,W]))):opT P h T op tm hp k:=by subst j;simp only[opT,ZfU,I,C,Zb1,J,U,h3,ZyL,Zds];exact he
def ZqX {n:Nat} {t:CT} {x:t.D} {k:SV->Prop} (j:k (.v t x)):ZdB hp (n+2) (.v t x) k:=j
def ZHx {op:Op} {t:TypeId} {x j:Operand} {id:Nat} {s:List UInt8} {ks:List (List UInt8)} {k:SV->List SM->Prop} (I:op= .lookup t x j false) (C:(T t).k= .smap) (J:evS tm x=some (.mp id)) (R:evS tm j=some (.v .s s)) (U:nth hp id=some (.set ks)) (hk:k (.v .b (ZuY s ks)) hp):opT P h T op tm hp k:=by simp only[I,opT,C,J,R,U];exact hk
def ZIX {op:Op} {t:TypeId} {m j x:Operand} {id:Nat} {s:List UInt8} {ks:List (List UInt8)} {k:SV->List SM->Prop} (I:op= .mapUpdate t m j x) (C:(T t).k= .smap) (hm:evS tm m=some (.mp id)) (J:evS tm j=some (.v .s s)) (R:evS tm x=some (.v .b true)) (U:nth hp id=some (.set ks)) (hk:k (.tup []) (hp.set id (.set (ZyY s ks)))):opT P h T op tm hp k:=by simp only[I,opT,C,hm,J,R,U];exact hk
def ZJc {op:Op} {t:TypeId} {x j:Operand} {id:Nat} {s:Int} {c:CT} {ks:List (Int×c.D)} {k:SV->List SM->Prop} (I:op= .lookup t x j false) (C:(T t).k= .imap c) (J:evS tm x=some (.mp id)) (R:evS tm j=some (.v (.i .i64) s)) (U:nth hp id=some (.im c ks)) (hc:ceq c c=true) (hk:k (.v c (ZhU c.z s ks)) hp):opT P h T op tm hp k:=by simp only[I,opT,C,J,R,U,hc,if_true];exact hk
def ZIO {op:Op} {t:TypeId} {m j x:Operand} {id:Nat} {s:Int} {c:CT} {v:c.D} {ks:List (Int×c.D)} {k:SV->List SM->Prop} (I:op= .mapUpdate t m j x) (C:(T t).k= .imap c) (hm:evS tm m=some (.mp id)) (J:evS tm j=some (.v (.i .i64) s)) (R:evS tm x=some (.v c v)) (U:nth hp id=some (.im c ks)) (hc:ceq c c=true) (hk:k (.tup []) (hp.set id (.im c (Zru s v ks)))):opT P h T op tm hp k:=by simp only[I,opT,C,hm,J,R,U];rw[dif_pos hc];exact hk
def Zmz {s:List UInt8}: ∀ {ks:List (List UInt8)},ZuY s ks=false->ZyY s ks=ks++ [s]
 | [],_=>rfl
 |k::r,h=>by rw[ZuY]at h;rw[ZyY];cases j:(s==k)with|true=>rw[j]at h;cases h|false=>rw[j]at h;rw[cond_false,Zmz h];rfl
end
def zin {i n:Nat} (h:i<n):(0:Int)<=(i:Int)/\(i:Int)<((n:Nat):Int):=by omega
def ZJb {k:Nat} (h:k<1000000):IntKind.i64.wrap ((k:Int)+1)=((k+1:Nat):Int):=by unfold IntKind.wrap IntKind.signed IntKind.bits;simp only[Bool.true_and];split<;>rename_i h<;>simp only[decide_eq_true_eq]at h<;>omega
def br1 {t:Bool} {A B:Prop} (h:t=true) (k:A):(t=true->A)/\(t=false->B):=⟨λ_=>k,λe=>by rw[h]at e;cases e⟩
def br0 {t:Bool} {A B:Prop} (h:t=false) (k:B):(t=true->A)/\(t=false->B):=⟨λe=>(by rw[h]at e;cases e),λ_=>k⟩
def nt1 {x:Bool} (h:x=true):(!x)=false:=by rw[h];rfl
def nt0 {x:Bool} (h:x=false):(!x)=true:=by rw[h];rfl
def axA {p:Prop} (h:p:=by first|with_reducible assumption|exact rfl|assumption):p:=h
def axE {p:Prop} (h:p:=by first|with_reducible assumption|exact rfl|exact nt1 (by with_reducible assumption)|exact nt0 (by with_reducible assumption)|assumption):p:=h
def axI {p:Prop} (h:p:=by first|with_reducible assumption|exact zin (by assumption)|assumption):p:=h
def ZoQ:Op->Nat
 | .indexAddr .. =>1
 | .load .. =>2
 | .store .. =>3
 | .pick .. =>5
 | .call c=>match c.callee with
  | .value (.func _)=>4
  |_=>6
 |_=>0
section
variable {P:Program} {h:Hints} {T:TypeId->TI} {tm:TM} {hp hp':List SM} {op:Op} {k:SV->List SM->Prop} {V:SV}
def op0 (_:ZoQ op=0) (he: ∀k,opT P h T op tm hp k=k V hp') (j:k V hp'):opT P h T op tm hp k:=by rw[he];exact j
def op1 (_:ZoQ op=1) (j:opT P h T op tm hp k):opT P h T op tm hp k:=j
def op2 (_:ZoQ op=2) (j:opT P h T op tm hp k):opT P h T op tm hp k:=j
def op3 (_:ZoQ op=3) (j:opT P h T op tm hp k):opT P h T op tm hp k:=j
def op4 (_:ZoQ op=4) (j:opT P h T op tm hp k):opT P h T op tm hp k:=j
def opQ (he: ∀k,opT P h T op tm hp k=k V hp') (j:k V hp'):opT P h T op tm hp k:=by rw[he];exact j
def opC {C:Prop} (he: ∀k,opT P h T op tm hp k=(C/\k V hp')) (j:C) (I:k V hp'):opT P h T op tm hp k:=by rw[he];exact⟨j,I⟩
def opY {α:Type} {A:Prop} {C:α->Prop} {W:α->SV} {x:α} (he: ∀k,opT P h T op tm hp k= ∃x,A/\C x/\k (W x) hp') (j:A) (I:C x) (J:k (W x) hp'):opT P h T op tm hp k:=by rw[he];exact⟨x,j,I,J⟩
def ZJm {c a b:Operand} {t:Bool} (j:op= .pick c a b) (C:evS tm c=some (.v .b t)) (I:t=true) (J:evS tm a=some V) (R:k V hp):opT P h T op tm hp k:=by subst I;simp only[j,opT,C,J];exact⟨λ_=>R,λh=>by cases h⟩
def ZJr {c a b:Operand} {t:Bool} (j:op= .pick c a b) (C:evS tm c=some (.v .b t)) (I:t=false) (J:evS tm b=some V) (R:k V hp):opT P h T op tm hp k:=by subst I;simp only[j,opT,C,J];exact⟨λh=>(by cases h),λ_=>R⟩
end
def axO {p q:Prop} (h:q) (k:Hid q->p:=by
 intro j;first
  |refine op0 rfl (λ_=>rfl) ?_
  |(refine op1 rfl ?_;first
   |refine Zam rfl rfl rfl rfl rfl axA rfl axI ?_
   |refine Zav rfl rfl rfl rfl rfl axA rfl axI ?_
   |refine opC (λ_=>rfl) axE ?_
   |refine opY (λ_=>rfl) (by first|exact XaH _|exact Xbw 0) (by assumption) ?_)
  |(refine op2 rfl ?_;first
   |refine Zau rfl rfl axA (by assumption) rfl ?_
   |refine ZaG rfl rfl axA (by assumption) rfl ?_
   |refine ZaZ rfl rfl axA rfl rfl ?_
   |refine opQ (λ_=>rfl) ?_)
  |(refine op3 rfl ?_;first
   |refine Za8 rfl rfl rfl axA rfl (by assumption) rfl rfl rfl ?_
   |refine opQ (λ_=>rfl) ?_
   |refine Zay rfl rfl rfl axA rfl rfl rfl rfl ?_)
  |(refine op4 rfl ?_;refine PureOK.mono (by assumption) ?_;rintro _ rfl)
  |refine ZJm rfl rfl axE rfl ?_
  |refine ZJr rfl rfl axE rfl ?_
  |refine opQ (λ_=>rfl) ?_
  |refine opC (λ_=>rfl) axE ?_
 exact j.out):p:=k ⟨h⟩
def axM {p q:Prop} (h:q) (k:Hid q->p:=by
 intro j;repeat (first
  |with_reducible refine Zrx ?_
  |(refine Zac rfl ?_;refine axO ?_;first|refine Zaa rfl rfl ?_|refine Zal rfl ?_)
  |refine Zpg rfl rfl rfl rfl rfl ?_
  |refine Zng rfl rfl rfl axE rfl rfl ?_
  |(refine ZaX rfl rfl rfl axE ?_;refine axO ?_;first|refine Zaa rfl rfl ?_|refine Zal rfl ?_))
 exact j.out):p:=k ⟨h⟩
def axN {p q:Prop} (h:q) (k:Hid q->p:=by
 intro j;refine axM ?_;try (refine Hid.mk ?_;repeat (first|refine Zeh ?_|refine ZcA ?_))
 exact j.out):p:=k ⟨h⟩
def axH {p q:Prop} (h:q) (k:Hid q->p:=by intro j;refine ZpR ?_;refine axM ?_;exact j.out):p:=k ⟨h⟩
def axG {p q:Prop} (h:q) (k:Hid q->p:=by intro j;refine ZpR ?_;refine axN ?_;exact j.out):p:=k ⟨h⟩
def ZzF {P:Program} {h:Hints} {T:TypeId->TI} {N i:Nat} {ls:List Nat} {ks:List (Nat×Nat×Bool)} {tm:TM} {hp:List SM} {k:TM->List SM->Prop} (j:Hid (k tm hp)):ZaD P h T N ls [] i ks tm hp k:=j.out
def ZIF {P:Program} {h:Hints} {T:TypeId->TI} {N i:Nat} {ls:List Nat} {ks:List (Nat×Nat×Bool)} {o:Oper} {l:List Oper} {tm:TM} {hp:List SM} {k:TM->List SM->Prop} (_:has i ls=true) (j:ZaD P h T N ls (o::l) i ks tm hp k):ZaD P h T N ls (o::l) i ks tm hp k:=j
def axK {p q:Prop} (h:q) (k:Hid q->p:=by
 intro j;repeat (first
  |with_reducible refine ZzF ?_
  |(refine ZIF rfl ?_;first
   |refine ZiW rfl rfl rfl rfl rfl ?_
   |refine ZGF rfl rfl rfl (λ_=>rfl) (by first|rfl|assumption|exact zin (by assumption)) rfl rfl ?_
   |refine ZGd rfl rfl rfl (λ_=>rfl) (by first|rfl|assumption|exact zin (by assumption)) rfl rfl ?_
   |refine ZFX rfl rfl rfl (λ_=>rfl) (by assumption) rfl rfl ?_)
  |((first|refine Zax rfl rfl ?_|refine Zin rfl rfl ?_);refine axO ?_;first|refine ZaT rfl rfl ?_|refine Zal rfl ?_))
 try (refine Hid.mk ?_;repeat (first|refine Zeh ?_|refine ZcA ?_))
 exact j.out):p:=k ⟨h⟩
def axL {p q:Prop} (h:q) (k:Hid q->p:=by
 intro j;first|refine ZDY ?_|refine ZJw ?_
 refine axK ?_;exact j.out):p:=k ⟨h⟩
def axT {p q:Prop} (h:q) (k:Hid q->p:=by
 intro j;first|refine axG ?_|refine axN ?_|refine axL ?_|refine axK ?_
 repeat (first|refine br1 axE ?_|refine br0 axE ?_|refine axG ?_|refine axL ?_)
 exact j.out):p:=k ⟨h⟩
def ZJP {r p q:Prop} (a:r) (h:q) (k:r->Hid q->p:=by intro _ j;refine axT ?_;exact j.out):p:=k a ⟨h⟩
def ZJU {r s p q:Prop} (a:r) (b:s) (h:q) (k:r->s->Hid q->p:=by intro _ _ j;refine axT ?_;exact j.out):p:=k a b ⟨h⟩
def ZJO {r s t p q:Prop} (a:r) (b:s) (c:t) (h:q) (k:r->s->t->Hid q->p:=by intro _ _ _ j;refine axT ?_;exact j.out):p:=k a b c ⟨h⟩
def ZJQ {r s t u p q:Prop} (a:r) (b:s) (c:t) (d:u) (h:q) (k:r->s->t->u->Hid q->p:=by intro _ _ _ _ j;refine axT ?_;exact j.out):p:=k a b c d ⟨h⟩
def ZJS {r s t u v p q:Prop} (a:r) (b:s) (c:t) (d:u) (e:v) (h:q) (k:r->s->t->u->v->Hid q->p:=by intro _ _ _ _ _ j;refine axT ?_;exact j.out):p:=k a b c d e ⟨h⟩
def ZJV {r s t u v w p q:Prop} (a:r) (b:s) (c:t) (d:u) (e:v) (f:w) (h:q) (k:r->s->t->u->v->w->Hid q->p:=by intro _ _ _ _ _ _ j;refine axT ?_;exact j.out):p:=k a b c d e f ⟨h⟩
def ZJR {r s t u v w x p q:Prop} (a:r) (b:s) (c:t) (d:u) (e:v) (f:w) (g:x) (h:q) (k:r->s->t->u->v->w->x->Hid q->p:=by intro _ _ _ _ _ _ _ j;refine axT ?_;exact j.out):p:=k a b c d e f g ⟨h⟩
def ZJT {r s t u v w x y p q:Prop} (a:r) (b:s) (c:t) (d:u) (e:v) (f:w) (g:x) (i:y) (h:q) (k:r->s->t->u->v->w->x->y->Hid q->p:=by intro _ _ _ _ _ _ _ _ j;refine axT ?_;exact j.out):p:=k a b c d e f g i ⟨h⟩
variable {P:Program} {h:Hints} {T:TypeId->TI} {F:Nat} {tm:TM} {hp:List SM}
def eK {tm':TM} (j:ZGy tm tm':=by repeat (first|exact trivial|refine Xab (by first|rfl|assumption|exact congrArg (λx=>some (SV.v (.i .i64) x)) (ZJb (by omega))|exact congrArg some (by congr)) ?_)):Ent F tm hp tm' hp:=Zae j
def eO {tm':TM} {hp':List SM} {σ:List Im} (j:ZFn tm tm' hp hp' 0 hp'=σ:=by exact rfl) (C:(ZhM σ&&Zpc F σ)=true:=by exact rfl)
 (h:ZxE σ tm tm'/\ZxI σ hp σ hp':=by repeat' (first|exact trivial|refine Xab ?_ ?_|exact rfl|exact λ_=>rfl|exact id|assumption|exact Eq.symm (by assumption)|exact(ZJb (by omega)).symm)):Ent F tm hp tm' hp':=ZaH j C h.1 h.2
def ZnC (hT:TysOK P T) {c:Cx} {b:Code} {k:Ex->TM->List SM->Prop} (I:h.keep c.fid (Zdu b)=none) (j:Nat->TM) (C:Nat->List SM) (n:Nat)
 (round: ∀i,i<n->decide ((i:Int)<(n:Int))=true->wp P h T F c b (j i) (C i) (Zqq F j C (λi=>i<=n) (λi=>n-i) i k)) (he:Ent F tm hp (j 0) (C 0))
 (last:decide ((n:Int)<(n:Int))=false->wp P h T F c b (j n) (C n) (Zqq F j C (λi=>i<=n) (λi=>n-i) n k):=by intro J;refine axT ?_;exact⟨rfl,eK⟩):LoopOK P h F c b tm hp k:=by
 refine Zap hT I j C (λi=>i<=n) (λi=>n-i) (λi hi=> ?_) 0 (Xap n) he
 rcases Nat.lt_or_eq_of_le hi with h|rfl
 ·exact round i h (decide_eq_true (by omega))
 ·exact last (decide_eq_false (Int.lt_irrefl _))
def nxt {j:Nat->TM} {C:Nat->List SM} {i n:Nat} {k:Ex->TM->List SM->Prop} (h:i<n) (he:Ent F tm hp (j (i+1)) (C (i+1))):Zqq F j C (λi=>i<=n) (λi=>n-i) i k .normal tm hp:=⟨i+1,h,Xbp h (XaS i),he⟩
def Ztk {F:Nat} {hp:List SM} {tm:TM} {k:Nat} {ct:CT} {tm':TM} (hF:F<=hp.length) (hk:Zck k tm=some .nils) (ab: ∀i V,i≠k->Zck i tm'=some V->Zck i tm=some V) (ad:Zck k tm'=some (.ref hp.length 0 0 none)):Ent F tm hp tm' (hp++ [.row ct [] true]):=by
 refine⟨λφ st af hs=> ?_⟩;have hlen:=hs.hp.len;have ext: ∀id,id<hp.length->(φ++ [none])[id]? =φ[id]? :=λid h=>Xam (by omega)
 have le:Le φ (φ++ [none]):=λid o h=>by rw[Xam (Xae.1 h).1];exact h
 have new:(φ++ [(none:Option Nat)])[hp.length]? =some none:=by rw[Xaz (by omega),hlen,XbI];rfl
 refine⟨φ++ [none],λid hid=>ext id (by omega), ?_, ?_⟩;intro i V hV;by_cases e:i=k;subst e;rw[ad]at hV;cases hV;obtain⟨q,I,J⟩:=hs.tm _ _ hk;refine⟨q,I, ?_⟩;simp only[RV]at J|-;subst J;exact .inr ⟨new,rfl,trivial,trivial,rfl⟩;obtain⟨q,I,J⟩:=hs.tm _ _ (ab i V e hV);exact⟨q,I,RV.mono le _ _ J⟩;refine⟨by simp[hlen], ?_, ?_⟩;intro id sm o j ho;by_cases hid:id<hp.length;rw[Xam hid]at j;rw[ext id hid]at ho;exact RM.mono le (λ_ _ _=>rfl) (hs.hp.row id sm o j ho);have C:=(Xae.1 j).1;simp at C;have e:id=hp.length:=by omega
 subst e;rw[Xaz (Xag _),XbI]at j;cases j;rw[new]at ho;cases ho;rfl;intro id R sm aa a ae I J h3 h4 U h6;have lt: ∀id sm,(hp++ [SM.row ct [] true])[id]? =some sm->(φ++ [none])[id]? =some (some a)->id<hp.length:=by intro id sm I U;rcases Xa5 id hp.length with h|h;exact h;have C:=(Xae.1 I).1;simp at C;have e:id=hp.length:=(by omega);subst e;rw[new]at U;cases U
 have l1:=lt id sm I U;have l2:=lt R aa J h6;rw[Xam l1]at I;rw[Xam l2]at J;rw[ext id l1]at U;rw[ext R l2]at h6;exact hs.hp.inj id R sm aa a ae I J h3 h4 U h6
end Go.Tx
namespace Go.Proofs.YtplkkbcnilnfaaaGreatDoor
open Go.Tx
def Zbc:TI:=⟨.func,1,8,[.nilf],none⟩
def ZyH:TI:=⟨.ptr,1,8,[.nilp],none⟩
def ZHl:TI:=⟨.int .i64,1,8,[.v (.i .i64) (0:Int)],some (.i .i64)⟩
def ZHA:TI:=⟨.int .u8,1,1,[.v (.i .u8) (0:Int)],some (.i .u8)⟩
def ZHH:TI:=⟨.str,1,16,[.v .s []],some (.s)⟩
def ZHn:TI:=⟨.struct [(0,9,1),(1,9,1),(2,3,1),(3,3,1),(4,3,1)],5,56,[.v .s [], .v .s [], .v (.i .i64) (0:Int), .v (.i .i64) (0:Int), .v (.i .i64) (0:Int)],some (.p (.s) (.p (.s) (.p (.i .i64) (.p (.i .i64) (.i .i64)))))⟩
def ZHP:TI:=⟨.int .u64,1,8,[.v (.i .u64) (0:Int)],some (.i .u64)⟩
def ZIm:TI:=⟨.any,1,16,[.nili],some (.any)⟩
def ZH7:TI:=⟨.int .i32,1,4,[.v (.i .i32) (0:Int)],some (.i .i32)⟩
def ZJa:TI:=⟨.struct [(0,2,1),(1,3,1),(2,4,1),(3,6,1)],4,24,[.v (.i .i64) (0:Int), .v (.i .i64) (0:Int), .v .b false, .v (.i .u8) (0:Int)],some (.p (.i .i64) (.p (.i .i64) (.p (.b) (.i .u8))))⟩
def ZGx:TI:=⟨.struct [(0,9,1),(1,12,1)],2,24,[.v .s [], .v (.i .u64) (0:Int)],some (.p (.s) (.i .u64))⟩
def ZFd:TI:=⟨.struct [(0,17,1)],1,8,[.nilp],none⟩
def ZFU:TI:=⟨.struct [(0,22,1),(1,23,1),(2,24,1),(3,25,1),(4,26,1),(5,27,1)],6,144,[.nils, .nils, .nils, .nils, .nils, .nils],some (.p (.l (.s)) (.p (.l (.p (.s) (.p (.s) (.p (.s) (.p (.b) (.b)))))) (.p (.l (.p (.s) (.p (.s) (.p (.s) (.p (.i .i64) (.p (.i .i64) (.p (.i .i64) (.p (.i .i64) (.p (.i .i64) (.i .i64)))))))))) (.p (.l (.p (.s) (.p (.s) (.p (.i .i64) (.p (.i .i64) (.i .i64)))))) (.p (.l (.p (.s) (.p (.s) (.i .i64)))) (.l (.p (.s) (.p (.s) (.p (.i .i64) (.p (.i .i64) (.i .i64)))))))))))⟩
def ZFs:TI:=⟨.slice 101,1,24,[.nils],some (.l (.s))⟩
def ZEY:TI:=⟨.struct [(0,36,1),(1,36,1)],2,48,[.nils, .nils],some (.p (.l (.s)) (.l (.s)))⟩
def ZFZ:TI:=⟨.struct [(0,9,1),(1,9,1),(2,9,1),(3,3,1),(4,3,1),(5,3,1),(6,3,1),(7,3,1),(8,3,1)],9,96,[.v .s [], .v .s [], .v .s [], .v (.i .i64) (0:Int), .v (.i .i64) (0:Int), .v (.i .i64) (0:Int), .v (.i .i64) (0:Int), .v (.i .i64) (0:Int), .v (.i .i64) (0:Int)],some (.p (.s) (.p (.s) (.p (.s) (.p (.i .i64) (.p (.i .i64) (.p (.i .i64) (.p (.i .i64) (.p (.i .i64) (.i .i64)))))))))⟩
def ZE1:TI:=⟨.struct [(0,9,1),(1,9,1),(2,3,1)],3,40,[.v .s [], .v .s [], .v (.i .i64) (0:Int)],some (.p (.s) (.p (.s) (.i .i64)))⟩
def ZGQ:TI:=⟨.struct [(0,63,1),(1,22,1)],2,32,[.nilmp, .nils],none⟩
def ZGJ:TI:=⟨.struct [(0,9,1),(1,9,1),(2,9,1),(3,4,1),(4,4,1)],5,56,[.v .s [], .v .s [], .v .s [], .v .b false, .v .b false],some (.p (.s) (.p (.s) (.p (.s) (.p (.b) (.b)))))⟩
def ZE7:TI:=⟨.struct [(0,4,1),(1,95,1)],2,32,[.v .b false, .nils],some (.p (.b) (.l (.i .u32)))⟩
def ZFE:TI:=⟨.struct [(0,97,2),(2,97,2)],4,64,[.v .b false, .nils, .v .b false, .nils],some (.p (.p (.b) (.l (.i .u32))) (.p (.b) (.l (.i .u32))))⟩
def ZGL:TI:=⟨.struct [(0,70,1),(1,70,1)],2,48,[.nils, .nils],some (.p (.l (.i .i64)) (.l (.i .i64)))⟩
def ZGT:TI:=⟨.struct [(0,3,1),(1,3,1),(2,3,1)],3,24,[.v (.i .i64) (0:Int), .v (.i .i64) (0:Int), .v (.i .i64) (0:Int)],some (.p (.i .i64) (.p (.i .i64) (.i .i64)))⟩
def ZEI:TI:=⟨.slice 90,1,24,[.nils],some (.l (.l (.p (.p (.b) (.l (.i .u32))) (.p (.b) (.l (.i .u32))))))⟩
def ZFY:TI:=⟨.struct [(0,113,2),(2,70,1),(3,70,1),(4,90,1),(5,90,1),(6,70,1),(7,124,1)],8,192,[.nils, .nils, .nils, .nils, .nils, .nils, .nils, .nils],some (.p (.p (.l (.i .i64)) (.l (.i .i64))) (.p (.l (.i .i64)) (.p (.l (.i .i64)) (.p (.l (.p (.p (.b) (.l (.i .u32))) (.p (.b) (.l (.i .u32))))) (.p (.l (.p (.p (.b) (.l (.i .u32))) (.p (.b) (.l (.i .u32))))) (.p (.l (.i .i64)) (.l (.l (.p (.p (.b) (.l (.i .u32))) (.p (.b) (.l (.i .u32))))))))))))⟩
def ZFt:TI:=⟨.struct [(0,191,1),(1,111,1)],2,32,[.nilp, .nils],none⟩
def ZGj:TI:=⟨.struct [(0,9,1),(1,9,1),(2,158,1)],3,48,[.v .s [], .v .s [], .nili],some (.p (.s) (.p (.s) (.any)))⟩
def ZGV:TI:=⟨.struct [(0,9,1)],1,16,[.v .s []],some (.s)⟩
def ZFS:TI:=⟨.struct [(0,17,1),(1,17,1),(2,17,1),(3,9,1)],4,40,[.nilp, .nilp, .nilp, .v .s []],none⟩
def ZFw:TI:=⟨.struct [(0,236,0)],0,0,[],none⟩
def ZGa:TI:=⟨.struct [(0,12,1),(1,12,1),(2,162,1),(3,239,1),(4,5,1),(5,5,1),(6,240,1),(7,241,1),(8,210,1),(9,242,1),(10,243,1)],11,48,[.v (.i .u64) (0:Int), .v (.i .u64) (0:Int), .v (.i .u32) (0:Int), .v (.i .u8) (0:Int), .v (.i .u8) (0:Int), .v (.i .u8) (0:Int), .v (.i .u8) (0:Int), .nilf, .nilp, .v (.i .i32) (0:Int), .v (.i .i32) (0:Int)],none⟩
def ZJg:Tr:=
 (.nd 118 (.nd 60 (.nd 28 (.nd 14 (.nd 7 (.nd 4 (.nd 2 (.lf 1 Zbc) (.nd 3 (.lf 2 ZHl) (.lf 3 ZHl))) (.nd 5 (.lf 4 ⟨.bool,1,1,[.v .b false],some (.b)⟩) (.nd 6 (.lf 5 ZHA) (.lf 6 ZHA)))) (.nd 10 (.nd 8 (.lf 7 ZJa) (.nd 9 (.lf 8 ZJa) (.lf 9 ZHH))) (.nd 12 (.nd 11 (.lf 10 ZHH) (.lf 11 ZHH)) (.nd 13 (.lf 12 ZHP) (.lf 13 ZGx))))) (.nd 21 (.nd 17 (.nd 15 (.lf 14 ZGx) (.nd 16 (.lf 15 ZyH) (.lf 16 ZyH))) (.nd 19 (.nd 18 (.lf 17 ZyH) (.lf 18 ZFd)) (.nd 20 (.lf 19 ZFd) (.lf 20 ZIm)))) (.nd 24 (.nd 22 (.lf 21 ZH7) (.nd 23 (.lf 22 ⟨.slice 9,1,24,[.nils],some (.l (.s))⟩) (.lf 23 ⟨.slice 68,1,24,[.nils],some (.l (.p (.s) (.p (.s) (.p (.s) (.p (.b) (.b))))))⟩))) (.nd 26 (.nd 25 (.lf 24 ⟨.slice 47,1,24,[.nils],some (.l (.p (.s) (.p (.s) (.p (.s) (.p (.i .i64) (.p (.i .i64) (.p (.i .i64) (.p (.i .i64) (.p (.i .i64) (.i .i64))))))))))⟩) (.lf 25 ⟨.slice 49,1,24,[.nils],some (.l (.p (.s) (.p (.s) (.p (.i .i64) (.p (.i .i64) (.i .i64))))))⟩)) (.nd 27 (.lf 26 ⟨.slice 51,1,24,[.nils],some (.l (.p (.s) (.p (.s) (.i .i64))))⟩) (.lf 27 ⟨.slice 85,1,24,[.nils],some (.l (.p (.s) (.p (.s) (.p (.i .i64) (.p (.i .i64) (.i .i64))))))⟩)))))) (.nd 45 (.nd 36 (.nd 32 (.nd 29 (.lf 28 ZFU) (.nd 30 (.lf 29 ZFU) (.lf 30 ZHl))) (.nd 34 (.nd 33 (.lf 32 Zbc) (.lf 33 Zbc)) (.nd 35 (.lf 34 Zbc) (.lf 35 ZFs)))) (.nd 40 (.nd 37 (.lf 36 ZFs) (.nd 38 (.lf 37 ZEY) (.lf 38 ZEY))) (.nd 42 (.nd 41 (.lf 40 Zbc) (.lf 41 Zbc)) (.nd 43 (.lf 42 Zbc) (.lf 43 Zbc))))) (.nd 53 (.nd 48 (.nd 46 (.lf 45 Zbc) (.nd 47 (.lf 46 ZFZ) (.lf 47 ZFZ))) (.nd 50 (.nd 49 (.lf 48 ZHn) (.lf 49 ZHn)) (.nd 51 (.lf 50 ZE1) (.lf 51 ZE1)))) (.nd 56 (.nd 54 (.lf 53 Zbc) (.nd 55 (.lf 54 Zbc) (.lf 55 Zbc))) (.nd 58 (.nd 57 (.lf 56 Zbc) (.lf 57 Zbc)) (.nd 59 (.lf 58 Zbc) (.lf 59 Zbc))))))) (.nd 89 (.nd 75 (.nd 66 (.nd 63 (.nd 61 (.lf 60 Zbc) (.nd 62 (.lf 61 Zbc) (.lf 62 Zbc))) (.nd 64 (.lf 63 ⟨.smap,1,8,[.nilmp],none⟩) (.nd 65 (.lf 64 ZGQ) (.lf 65 ZGQ)))) (.nd 69 (.nd 67 (.lf 66 Zbc) (.nd 68 (.lf 67 ZGJ) (.lf 68 ZGJ))) (.nd 72 (.nd 70 (.lf 69 Zbc) (.lf 70 ⟨.slice 3,1,24,[.nils],some (.l (.i .i64))⟩)) (.nd 74 (.lf 72 Zbc) (.lf 74 Zbc))))) (.nd 82 (.nd 78 (.nd 76 (.lf 75 Zbc) (.nd 77 (.lf 76 Zbc) (.lf 77 Zbc))) (.nd 80 (.nd 79 (.lf 78 Zbc) (.lf 79 Zbc)) (.nd 81 (.lf 80 Zbc) (.lf 81 Zbc)))) (.nd 85 (.nd 83 (.lf 82 Zbc) (.nd 84 (.lf 83 Zbc) (.lf 84 ZHn))) (.nd 87 (.nd 86 (.lf 85 ZHn) (.lf 86 Zbc)) (.nd 88 (.lf 87 Zbc) (.lf 88 ZyH)))))) (.nd 104 (.nd 97 (.nd 92 (.nd 90 (.lf 89 Zbc) (.nd 91 (.lf 90 ⟨.slice 99,1,24,[.nils],some (.l (.p (.p (.b) (.l (.i .u32))) (.p (.b) (.l (.i .u32)))))⟩) (.lf 91 Zbc))) (.nd 95 (.nd 94 (.lf 92 Zbc) (.lf 94 Zbc)) (.nd 96 (.lf 95 ⟨.slice 162,1,24,[.nils],some (.l (.i .u32))⟩) (.lf 96 ZE7)))) (.nd 100 (.nd 98 (.lf 97 ZE7) (.nd 99 (.lf 98 ZFE) (.lf 99 ZFE))) (.nd 102 (.nd 101 (.lf 100 Zbc) (.lf 101 ZHH)) (.nd 103 (.lf 102 Zbc) (.lf 103 Zbc))))) (.nd 111 (.nd 107 (.nd 105 (.lf 104 Zbc) (.nd 106 (.lf 105 Zbc) (.lf 106 Zbc))) (.nd 109 (.nd 108 (.lf 107 Zbc) (.lf 108 Zbc)) (.nd 110 (.lf 109 Zbc) (.lf 110 Zbc)))) (.nd 114 (.nd 112 (.lf 111 ⟨.slice 5,1,24,[.nils],some (.l (.i .u8))⟩) (.nd 113 (.lf 112 ZGL) (.lf 113 ZGL))) (.nd 116 (.nd 115 (.lf 114 Zbc) (.lf 115 ⟨.slice 118,1,24,[.nils],some (.l (.p (.i .i64) (.p (.i .i64) (.i .i64))))⟩)) (.nd 117 (.lf 116 Zbc) (.lf 117 ZGT)))))))) (.nd 182 (.nd 147 (.nd 132 (.nd 124 (.nd 121 (.nd 119 (.lf 118 ZGT) (.nd 120 (.lf 119 ZyH) (.lf 120 Zbc))) (.nd 122 (.lf 121 Zbc) (.nd 123 (.lf 122 ⟨(.imap (.i .i64)),1,8,[.nilmp],none⟩) (.lf 123 ZEI)))) (.nd 127 (.nd 125 (.lf 124 ZEI) (.nd 126 (.lf 125 ZFY) (.lf 126 ZFY))) (.nd 129 (.nd 128 (.lf 127 Zbc) (.lf 128 Zbc)) (.nd 130 (.lf 129 ⟨(.imap .b),1,8,[.nilmp],none⟩) (.lf 130 Zbc))))) (.nd 140 (.nd 136 (.nd 134 (.lf 132 Zbc) (.nd 135 (.lf 134 Zbc) (.lf 135 Zbc))) (.nd 138 (.nd 137 (.lf 136 Zbc) (.lf 137 Zbc)) (.nd 139 (.lf 138 Zbc) (.lf 139 Zbc)))) (.nd 143 (.nd 141 (.lf 140 ⟨.slice 141,1,24,[.nils],some (.l (.p (.i .i64) (.i .i64)))⟩) (.nd 142 (.lf 141 ⟨.arr 2 3,2,16,[.v (.i .i64) (0:Int), .v (.i .i64) (0:Int)],some (.p (.i .i64) (.i .i64))⟩) (.lf 142 Zbc))) (.nd 145 (.nd 144 (.lf 143 Zbc) (.lf 144 ZyH)) (.nd 146 (.lf 145 Zbc) (.lf 146 Zbc)))))) (.nd 164 (.nd 156 (.nd 151 (.nd 148 (.lf 147 Zbc) (.nd 150 (.lf 148 Zbc) (.lf 150 Zbc))) (.nd 154 (.nd 153 (.lf 151 Zbc) (.lf 153 Zbc)) (.nd 155 (.lf 154 Zbc) (.lf 155 Zbc)))) (.nd 160 (.nd 157 (.lf 156 ZHP) (.nd 158 (.lf 157 ZIm) (.lf 158 ZIm))) (.nd 162 (.nd 161 (.lf 160 Zbc) (.lf 161 Zbc)) (.nd 163 (.lf 162 ⟨.int .u32,1,4,[.v (.i .u32) (0:Int)],some (.i .u32)⟩) (.lf 163 ZHP))))) (.nd 173 (.nd 168 (.nd 166 (.lf 164 Zbc) (.nd 167 (.lf 166 Zbc) (.lf 167 Zbc))) (.nd 171 (.nd 169 (.lf 168 Zbc) (.lf 169 Zbc)) (.nd 172 (.lf 171 Zbc) (.lf 172 Zbc)))) (.nd 177 (.nd 175 (.lf 173 Zbc) (.nd 176 (.lf 175 Zbc) (.lf 176 Zbc))) (.nd 180 (.nd 179 (.lf 177 Zbc) (.lf 179 Zbc)) (.nd 181 (.lf 180 Zbc) (.lf 181 Zbc))))))) (.nd 216 (.nd 200 (.nd 192 (.nd 187 (.nd 184 (.lf 182 Zbc) (.nd 185 (.lf 184 Zbc) (.lf 185 Zbc))) (.nd 190 (.nd 188 (.lf 187 Zbc) (.lf 188 Zbc)) (.nd 191 (.lf 190 Zbc) (.lf 191 ZyH)))) (.nd 196 (.nd 193 (.lf 192 ZFt) (.nd 194 (.lf 193 ZFt) (.lf 194 Zbc))) (.nd 198 (.nd 197 (.lf 196 Zbc) (.lf 197 Zbc)) (.nd 199 (.lf 198 Zbc) (.lf 199 ZHl))))) (.nd 209 (.nd 203 (.nd 201 (.lf 200 Zbc) (.nd 202 (.lf 201 ZyH) (.lf 202 Zbc))) (.nd 205 (.nd 204 (.lf 203 Zbc) (.lf 204 Zbc)) (.nd 207 (.lf 205 Zbc) (.lf 207 Zbc)))) (.nd 212 (.nd 210 (.lf 209 Zbc) (.nd 211 (.lf 210 ZyH) (.lf 211 Zbc))) (.nd 214 (.nd 213 (.lf 212 Zbc) (.lf 213 ZGj)) (.nd 215 (.lf 214 ZGj) (.lf 215 Zbc)))))) (.nd 232 (.nd 225 (.nd 219 (.nd 217 (.lf 216 Zbc) (.nd 218 (.lf 217 ⟨.arr 24 5,24,24,List.replicate 24 (.v (.i .u8) (0:Int)),none⟩) (.lf 218 Zbc))) (.nd 223 (.nd 221 (.lf 219 Zbc) (.lf 221 Zbc)) (.nd 224 (.lf 223 Zbc) (.lf 224 ZyH)))) (.nd 228 (.nd 226 (.lf 225 ZGV) (.nd 227 (.lf 226 ZGV) (.lf 227 Zbc))) (.nd 230 (.nd 229 (.lf 228 ⟨.arr 20 156,20,160,List.replicate 20 (.v (.i .u64) (0:Int)),none⟩) (.lf 229 ⟨.arr 65 5,65,65,List.replicate 65 (.v (.i .u8) (0:Int)),none⟩)) (.nd 231 (.lf 230 Zbc) (.lf 231 Zbc))))) (.nd 239 (.nd 235 (.nd 233 (.lf 232 ⟨.arr 32 5,32,32,List.replicate 32 (.v (.i .u8) (0:Int)),none⟩) (.nd 234 (.lf 233 ⟨.arr 64 5,64,64,List.replicate 64 (.v (.i .u8) (0:Int)),none⟩) (.lf 234 ZFS))) (.nd 237 (.nd 236 (.lf 235 ZFS) (.lf 236 ⟨.arr 0 16,0,0,[],none⟩)) (.nd 238 (.lf 237 ZFw) (.lf 238 ZFw)))) (.nd 242 (.nd 240 (.lf 239 ZHA) (.nd 241 (.lf 240 ZHA) (.lf 241 Zbc))) (.nd 244 (.nd 243 (.lf 242 ZH7) (.lf 243 ZH7)) (.nd 245 (.lf 244 ZGa) (.lf 245 ZGa)))))))))
def tys (t:Nat):TI:=ZJg.find t
def Zab:TysOK Tryz.prog tys:=ZGr (tr:=ZJg) (by decide+kernel)
end Go.Proofs.YtplkkbcnilnfaaaGreatDoor
