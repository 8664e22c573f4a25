/- The reference's Joined: its rows, the edges, the whole. -/
import Derived.Test.YtpdhpbldangmbaaGreatDoorFi
set_option linter.all false
set_option maxHeartbeats 32000000
set_option maxRecDepth 100000
open Go.Proofs.Tryz
open Go.IntKind(i64)
namespace Go.Tx
open Go.Am
section
variable {P:Program} {h:Hints} {T:TypeId->TI} {hp:List SM} {tm:TM} {N:Nat} {ls:List Nat} {l:List Oper} {i:Nat} {ks:List (Nat × Nat × Bool)} {kk:TM->List SM->Prop} {o:Oper}
def ZIa {t:TypeId} {x:Operand} {id a r:Nat} (hi:has i ls=true) (ho:o.op= .load t x) (j:evS tm x=some (.ptr id a r)) (C:opT P h T (.load t x) tm hp λV hp'=>ZcX N o.dst V tm λtm'=>ZaL P h T N ls l (i+1) ((i,id,true)::ks) tm' hp' kk):ZaL P h T N ls (o::l) i ks tm hp kk:=by grind [ZaL]
def ZKM {y:Nat×Nat×Bool} {C:List (Nat×Nat×Bool)} {I J j r:Nat} {ids:List Nat} {t:TypeId} {a x:Operand} (hi:has i ls=false) (hd:Zpd h o ks=y::C) (hw:isW h o=true) (hl:ZkN (y::C)=I::ids) (ho:o.op= .store t a x) (R:evS tm a=some (.ptr J j r)) (U:(ZeR hp J&&Zc4 hp (I::ids)&& !Zmj J (I::ids))=true)
 (hk:opT P h T (.store t a x) tm hp λV hp'=>ZcX N o.dst V tm λtm'=>ZaL P h T N ls l (i+1) (y::C) tm' hp' kk):ZaL P h T N ls (o::l) i ks tm hp kk:=by grind [ZaL]
end
end Go.Tx
namespace Go.Proofs.YtpdhpbldangmbaaGreatDoor
open Go.Am Go.Tx Ne Dv Go.Lib La
section
variable (n:Nat) (hn:n <= 1000) (l:List (Nat × Nat)) (fv:SV)
def vRw (i:Nat):TM:=[(0,nt n),(1, .v (.l E2) (el l)),(2,fv),(7, .ref 0 0 n none),(17,nt n),(18,nt i)]
include hn
theorem jnR:LoopOK prog Zai 0 ⟨46,0,107⟩ (ZaN Tryz.f46 3) (vRw n l fv 0) (hR n 0)
 (λe tm hp=>e= .exit 0/\Ent 0 tm hp [(0,nt n),(1, .v (.l E2) (el l)),(2,fv),(7, .ref 0 0 n none)] (hJ ((List.range n).map (Zgf n)) [])):=by
 refine Zaq Zaa rfl (vRw n l fv) (hR n) (λi=>i<=n) (λi=>n-i) ?_ 0 (Xak _) Zaj;intro i hi;cases J:decide ((i:Int)<(n:Int))with
 |false=>have he:i=n:=fO J;subst he;refine auG ?_;refine brF J ?_;exact⟨rfl,Ent.eqs ZHh (Zah ⟨rfl,rfl,rfl,rfl,trivial⟩)⟩
 |true=>
  have j:i<n:=tO J;have ci:=cin j;have R:0+(i:Int).toNat=i:=(by rw[Xab,Xag]);have en:=Xab n;have ab:(0:Int)<=(n:Int)/\(n:Int)<=(n:Int)/\(1:Int)*(n:Int)<=281474976710656/\(n:Int)<9223372036854775808:=oM;have ad:0+(i:Int).toNat<(Zwb n i).length:=(by rw[R,Zfx];exact j);have hA: ∀x:List SM,nth (hR n i++x) 0=some (.many (.l .b) (Zwb n i) true):=λ_=>rfl
  have w1:=cI (ZbA (k:=i) oM);(let⟨E,eE⟩: ∃E,(Zwb n i).set i (.ref (i+1) 0 n none)=E:=⟨_,rfl⟩);have hx: ∀L N',L=i+1->N'=n->(hR n i++ [SM.row .b (List.replicate N' false) true]).set 0 (.many (.l .b) ((Zwb n i).set (0+(i:Int).toNat) (.ref L 0 N' none)) true)= .many (.l .b) E true::(((List.range i).map λa=>SM.row .b (Zgf n a) true)++ [.row .b (List.replicate n false) true]):=λL N' J h2=>by rw[J,h2,R,eE];rfl
  have U:E[0+(i:Int).toNat]? =some (.ref (i+1) 0 n none):=(by rw[R,<-eE];exact XaN (by rw[Zfx];exact j));have C:((List.range i).map λa=>SM.row .b (Zgf n a) true).length=i:=(by rw[Xar,XaX]);have I:nth (SM.many (.l .b) E true::(((List.range i).map λa=>SM.row .b (Zgf n a) true)++ [.row .b (List.replicate n false) true])) (i+1)=some (.row .b (List.replicate n false) true):=(by show nth (((List.range i).map λa=>SM.row .b (Zgf n a) true)++ [.row .b (List.replicate n false) true]) i=_;rw[ZaA,Xaw (by rw[C];exact Xae _),C,Xbi];rfl);have gy:(List.replicate n false)[0+(i:Int).toNat]? =some false:=(by rw[R,XaZ,if_pos j]);have aa:(SM.many (.l .b) E true::(((List.range i).map λa=>SM.row .b (Zgf n a) true)++ [.row .b (List.replicate n false) true])).set (i+1) (.row .b ((List.replicate n false).set (0+(i:Int).toNat) true) true)=hR n (i+1):=(by rw[R,List.set_cons_succ,List.set_append_right _ _ (by rw[C];exact Xae _),C,Xbi,<-eE,ZBi j,hR,XbP,Xbb];rfl);refine auG ?_;refine brT J ?_;refine auG ?_;refine auH ?_;refine Zag rfl (Xaa ab ?_);refine Zaf rfl rfl ?_;refine Zag rfl (ZaQ rfl rfl rfl rfl rfl (hA _) rfl ci ?_);refine Zaf rfl rfl ?_;refine Zag rfl (Zgl rfl rfl rfl (hA _) rfl rfl rfl ad ?_);refine Zat rfl ?_;refine Zg0 ?_;refine ZHG ?_;refine Zgb (hx _ _ ZJ6 en) ?_;refine auM ?_;refine Zag rfl (ZaQ rfl rfl rfl rfl rfl rfl rfl ci ?_);refine Zaf rfl rfl ?_;refine Zag rfl (Za0 rfl rfl rfl U rfl ?_);refine Zaf rfl rfl ?_;refine Zl9 ?_;refine Zag rfl (ZaI rfl rfl rfl rfl rfl I rfl ci ?_);refine Zaf rfl rfl ?_;refine Zag rfl (Zbw rfl rfl rfl I rfl gy rfl rfl rfl ?_);refine Zat rfl ?_;refine Zg0 ?_;refine auG ?_;exact⟨i+1,j,XaJ j (XaA i),Ent.eqs aa (Zah ⟨rfl,rfl,rfl,rfl,rfl,w1,trivial⟩)⟩
end
def Zyd {n:Nat} {T:List (List Bool)} {ex:List SM} (hT:Sq n T):(hJ T ex).length=n+1+ex.length:=by rw[hJ,Xao,Xal,Zal,hT.1];omega
def ZH0 {n:Nat} {T:List (List Bool)} {c:SM} (hT:Sq n T):nth (hJ T [c]) (n+1)=some c:=by rw[show n+1=(ZaP .b T).length+1 by rw[Zal,hT.1]];exact ZcD
def ZzQ {T:List (List Bool)} {c:SM}:hJ T []++ [c]=hJ T [c]:=by rw[hJ,hJ,Xa5,Xa7,Xba]
def ZH2 {n:Nat} {T:List (List Bool)} (hT:Sq n T): ∀m∈hJ T [],∀id∈Zd0 m,id<(hJ T []).length:=by intro m hm id hid;rw[Zyd hT];rw[hJ,XaQ]at hm;rcases XaF.1 hm with rfl|hm;have:=ZcT (by simpa only[Zd0]using hid);rw[hT.1]at this;simp only[Xbq];omega;obtain⟨x,_,rfl⟩:=XaT.1 hm;exact absurd hid Xaq
def Zz5 {n:Nat} {T:List (List Bool)} {c:SM} {tm tm':TM} (hT:Sq n T) (j:ZxX (n+1) tm tm'):Ent 0 tm (hJ T [c]) tm' (hJ T []):=by rw[<-ZzQ];have hl:(hJ T []).length=n+1:=Zyd hT;exact Zep (Xak _) (by rw[hl];exact j) (ZH2 hT)
section
variable (n:Nat) (hn:n <= 1000) (l:List (Nat × Nat)) (hl:l.length <= 1000) (ho:okL n l) (used:Nat->Bool) (g:FuncId) (ds:List SV)
def vE (k:Nat):TM:=[(0,nt n),(2, .func g [] ds),(7, .ref 0 0 n none),(33, .v (.l E2) (el l)),(34,nt l.length),(35,nt k)]
include hn hl ho
theorem jnE (hU: ∀ (hp:List SM) (K:SV->List SM->Prop) (k:Nat),k<l.length->K (.v .b (used k)) hp->ZbY prog Zai g (.v IC (k:Int)::ds) hp K) (ab: ∀id∈rchL ds,False) (T0:List (List Bool)) (ad:Sq n T0):LoopOK prog Zai 0 ⟨46,0,107⟩ (ZaN Tryz.f46 9) (vE n l g ds 0) (hJ T0 [])
 (λe tm hp=>e= .exit 2/\Ent 0 tm hp [(0,nt n),(7, .ref 0 0 n none)] (hJ (ZgV used 0 l T0) [])):=by
 refine Zcc rfl (λ(t:Nat×List (List Bool))=>vE n l g ds t.1) (λt=>hJ t.2 []) (λt=>t.1<=l.length/\Sq n t.2/\ZgV used t.1 (l.drop t.1) t.2=ZgV used 0 l T0) (λt=>l.length-t.1) ?_ (0,T0) ⟨Xak _,ad,rfl⟩ Zaj;rintro⟨k,T⟩ ⟨hk,hT,he⟩;simp only at hk hT he;cases h1:decide ((k:Int)<(l.length:Int))with
 |false=>have ae:k=l.length:=fO h1;have eT:T=ZgV used 0 l T0:=(by rw[<-he,ae,Xbo];rfl);refine Zad Zaa ?_;refine auG ?_;refine brF h1 ?_;exact⟨rfl,Ent.eqs (by rw[eT]) (Zah ⟨rfl,rfl,trivial⟩)⟩
 |true=>
  have C:k<l.length:=tO h1;obtain⟨⟨a,b⟩,ex⟩: ∃x,l[k]=x:=⟨_,rfl⟩;obtain⟨R,U⟩:a<n/\b<n:=(by have:=ho (l[k]) (XaI C);rw[ex]at this;exact this);have gx:(el l)[(k:Int).toNat]? =some ((a:Int),(b:Int)):=(by rw[Xab,XaD,Xac C,ex];rfl);have hs:ZgV used k (l.drop k) T=ZgV used (k+1) (l.drop (k+1)) (if used k=true then Zmi (Zmi T a b true) b a true else T):=(by rw[XaM C,ex,ZgV]);rw[hs]at he;have w1:=cI (ZbA (k:=k) oM);have af:(hJ T []).length=n+1:=Zyd hT;have c0:(0:Int)<=0/\(0:Int)<2:=oM;have c1:(0:Int)<=1/\(1:Int)<2:=oM;have ca:=cin R;have cb:=cin U;have dr: ∀tm,ZxX (n+1) (vE n l g ds k) tm->True:=λ_ _=>trivial
  have aa: ∀tm:TM,ZbJ 0 tm=some (nt n)->ZbJ 2 tm=some (.func g [] ds)->ZbJ 7 tm=some (.ref 0 0 n none)->ZbJ 33 tm=some (.v (.l E2) (el l))->ZbJ 34 tm=some (nt l.length)->ZbJ 35 tm=some (nt k)->ZxX (n+1) tm (vE n l g ds k):=λtm h0 h2 h7 ag ah ai=>
   ⟨h0,ZaO,h2,λid hid=>(ab id hid).elim,h7,ZaF (Nat.succ_pos n),ag,ZaO,ah,ZaO,ai,ZaO,trivial⟩
  refine Zac (Zad Zaa ?_);refine auG ?_;refine Zac (Zad Zaa ?_);refine brT h1 ?_;refine ZaB (vE n l g ds k) (hJ (if used k=true then Zmi (Zmi T a b true) b a true else T) []) (Zao rfl ?_) (Zad Zaa ?_);refine ZaB ((9,nt k)::(10, .ptr (n+1) 0 0)::vE n l g ds k) (hJ T [.cell [.v IC (a:Int), .v IC (b:Int)] true]) (Zad Zaa ?_) (Zcq (Zad Zaa ?_));skip;refine auH ?_;refine Zag rfl (ZaS rfl rfl rfl ZcD rfl rfl rfl rfl ?_);refine Zat rfl ?_;refine Zg0 ?_;exact⟨rfl,Ent.eqs (Zoe.trans ZzQ) (Zah ⟨rfl,congrArg (λx=>some (SV.ptr x 0 0)) af,rfl,rfl,rfl,rfl,rfl,rfl,trivial⟩)⟩;(cases hu:used k with|false=>have I:=λhp K=>hU hp K k C;rw[hu]at I;refine auH ?_;refine Zag rfl (I _ _ ?_);refine Zaf rfl rfl ?_;refine Zg0 ?_;refine brF rfl ?_;rw[if_neg Bool.false_ne_true];exact⟨_,_,Zaj,rfl,Zz5 hT (aa _ rfl rfl rfl rfl rfl rfl)⟩|true=>have I:=λhp K=>hU hp K k C;rw[hu]at I;have aj:=ZBn hT R;have ak:=ZBn hT U;have J:=hT.set R b true;have al:=Zzm hT R U;have an:=Zzm J U R;have j:=λc=>ZH0 (c:=c) hT;refine auH ?_;refine Zag rfl (I _ _ ?_);refine Zaf rfl rfl ?_;refine Zg0 ?_;refine brT rfl ?_;refine ZDm ?_;refine Zak rfl rfl (opv (λ_=>rfl) rfl rfl ?_);refine Zak rfl rfl (opc (λ_=>rfl) c0 rfl rfl ?_);refine Zak rfl rfl (ZbK rfl rfl (j _) rfl rfl ?_);refine Zan rfl rfl ?_;refine Zak rfl rfl (ZaQ rfl rfl rfl rfl rfl rfl rfl ca ?_);refine Zan rfl rfl ?_;refine Zak rfl rfl (Za0 rfl rfl rfl aj rfl ?_);refine Zan rfl rfl ?_;refine Zak rfl rfl (opc (λ_=>rfl) c1 rfl rfl ?_);refine Zak rfl rfl (ZbK rfl rfl (j _) rfl rfl ?_);refine Zan rfl rfl ?_;refine Zak rfl rfl (opv (λ_=>rfl) rfl rfl ?_);refine Zak rfl rfl (opc (λ_=>rfl) c1 rfl rfl ?_);refine Zak rfl rfl (ZbK rfl rfl (j _) rfl rfl ?_);refine Zan rfl rfl ?_;refine Zak rfl rfl (ZaQ rfl rfl rfl rfl rfl rfl rfl cb ?_);refine Zan rfl rfl ?_;refine Zak rfl rfl (Za0 rfl rfl rfl ak rfl ?_);refine Zan rfl rfl ?_;refine ZEB rfl rfl rfl (λ_=>rfl) c0 rfl rfl ?_;refine ZIa rfl rfl rfl (ZbK rfl rfl (j _) rfl rfl ?_);refine Zan rfl rfl ?_;refine Zak rfl rfl (ZaI rfl rfl rfl rfl rfl (Zk5 hT R) rfl cb ?_);refine Zan rfl rfl ?_;have ao:Nat.beq (a+1) (n+1)=false:=(by cases h:Nat.beq (a+1) (n+1)with|true=>have:=Xay h;omega|false=>rfl);have hc:(ZeR (hJ T [.cell [.v IC (a:Int), .v IC (b:Int)] true]) (a+1)&&Zc4 (hJ T [.cell [.v IC (a:Int), .v IC (b:Int)] true]) [n+1]&& !Zmj (a+1) [n+1])=true:=(by simp only[ZeR,Zc4,Zmj,Zk5 hT R,ZH0 hT,live,ao];rfl);refine ZKM rfl rfl rfl rfl rfl rfl hc (Zbw rfl rfl rfl (Zk5 hT R) rfl al rfl rfl rfl ?_);refine Zat rfl ?_;refine Zmx (ZxW hT R) ?_;refine Zak rfl rfl (ZaI rfl rfl rfl rfl rfl (Zk5 J U) rfl ca ?_);refine Zan rfl rfl ?_;refine ZeC rfl rfl (Zbw rfl rfl rfl (Zk5 J U) rfl an rfl rfl rfl ?_);refine Zat rfl ?_;refine ZAS ?_;rw[if_pos rfl];refine⟨_,_,Ent.eqs (ZxW J U) Zaj,rfl,Zz5 (J.set U a true) (aa _ rfl rfl rfl rfl rfl rfl)⟩);skip;refine auG ?_;refine⟨(k+1,if used k=true then Zmi (Zmi T a b true) b a true else T),⟨C, ?_,he⟩,XaJ C (XaA k),Zah ⟨rfl,rfl,rfl,rfl,rfl,w1,trivial⟩⟩;show Sq n (if used k=true then Zmi (Zmi T a b true) b a true else T);split;exact(hT.set R b true).set U a true;exact hT
theorem Zue (hU: ∀ (hp:List SM) (K:SV->List SM->Prop) (k:Nat),k<l.length->K (.v .b (used k)) hp->ZbY prog Zai g (.v IC (k:Int)::ds) hp K) (C: ∀id∈rchL ds,False):PureOK prog Zai 46 [nt n, .v (.l E2) (el l), .func g [] ds] (λV=>V= .v bM (Zbo used n l)):=by
 refine Zb8 (code:=bodyOf Tryz.f46) Zaa kR rfl func46 kR (Xam kR) ?_;obtain⟨Q,U⟩: ∃Q:SV->Prop,(λV=>V=SV.v bM (Zbo used n l))=Q:=⟨_,rfl⟩;rw[U];have hQ:Q (.v bM (Zbo used n l)):=by rw[<-U]
 show CodeOK prog Zai 0 ⟨46,0,107⟩ (bodyOf Tryz.f46) [(0,nt n),(1, .v (.l E2) (el l)),(2, .func g [] ds)] [] (ZjR tys Tryz.f46.results.toList λV hp=>ZbS hp 40 V Q);have I:(0:Int)<=(n:Int)/\(n:Int)<=(n:Int)/\(24:Int)*(n:Int)<=281474976710656/\(n:Int)<9223372036854775808:=oM;have J:(el l).length=l.length:=Xar _;have hI:=Zgd n;have hE:=Zif (used:=used) 0 ho hI;refine Zac (Zad Zaa ?_);refine auG ?_;refine Zac (Zad Zaa ?_);refine auH ?_;refine Zag rfl (Xaa I ?_);refine Zaf rfl rfl ?_;refine auN ?_;refine Zac (Zac (Zad Zaa ?_));refine auG ?_;refine Zao rfl (ZaH ?_);refine((jnR n hn l (.func g [] ds)).ent ?_).mono ?_;have R:((n:Nat):Int).toNat=n:=Xab _;refine Ent.eqs (hp0:=hR n 0) ?_ (Zah ⟨rfl,rfl,rfl,congrArg (λx=>some (SV.ref 0 0 x none)) R,congrArg (λx:Nat=>some (nt x)) R,rfl,trivial⟩);rw[hR,Zyq];show[SM.many (.l .b) (List.replicate ((n:Nat):Int).toNat .nils) true]=_;rw[R];rfl;rintro _ tm hp ⟨rfl,j⟩;refine CodeOK.ent ?_ j;refine Zac (Zac (Zad Zaa ?_));refine auG ?_;refine Zao rfl (ZaH ?_);refine((jnE n hn l hl ho used g ds hU C _ hI).ent ?_).mono ?_;exact Zah ⟨rfl,rfl,rfl,rfl,congrArg (λx:Nat=>some (nt x)) J,rfl,trivial⟩;rintro _ tm hp ⟨rfl,j⟩;refine CodeOK.ent ?_ j;refine Zac (Zac (Zad Zaa ?_));refine auG ?_;refine Zao rfl (ZaH ?_);refine((jnM n hn _ hE).ent ?_).mono ?_;exact Zah ⟨rfl,rfl,rfl,rfl,trivial⟩;rintro _ tm hp ⟨rfl,j⟩;refine CodeOK.ent ?_ j;refine Zac (Zad Zaa ?_);refine auG ?_;refine Zad Zaa ?_;have hW:=ZCR n 0 hE;have hx:ZbS (hJ (Zbo used n l) []) (37+3) (.ref 0 0 n none) Q:=Zyh (fr:=[]) (ct:= .b) rfl hW.1.symm hQ;exact hx
end
def ZEh (l:List Int) (hl:l.length<=1000) (hb: ∀x∈l,0<=x/\x<=1000):PureOK prog Zai 19 [.v (.l IC) l] (λV=>V= .v IC (Zc8 l)):=by
 refine Zae Zaa func19 ?_;refine axT ?_;refine Zaq Zaa rfl (λ(i:Nat)=> [(3, .v IC (Zc8 (l.take i))),(6, .v (.l IC) l),(7,nt l.length),(8,nt i)]) (λ_=> []) (λi=>i<=l.length) (λi=>l.length-i) ?_ 0 (Xak _) (eK);intro i hi;cases J:decide ((i:Int)<(l.length:Int))with
 |false=>have e:i=l.length:=fO J;refine auG ?_;refine brF J ?_;show wp _ _ _ _ _ _ _ _ _;refine auG ?_;exact congrArg (λx=>SV.v IC x) (by rw[e,Xa1])
 |true=>
  have j:i<l.length:=tO J;obtain⟨x,C,gx⟩:=ZdM j;have hx:=hb x (XaC C);have I:Zc8 (l.take (i+1))=if x+1>Zc8 (l.take i)then x+1 else Zc8 (l.take i):=by rw[Zgg C,ZmG]
  have R:=cI (ZbA (k:=i) oM);refine axT ?_;cases U:decide (x≥Zc8 (l.take i))with|true=>have h3:=dT U;rw[if_pos oM]at I;have hw:i64.wrap (x+1)=Zc8 (l.take (i+1)):=(by rw[I];exact Zap oM oM);refine axT ?_;exact⟨i+1,j,XaJ j (XaA i),Zah ⟨congrArg (λx=>some (SV.v IC x)) hw,rfl,rfl,R,trivial⟩⟩|false=>have h3:=dF U;rw[if_neg oM]at I;refine axT ?_;exact⟨i+1,j,XaJ j (XaA i),Zah ⟨congrArg (λx=>some (SV.v IC x)) I.symm,rfl,rfl,R,trivial⟩⟩
def vZr (n i:Nat):TM:=[(3, .ref 0 0 i none),(4,nt n),(5,nt i)]
def Zt5 (n:Nat) (hn:n<=1000):ImpOK prog Zai 27 [nt n] (ZAl (ct:= .s) n (List.replicate n ([48]:Txt))):=by
 refine Zb2 Zaa func27 ?_;show CodeOK prog Zai 0 ⟨27,0,12⟩ (bodyOf Tryz.f27) [(0,nt n)] [] (ZjR tys Tryz.f27.results.toList λV hp=>ZwP (ZAl (ct:= .s) n (List.replicate n ([48]:Txt))) V hp);refine Zad Zaa ?_;refine axT ?_;refine Zaq Zaa rfl (vZr n) (λi=> [.row .s (List.replicate i [48]) true]) (λi=>i<=n) (λi=>n-i) ?_ 0 (Xak _) ?_;case refine_2=>
  refine Ent.trans (tm1:=(3, .ref 0 0 0 none)::[(4,nt n),(5,nt 0)]) (hp1:=[.row .s ([]:List Txt) true]) (Zfu (k:=3) (ct:= .s) (Xak _) rfl ⟨rfl,rfl,trivial⟩) ?_
  exact eK
 intro i hi;have C:(List.replicate i ([48]:Txt)).length=i:=XaE;cases I:decide ((i:Int)<(n:Int))with|false=>have e:i=n:=fO I;refine auG ?_;refine brF I ?_;show wp _ _ _ _ _ _ _ _ _;refine auG ?_;subst e;exact ZlZ Zaj rfl rfl|true=>have j:i<n:=tO I;have J:(i+1)*16<=140737488355328:=oM;have R:=cI (ZbA (k:=i) oM);refine axT ?_;refine Zag rfl (ZbX rfl rfl rfl rfl rfl rfl rfl rfl rfl rfl rfl C.symm J ?_);refine axT ?_;refine⟨i+1,j,XaJ j (XaA i), ?_⟩;show Ent 0 _ _ (vZr n (i+1)) [.row .s (List.replicate (i+1) [48]) true];rw[show List.replicate (i+1) ([48]:Txt)=List.replicate i [48]++ [[48]]from List.replicate_succ'];exact Zbz [2] rfl ⟨rfl,trivial⟩ ⟨rfl,rfl,R,trivial⟩
def swL (n:Ne.Net) (i:Nat):List (Nat×Nat):=(n.sws.take i).map (swE n)
def vSg (n:Ne.Net) (i:Nat):TM:=[(1, .ptr 0 0 0),(3, .ref 1 0 i none),(7, .v (.l Zw1) n.sws),(8,nt n.sws.length),(9,nt i)]
def Zky (n:Ne.Net) (hf:Fine n):ImpOK prog Zai 45 [.agg (Zch n)] (ZAl (ct:=E2) n.sws.length (el (swA n))):=by
 refine Zb2 Zaa func45 ?_;show CodeOK prog Zai 0 ⟨45,0,29⟩ (bodyOf Tryz.f45) [(0, .agg (Zch n))] [] (ZjR tys Tryz.f45.results.toList λV hp=>ZwP (ZAl (ct:=E2) n.sws.length (el (swA n))) V hp);refine Zad Zaa ?_;obtain⟨b1,b2,b3,b4,b5,b6⟩:=ZaC hf;refine axT ?_;refine Zaq Zaa rfl (vSg n) (λi=> [.cell (Zch n) true, .row E2 (el (swL n i)) true]) (λi=>i<=n.sws.length) (λi=>n.sws.length-i) ?_ 0 (Xak _) ?_;case refine_2=>
  refine Ent.trans (tm1:=(3, .ref 1 0 0 none)::[(1, .ptr 0 0 0),(7, .v (.l Zw1) n.sws),(8,nt n.sws.length),(9,nt 0)]) (hp1:=[.cell (Zch n) true, .row E2 ([]:List (Int×Int)) true]) (Zfu (k:=3) (ct:=E2) (Xak _) rfl ⟨rfl,rfl,rfl,rfl,trivial⟩) ?_
  exact eK
 intro i hi;have I:(el (swL n i)).length=i:=by rw[Xar,swL,Xar,Xaz];omega
 cases J:decide ((i:Int)<(n.sws.length:Int))with|false=>have e:i=n.sws.length:=fO J;have R:el (swL n i)=el (swA n):=(by rw[swL,e,Xa1,swA]);refine auG ?_;refine brF J ?_;show wp _ _ _ _ _ _ _ _ _;refine auG ?_;subst e;exact ZlZ (Zbz [1] rfl ⟨congrArg (λz=>some (SM.row E2 z true)) R,trivial⟩ ⟨rfl,trivial⟩) rfl rfl|true=>have j:i<n.sws.length:=tO J;obtain⟨x,C,gx⟩:=ZdM j;have hd:=ZqB hf (XaC C);have U:=ZfB (bb:=true) n.nodes x.2.1 oM;have hB:=ZfB (bb:=true) n.nodes x.2.2.1 oM;rw[(Zce hd.1).1]at U;rw[(Zce hd.2).1]at hB;have hz:(i+1)*16<=140737488355328:=oM;have es:some (SM.row E2 (el (swL n i)++ [(((plN n x.2.1:Nat):Int),((plN n x.2.2.1:Nat):Int))]) true)=some (SM.row E2 (el (swL n (i+1))) true):=(by rw[swL,swL,Zgg C,Xbb,el,el,Xbb];rfl);have w1:=cI (ZbA (k:=i) oM);refine axT ?_;refine Zag rfl (ZbX rfl rfl rfl rfl rfl rfl rfl rfl rfl rfl rfl I.symm hz ?_);refine axT ?_;refine⟨i+1,j,XaJ j (XaA i), ?_⟩;exact Zbz [0,4] rfl ⟨rfl,es,trivial⟩ ⟨rfl,rfl,rfl,rfl,w1,trivial⟩
end Go.Proofs.YtpdhpbldangmbaaGreatDoor
namespace Go.Tx
open Go.Am
section
variable {P:Program} {h:Hints} {T:TypeId->TI} {tm:TM} {hp:List SM}
def Zgh {op:Op} {c:Call} {f:FuncId} {U V W:SV} {k:SV->List SM->Prop} (ho:op= .call c) (j:c.callee= .value (.func f)) (C:evL tm c.args.toList=some [U,V,W]) (I:h.opn f=false) (J:h.imp f=false) (h3:h.mem f=true) (he:ZbS hp 40 U λu=>ZbS hp 40 V λv=>ZbS hp 40 W λw=>PureOK P h f [u,v,w] λR=>k R (frzT hp (ZdC hp [U,V,W]))):opT P h T op tm hp k:=by simp_all [opT,Zhd,ZbY,ZDV,Zdj]
def Zyj:SV->Bool
 | .v _ _=>true
 |_=>false
theorem ZiH {n:Nat}: ∀ {cs:List SV} {k:List SV->Prop},cs.all Zyj=true->k cs->Zdj (ZbS hp (n+2)) cs k
 | [],_,_,h=>h
 |V::cs,k,j,h=>by
  rw[List.all_cons,Xas]at j;cases V<;>first
   |(exact ZiH (cs:=cs) (k:=λr=>k (_::r)) j.2 h)
   |exact absurd j.1 (by simp[Zyj])
def ZEd {id r m:Nat} {cs:List SV} {b:Bool} {ct:CT} {x:ct.D} {k:SV->Prop} (hn:nth hp id=some (.cell cs b)) (j:cs.all Zyj=true) (hd:Zb9 ct cs=some x) (C:k (.box ct x r)):ZbS hp (m+3) (.ptr id 0 r) k:=by grind [ZbS,ZiH]
def ZJ7 {n:Nat} {g:FuncId} {d:SV} {k:SV->Prop} (h:ZbS hp (n+1) d λa=>k (.func g [] [a])):ZbS hp (n+2) (.func g [] [d]) k:=h
def ZJV {n:Nat} {g:FuncId} {d e:SV} {k:SV->Prop} (h:ZbS hp (n+1) d λa=>ZbS hp (n+1) e λb=>k (.func g [] [a,b])):ZbS hp (n+2) (.func g [] [d,e]) k:=h
end
end Go.Tx
namespace Go.Proofs.YtpdhpbldangmbaaGreatDoor
open Go.Am Go.Tx Ne Dv Go.Lib La
abbrev ZBJ:CT:= .p (.l .s) (.p (.l Zw1) (.p (.l ZiG) (.p (.l (.p .s (.p .s (.p (.i .i64) (.p (.i .i64) (.i .i64)))))) (.p (.l (.p .s (.p .s (.i .i64)))) (.l (.p .s (.p .s (.p (.i .i64) (.p (.i .i64) (.i .i64))))))))))
def nwV (n:Ne.Net):ZBJ.D:=(n.nodes,(n.sws,(n.brs,(n.gens,(n.loads,n.stores)))))
def ZDu (n:Ne.Net):PureOK prog Zai 73 [.agg (Zch n)] (λV=>V= .func 96 [] [.box ZBJ (nwV n) 0]):=by refine Zae Zaa func73 ?_;refine auG ?_;refine auG ?_;exact⟨rfl,ZBJ,nwV n,rfl,rfl⟩
def ZAv (n:Ne.Net) (k:Nat) (C:k<n.sws.length):PureOK prog Zai 96 [.v IC (k:Int), .box ZBJ (nwV n) 0] (λV=>V= .v .b (ZnU n k)):=by
 refine Zae Zaa func96 ?_;obtain⟨x,j,I⟩:=ZdM C;have hu:ZnU n k=ZtO x:=by unfold ZnU;rw[j]
 refine auG ?_;refine auG ?_;have e:(!x.2.2.2.2)=ZtO x:=by unfold ZtO;cases x.2.2.2.2<;>rfl
 exact congrArg (λz=>SV.v .b z) (e.trans hu.symm)
def ZLE (n:Ne.Net) (hp:List SM) (K:SV->List SM->Prop) (k:Nat) (C:k<(swA n).length) (h:K (.v .b (ZnU n k)) hp):ZbY prog Zai 96 [.v IC (k:Int), .box ZBJ (nwV n) 0] hp K:=by
 have j:k<n.sws.length:=by rw[swA,Xar]at C;exact C
 exact(ZAv n k j).mono λV e=>by subst e;exact h
def ZGj (n:Ne.Net) (hf:Fine n):PureOK prog Zai 44 [.agg (Zch n)] (λV=>V= .v (.l IC) (Zb6 n)):=by
 refine Zae Zaa func44 ?_;let⟨R,b2,U,b4,b5,b6⟩:=ZaC hf
 have C:=Zky n hf;have hC:=ZDu n;have ho:okL n.nodes.length (swA n):=λx I=>by obtain⟨s,J,rfl⟩:=XaT.1 I;have hd:=ZqB hf J;exact⟨(Zce hd.1).2,(Zce hd.2).2⟩
 have hl:(swA n).length<=1000:=by rw[swA,Xar];omega
 have hJ:=Zue n.nodes.length oM (swA n) hl ho (ZnU n) 96 [.box ZBJ (nwV n) 0] (ZLE n) (λid hid=>absurd hid Xaq);have j:(el (swA n)).length=n.sws.length:=by rw[Xar,swA,Xar]
 rw[<-ZaY j]at hJ;have hN:=Zpb (Zbo (ZnU n) n.nodes.length (swA n)) n.nodes.length (ZCR _ 0 (Zif 0 ho (Zgd _))) oM;refine auG ?_;refine auH ?_;refine Zag rfl (C.mono ?_);rintro _ _ _ ⟨rfl,rfl,rfl⟩;refine Zaf rfl rfl ?_;refine auM ?_;refine Zag rfl (Zgh rfl rfl rfl rfl rfl rfl (Zmd (ZbV rfl (Xbf ((Xag _).trans j.symm)) (ZJ7 (ZIS (hJ.mono ?_))))));rintro _ rfl;refine Zaf rfl rfl ?_;refine auN ?_;exact congrArg (λz=>SV.v (.l IC) z) (Zpf hf).symm
def ZrO (n:Ne.Net) (k:Nat):PureOK prog Zai 47 [.v IC (k:Int), .box IC ((n.sws.length:Nat):Int) 0, .box ZBJ (nwV n) 0] (λV=>V= .v .b (Zmc n k)):=by refine Zae Zaa func47 ?_;refine auG ?_;cases I:decide ((k:Int)≥((n.sws.length:Nat):Int))with|true=>have j:n.sws.length<=k:=tO I;have hu:true=Zmc n k:=(by rw[Zmc,decide_eq_true j];rfl);refine auG ?_;exact congrArg (λz=>SV.v .b z) hu|false=>have j:k<n.sws.length:=fO I;obtain⟨x,C,J⟩:=ZdM j;have hu:Zmc n k=ZtO x:=(by rw[Zmc,decide_eq_false oM];unfold ZnU;rw[C];rfl);have e:(!x.2.2.2.2)=ZtO x:=(by unfold ZtO;cases x.2.2.2.2<;>rfl);refine auG ?_;exact congrArg (λz=>SV.v .b z) (e.trans hu.symm)
def ZKO (n:Ne.Net) (m:Nat) (hp:List SM) (K:SV->List SM->Prop) (k:Nat) (_:k<m) (h:K (.v .b (Zmc n k)) hp):ZbY prog Zai 47 [.v IC (k:Int), .box IC ((n.sws.length:Nat):Int) 0, .box ZBJ (nwV n) 0] hp K:=by exact(ZrO n k).mono λV e=>by subst e;exact h
def tpL (n:Ne.Net) (k:Nat):List (Nat×Nat):=swA n++(n.brs.take k).map λb=>(plN n b.2.1,plN n b.2.2.1)
def vTp (n:Ne.Net) (k:Nat):TM:=[(1, .ptr 0 0 0),(2, .ptr 1 0 0),(3, .v (.l IC) (Zb6 n)),(4, .ref 2 0 (n.sws.length+k) none),(5, .ptr 3 0 0),(20, .v (.l ZiG) n.brs),(21,nt n.brs.length),(22,nt k)]
def hTp (n:Ne.Net) (k:Nat):List SM:=[.cell (Zch n) true, .cell [.nils, .nils] true, .row E2 (el (tpL n k)) true, .cell [.v IC ((n.sws.length:Nat):Int)] true]
def ZDg {n:Ne.Net} {k:Nat} {x:Br} (h:n.brs[k]? =some x):el (tpL n (k+1))=el (tpL n k)++ [(((plN n x.2.1:Nat):Int),((plN n x.2.2.1:Nat):Int))]:=by simp_all [tpL,Zgg,Xbb,Xa7]
def ZyL {n:Ne.Net} {k:Nat} (h:k<=n.brs.length):(el (tpL n k)).length=n.sws.length+k:=by grind [Xar,tpL,swA,Xaz]
def ZDw (n:Ne.Net):el (tpL n 0)=el (swA n):=by rw[tpL,XbV,XbX,XaQ]
def ZiV (n:Ne.Net):tpL n n.brs.length=Zo6 n:=by rw[tpL,Xa1];rfl
def tpA (n:Ne.Net) (hf:Fine n):LoopOK prog Zai 0 ⟨18,0,70⟩ (ZaN Tryz.f18 5) (vTp n 0) (hTp n 0)
 (λe tm hp=>e= .exit 0/\Ent 0 tm hp [(1, .ptr 0 0 0),(2, .ptr 1 0 0),(3, .v (.l IC) (Zb6 n)),(4, .ref 2 0 (n.sws.length+n.brs.length) none),(5, .ptr 3 0 0)] (hTp n n.brs.length)):=by
 let⟨b1,b2,b3,b4,b5,b6⟩:=ZaC hf
 refine Zfi Zaa rfl (vTp n) (hTp n) n.brs.length (λk j h1=> ?_) Zaj;have J:=XbN j;let⟨x,C,gx⟩:=ZdM j
 have hd:=ZhV hf (XaC C);have R:=ZfB (bb:=true) n.nodes x.2.1 oM;have hB:=ZfB (bb:=true) n.nodes x.2.2.1 oM;rw[(Zce hd.1).1]at R;rw[(Zce hd.2.1).1]at hB;have I:=ZyL J;have es:some (SM.row E2 (el (tpL n k)++ [(((plN n x.2.1:Nat):Int),((plN n x.2.2.1:Nat):Int))]) true)=some (SM.row E2 (el (tpL n (k+1))) true):=by rw[ZDg C]
 have U:=cI (ZbA (k:=k) oM);have hz:(n.sws.length+k+1)*16<=140737488355328:=oM;refine axT ?_;refine Zag rfl (ZbX rfl rfl rfl rfl rfl rfl rfl rfl rfl rfl rfl I.symm hz ?_);refine axT ?_;refine⟨k+1,j,XaJ j (XaA _), ?_⟩;exact Zbz [0,1,6,3] rfl ⟨rfl,rfl,es,rfl,trivial⟩ ⟨rfl,rfl,rfl,rfl,rfl,rfl,rfl,U,trivial⟩
def ZHP {hp:List SM} {n:Ne.Net} {m:Int} {j C:Bool} {d:Nat} {g:FuncId} (I:nth hp 0=some (.cell (Zch n) j)) (J:nth hp 3=some (.cell [.v IC m] C)):Zdz hp (d+3) (.func g [] [.ptr 3 0 0, .ptr 0 0 0])=[3,0]:=by simp only[Zdz,Xbn,List.flatMap_nil,I,J,Zch,XaQ,Xba,Xa5]
theorem ZGb {hp:List SM} {id i m d:Nat} {o:Option Nat} {ct:CT} {l:List ct.D} {b:Bool} (h:nth hp id=some (.row ct l b)):Zdz hp (d+1) (.ref id i m o)=[id]:=by rw[Zdz,h]
def ZJf {n:Ne.Net} {g:FuncId} {N M:Nat}:Tx.frzT (hTp n n.brs.length) (ZdC (hTp n n.brs.length) [nt N, .ref 2 0 M none, .func g [] [.ptr 3 0 0, .ptr 0 0 0]])=[.cell (Zch n) false, .cell [.nils, .nils] true, .row E2 (el (tpL n n.brs.length)) false, .cell [.v IC ((n.sws.length:Nat):Int)] false]:=by show Tx.frzT _ ([]++(Zdz (hTp n n.brs.length) (39+1) (.ref 2 0 M none)++(Zdz (hTp n n.brs.length) (37+3) (.func g [] [.ptr 3 0 0, .ptr 0 0 0])++ [])))=_;rw[ZGb rfl,ZHP rfl rfl];rfl
def isP (n:Ne.Net) (i:Nat):List Int:=(List.range (Zab n)).map λb=>if(List.range i).any (λj=>decide ((Zd1 n).getD j 0=b))=true then((isl n b:Nat):Int)else 0
def Zl2 (n:Ne.Net) (i:Nat):(isP n i).length=Zab n:=by rw[isP,Xar,XaX]
def Zqh {n:Ne.Net} {i b:Nat} (C:b<Zab n):(isP n i)[b]? =some (if(List.range i).any (λj=>decide ((Zd1 n).getD j 0=b))=true then((isl n b:Nat):Int)else 0):=by rw[isP,XaD,Xa9 C];rfl
def ZBv (n:Ne.Net):isP n 0=List.replicate (Zab n) 0:=by refine XaR λb=> ?_;by_cases j:b<Zab n;rw[Zqh j,XaZ,if_pos j];rfl;rw[Xat (by rw[Zl2];omega),Xat (by rw[XaE];omega)]
def ZBR {n:Ne.Net} (hf:Fine n) {i:Nat} (hi:i<n.nodes.length):(isP n i).set ((Zd1 n).getD i 0) (((Zme n).getD i 0:Nat):Int)=isP n (i+1):=by
 refine XaR λb=> ?_;by_cases C:b<Zab n;rw[List.getElem?_set,Zqh C,Zqh C,XbP,List.any_append,Zl2];by_cases he:(Zd1 n).getD i 0=b;rw[if_pos he,if_pos (Znk hf hi)];have I:[i].any (λj=>decide ((Zd1 n).getD j 0=b))=true:=by rw[List.any_cons,decide_eq_true he,Bool.true_or]
 rw[I,Bool.or_true,if_pos rfl,<-Zyk hf hi,he];rfl;grind;rw[Xat (by rw[Xap,Zl2];omega),Xat (by rw[Zl2];omega)]
def ZFJ {n:Ne.Net} (hf:Fine n):isP n n.nodes.length=ZbD n:=by
 rw[Zga hf];have hl:=(ZgF hf).1;refine XaR λb=> ?_;by_cases j:b<Zab n;let⟨i,hi,he⟩:=ZHl hf j
 rw[Zqh j,(List.any_eq_true.2 ⟨i,XbI.2 hi,decide_eq_true he⟩),if_pos rfl,XaD,Xac (by rw[hl];exact j),isl,XaB,Xac (by rw[hl];exact j)];rfl;rw[Xat (by rw[Zl2];omega),Xat (by rw[Xar,hl];omega)]
def vTq (n:Ne.Net) (i:Nat):TM:=[(2, .ptr 0 0 0),(3, .v (.l IC) (Zb6 n)),(9, .v (.l IC) ((Zme n).map Int.ofNat)),(10, .ref 1 0 (Zab n) none),(52, .v (.l IC) (Zb6 n)),(53,nt n.nodes.length),(54,nt i)]
def hTq (n:Ne.Net) (i:Nat):List SM:=[.cell [.nils, .nils] true, .row IC (isP n i) true]
def tpB (n:Ne.Net) (hf:Fine n):LoopOK prog Zai 0 ⟨18,0,70⟩ (ZaN Tryz.f18 13) (vTq n 0) (hTq n 0)
 (λe tm hp=>e= .exit 2/\Ent 0 tm hp [(2, .ptr 0 0 0),(3, .v (.l IC) (Zb6 n)),(10, .ref 1 0 (Zab n) none)] (hTq n n.nodes.length)):=by
 let⟨U,b2,b3,b4,b5,b6⟩:=ZaC hf
 refine Zfi Zaa rfl (vTq n) (hTq n) n.nodes.length (λi C h1=> ?_) Zaj;have I:=Znk hf C;have gb:(Zb6 n)[(i:Int).toNat]? =some (((Zd1 n).getD i 0:Nat):Int):=by rw[Xab,Zpf hf,XaD,XaB,Xac (by rw[(ZiI hf).1];exact C)];rfl
 have gp:((Zme n).map Int.ofNat)[(i:Int).toNat]? =some (((Zme n).getD i 0:Nat):Int):=by rw[Xab,XaD,XaB,Xac (by rw[(ZoW hf).1];exact C)];rfl
 have J:=ZBR hf C;have g1:=Zqh (i:=i) I;generalize(if(List.range i).any (λj=>decide ((Zd1 n).getD j 0=(Zd1 n).getD i 0))=true then((isl n ((Zd1 n).getD i 0):Nat):Int)else 0)=old at g1;generalize(Zd1 n).getD i 0=b at*;generalize(Zme n).getD i 0=v at*;have cb:=cin I;have g2:(isP n i)[0+((b:Nat):Int).toNat]? =some old:=by rw[Xab,Xag];exact g1
 have es:some (SM.row IC ((isP n i).set (0+((b:Nat):Int).toNat) (v:Int)) true)=some (SM.row IC (isP n (i+1)) true):=by rw[Xab,Xag,J]
 have R:=cI (ZbA (k:=i) oM);refine axT ?_;refine⟨i+1,C,XaJ C (XaA _), ?_⟩;exact Zbz [0,1] rfl ⟨rfl,es,trivial⟩ ⟨rfl,rfl,rfl,rfl,rfl,rfl,R,trivial⟩
def ZFL (n:Ne.Net) (hf:Fine n):PureOK prog Zai 19 [.v (.l IC) (Zb6 n)] (λV=>V=nt (Zab n)):=by
 have h:=ZEh (Zb6 n) (by rw[ZgT];have:=(ZaC hf).1;omega) λx j=>by have:=Zkc n x j;have:=(ZaC hf).1;omega
 rw[(ZbL n).1]at h;exact h
def Znm (n:Ne.Net) (hf:Fine n):PureOK prog Zai 18 [.agg (Zch n)] (λV=>V= .agg [.v (.l IC) (Zb6 n), .v (.l IC) (ZbD n)]):=by
 refine Zb8 (code:=bodyOf Tryz.f18) Zaa kR rfl func18 kR (Xam kR) ?_;let⟨Q,U⟩: ∃Q:SV->Prop,(λV=>V=SV.agg [.v (.l IC) (Zb6 n), .v (.l IC) (ZbD n)])=Q:=⟨_,rfl⟩
 rw[U];have hQ:Q (.agg [.v (.l IC) (Zb6 n), .v (.l IC) (ZbD n)]):=by rw[<-U]
 show CodeOK prog Zai 0 ⟨18,0,70⟩ (bodyOf Tryz.f18) [(0, .agg (Zch n))] [] (ZjR tys Tryz.f18.results.toList λV hp=>ZbS hp 40 V Q);let⟨b1,b2,b3,b4,b5,b6⟩:=ZaC hf
 have aa:=(ZbL n).2;have hB:=ZGj n hf;have hS:=Zky n hf;have hM:=ZFL n hf;have C:=Zoq hf;have J:(Zo6 n).length<=1000:=by rw[<-ZiV,tpL,Xal,swA,Xar,Xar,Xaz];omega
 have hJ:=Zue n.nodes.length oM (Zo6 n) J C (Zmc n) 47 [.box IC ((n.sws.length:Nat):Int) 0, .box ZBJ (nwV n) 0] (λhp K k hk h=>ZKO n _ hp K k hk h) (λid hid=>absurd hid Xaq);have hN:=Zpb (Zbo (Zmc n) n.nodes.length (Zo6 n)) n.nodes.length (ZCR _ 0 (Zif 0 C (Zgd _))) oM;have j:(el (Zo6 n)).length=n.sws.length+n.brs.length:=by rw[<-ZiV];exact ZyL (Xae _)
 rw[<-ZaY j,<-ZiV]at hJ;rw[<-ZiV]at hN;rw[<-ZiV]at j;refine Zac (Zad Zaa ?_);refine auG ?_;refine Zac (Zad Zaa ?_);refine auG ?_;refine Zac (Zad Zaa ?_);refine auH ?_;refine Zag rfl (hS.mono ?_);rintro _ _ _ ⟨rfl,rfl,rfl⟩;refine axT ?_;refine Zac (Zad Zaa ?_);refine axT ?_;refine Zac (Zac (Zad Zaa ?_));refine auG ?_;refine Zao rfl (ZaH ?_);refine((tpA n hf).ent ?_).mono ?_;exact Zbz [0,1,2,3] rfl ⟨rfl,rfl,congrArg (λz=>some (SM.row E2 z true)) (ZDw n).symm,rfl,trivial⟩ ⟨rfl,rfl,rfl,rfl,rfl,rfl,rfl,rfl,trivial⟩;rintro _ tm hp ⟨rfl,hE⟩;refine CodeOK.ent ?_ hE;refine ZaB [(2, .ptr 0 0 0),(3, .v (.l IC) (Zb6 n)),(8, .v bM (Zbo (Zmc n) n.nodes.length (tpL n n.brs.length)))] [.cell [.nils, .nils] true] (Zad Zaa ?_) ?_;skip;refine auH ?_;refine Zag rfl (Zgh rfl rfl rfl rfl rfl rfl (Zmd (ZbV rfl (Xbf ((Xag _).trans j.symm)) (ZJV (ZEd rfl rfl rfl (ZEd rfl rfl rfl (hJ.mono ?_)))))));rintro _ rfl;refine axT ?_;exact⟨rfl,Ent.eqs ZJf (Zbz [1] rfl ⟨rfl,trivial⟩ ⟨rfl,rfl,rfl,trivial⟩)⟩;refine ZaB [(2, .ptr 0 0 0),(3, .v (.l IC) (Zb6 n)),(9, .v (.l IC) ((Zme n).map Int.ofNat))] [.cell [.nils, .nils] true] (Zad Zaa ?_) ?_;skip;refine auG ?_;exact⟨rfl,Zah ⟨rfl,rfl,congrArg (λz=>some (SV.v (.l IC) ((ZbB (Zbo (Zmc n) n.nodes.length z) n.nodes.length).map Int.ofNat))) (ZiV n),trivial⟩⟩;have ab:(0:Int)<=((Zab n:Nat):Int)/\((Zab n:Nat):Int)<=((Zab n:Nat):Int)/\(8:Int)*((Zab n:Nat):Int)<=281474976710656/\((Zab n:Nat):Int)<9223372036854775808:=oM;have R:=ZgT n;refine Zac (Zad Zaa ?_);refine axT ?_;refine Zac (Zac (Zad Zaa ?_));refine auG ?_;refine Zao rfl (ZaH ?_);refine((tpB n hf).ent ?_).mono ?_;have e1:((Zab n:Nat):Int).toNat=Zab n:=Xab _;exact Zbz [0,1] rfl ⟨rfl,by rw[ZBv];exact congrArg (λz=>some (SM.row IC (List.replicate z (0:Int)) true)) e1,trivial⟩ ⟨rfl,rfl,rfl,congrArg (λz=>some (SV.ref 1 0 z none)) e1,rfl,congrArg (λz:Nat=>some (nt z)) R,rfl,trivial⟩;rintro _ tm hp ⟨rfl,hE⟩;refine CodeOK.ent ?_ hE;rw[hTq,ZFJ hf];have I:=ZcK n;rw[<-ZaY I]at hQ;generalize ZbD n=il at*;refine Zac (Zad Zaa ?_);refine axT ?_;refine Zad Zaa ?_;exact⟨rfl,Xbf ((Xag _).trans I.symm),hQ⟩
end Go.Proofs.YtpdhpbldangmbaaGreatDoor
namespace La
def Zf5 (f:Nat->Bool):Nat->Option Nat
 |0=>none
 |r+1=>match Zf5 f r with
  |some a=>some a
  |none=>bif f r then some r else none
def Zf1 {f:Nat->Bool}: ∀ {r a:Nat},Zf5 f r=some a->a<r/\f a=true
 |0,_,h=>by cases h
 |r+1,a,h=>by rw[Zf5]at h;cases j:Zf5 f r with|some b=>rw[j]at h;cases h;have:=Zf1 j;grind|none=>rw[j]at h;cases C:f r with|false=>simp only[C,cond_false]at h;cases h|true=>simp[C,cond_true]at h;cases h;exact⟨by omega,C⟩
theorem Zln {f:Nat->Bool}: ∀ {r:Nat},Zf5 f r=none-> ∀i,i<r->f i=false
 |0,_,i,hi=>by omega
 |r+1,h,i,hi=>by rw[Zf5]at h;cases j:Zf5 f r with|some b=>rw[j]at h;cases h|none=>rw[j]at h;cases C:f r with|true=>simp only[C,cond_true]at h;cases h|false=>by_cases e:i=r;rw[e];exact C;exact Zln j i (by omega)
def Zbt (n a:Nat) (M:Mx):Mx:=λi j=>M (sk a i) (sk n j)-M (sk a i) n/M a n*M a (sk n j)
def Zj9 (n a:Nat) (M:Mx) (x:Nat->Rat):Nat->Rat:=λj=>if j<n then x j else(M a (n+1)-S n (λk=>M a k*x k))/M a n
def ZiE:Nat->Nat->Mx->Option (Nat->Rat)
 |0,r,M=>match Zf5 (λi=>decide (M i 0≠0)) r with
  |some _=>none
  |none=>some λ_=>0
 |n+1,r,M=>match Zf5 (λi=>decide (M i n≠0)) r with
  |none=>none
  |some a=>match ZiE n (r-1) (Zbt n a M)with
   |none=>none
   |some x=>some (Zj9 n a M x)
def Sol.congr {n w:Nat} {M:Mx} {x y:Nat->Rat} (h: ∀j,j<w->x j=y j) (C:Sol n w M x):Sol n w M y:=λi hi=>by rw[<-C i hi];grind [ZaE]
theorem ZrH {n r a:Nat} {M:Mx} (C:a<r) (I:M a n≠0) (x:Nat->Rat):Sol r (n+1) M x<->(Sol (r-1) n (Zbt n a M) x/\x n=(M a (n+1)-S n (λj=>M a j*x j))/M a n):=by
 rw[ZB2 C I];refine and_congr ?_ Iff.rfl;have hn:sk n n=n+1:=by unfold sk;rw[if_neg (XbO n)]
 have R: ∀j,j<n->sk n j=j:=λj h=>by unfold sk;rw[if_pos h]
 have key: ∀i,(S n (λj=>(M i j-M i n/M a n*M a j)*x j)=M i (n+1)-M i n/M a n*M a (n+1))<->S n (λj=>(M i (sk n j)-M i n/M a n*M a (sk n j))*x j)=M i (sk n n)-M i n/M a n*M a (sk n n):=λi=>by grind [ZaE]
 constructor;intro h i hi;exact(key (sk a i)).1 (h (sk a i) (by have:=Zxg (k:=a) hi;omega) (by unfold sk;split<;>omega));intro h i hi J;rcases Xa8 i a with hl|hl;have e:sk a i=i:=by unfold sk;rw[if_pos hl]
 have:=h i (by omega);grind [Zbt];have e:sk a (i-1)=i:=by unfold sk;rw[if_neg (by omega)];omega
 have:=h (i-1) (by omega);grind [Zbt]
theorem ZkO {n a:Nat} {M:Mx} {x:Nat->Rat}:Zj9 n a M x n=(M a (n+1)-S n (λk=>M a k*x k))/M a n:=by rw[Zj9,if_neg (XbO n)]
theorem Zhy {n a j:Nat} {M:Mx} {x:Nat->Rat} (h:j<n):Zj9 n a M x j=x j:=by rw[Zj9,if_pos h]
def ZvC {n r a:Nat} {M:Mx} {x:Nat->Rat} (C:a<r) (I:M a n≠0) (h:Sol (r-1) n (Zbt n a M) x):Sol r (n+1) M (Zj9 n a M x):=by rw[ZrH C I];refine⟨h.congr λj J=>(Zhy J).symm, ?_⟩;grind [ZkO,ZaE,Zj9,Zhy]
def ZkX {n r a:Nat} {M:Mx} {y:Nat->Rat} (C:a<r) (I:M a n≠0) (h:ZwS (r-1) n (Zbt n a M) y):ZwS r (n+1) M (Zj9 n a M y):=by
 let⟨J,u2⟩:=h
 refine⟨ZvC C I J,λz R j U=> ?_⟩;grind [ZrH,Zhy,ZkO,ZaE]
def Zie: ∀ (n r:Nat) (M:Mx) (x:Nat->Rat),ZiE n r M=some x->ZwS r n M x
 |0,r,M,x,h=>by rw[ZiE]at h;cases C:Zf5 (λi=>decide (M i 0≠0)) r with|some _=>rw[C]at h;cases h|none=>refine⟨λi hi=> ?_,λy _ j hj=>by omega⟩;have:=Zln C i hi;rw[S];simp only[ne_eq,decide_not,Bool.not_eq_false',decide_eq_true_eq]at this;exact this.symm
 |n+1,r,M,x,h=>by rw[ZiE]at h;cases C:Zf5 (λi=>decide (M i n≠0)) r with|none=>rw[C]at h;cases h|some a=>rw[C]at h;obtain⟨J,R⟩:=Zf1 C;have U:M a n≠0:=dT R;cases I:ZiE n (r-1) (Zbt n a M)with|none=>simp only[I]at h;cases h|some y=>simp only[I]at h;cases h;exact ZkX J U (Zie n (r-1) (Zbt n a M) y I)
def ZpM: ∀ (n r:Nat) (M:Mx),ZiE n r M=none-> ∀x,¬ZwS r n M x
 |0,r,M,h,x=>by rw[ZiE]at h;cases C:Zf5 (λi=>decide (M i 0≠0)) r with|none=>rw[C]at h;cases h|some a=>(let⟨R,I⟩:=Zf1 C);rintro⟨J,_⟩;exact dT I (by rw[<-J a R];rfl)
 |n+1,r,M,h,x=>by
  rw[ZiE]at h;cases C:Zf5 (λi=>decide (M i n≠0)) r with
  |none=>
   rintro⟨J,hu⟩;have h0: ∀i,i<r->M i n=0:=λi hi=>by grind [Zln]
   have I:=hu (λj=>if j=n then x n+1 else x j) (λi hi=>by have U:=J i hi;grind);simp[if_true]at I;grind
  |some a=>rw[C]at h;(let⟨R,I⟩:=Zf1 C);have hz:=dT I;cases U:ZiE n (r-1) (Zbt n a M)with|some y=>simp only[U]at h;cases h|none=>rintro⟨J,hu⟩;(let⟨g1,g2⟩:=(ZrH R hz x).1 J);refine ZpM n (r-1) (Zbt n a M) U x ⟨g1,λy hy j hj=> ?_⟩;have:=hu _ (ZvC R hz hy) j (by omega);grind [Zhy]
end La
namespace Go.Proofs.YtpdhpbldangmbaaGreatDoor
open Go.Am Go.Tx Dv Go.Lib La
def ZLd {B:Nat} {f:Nat->Rat}: ∀ {n:Nat},(∀k,k<n->dz (f k) B)->dz (S n f) (1+n*(B+1))
 |0,_=>by rw[S,Nat.zero_mul];exact Zx8
 |n+1,h=>by rw[S];refine Zbe ?_ (Zl1 (ZLd λk j=>h k (by omega)) (h n (by omega)));rw[Nat.succ_mul];omega
def ZIF (k:Nat) (f:Nat->Rat):S (k+1) f=S k f+f k:=rfl
def tvT (W:Nat) (u:Nat->Rat):List (List UInt8):=(List.range W).map λj=>Zbh (u j)
def tmT (r W:Nat) (f:Mx):List (List (List UInt8)):=(List.range r).map λi=>tvT W (f i)
def Zba {W:Nat} {u:Nat->Rat}:(tvT W u).length=W:=by rw[tvT,Xar,XaX]
theorem Za4 {r W:Nat} {f:Mx}:(tmT r W f).length=r:=by rw[tmT,Xar,XaX]
def ZfF {W j:Nat} {u:Nat->Rat} (C:j<W):(tvT W u)[j]? =some (Zbh (u j)):=by rw[tvT,XaD,Xa9 C];rfl
def ZeS {r W i:Nat} {f:Mx} (hi:i<r):(tmT r W f)[i]? =some (tvT W (f i)):=by rw[tmT,XaD,Xa9 hi];rfl
def Zip {W:Nat} {u:Nat->Rat}:tvT (W+1) u=tvT W u++ [Zbh (u W)]:=by rw[tvT,XbP,Xbb];rfl
def Zvo {r W:Nat} {f:Mx}:tmT (r+1) W f=tmT r W f++ [tvT W (f r)]:=by rw[tmT,XbP,Xbb];rfl
def Zdm {W:Nat} {u v:Nat->Rat} (h: ∀j,j<W->u j=v j):tvT W u=tvT W v:=Xbr λj C=>by rw[h j (XbI.1 C)]
def ZyJ {r W:Nat} {f g:Mx} (h: ∀i j,i<r->j<W->f i j=g i j):tmT r W f=tmT r W g:=Xbr λi hi=>Zdm λj C=>h i j (XbI.1 hi) C
def ZnT {F k:Nat} {hp:List SM} {tm tm':TM} {ct:CT} (j:F<=hp.length) (C:ZbJ k tm=some .nils) (I: ∀i V,Nat.beq i k=false->ZbJ i tm'=some V->ZbJ i tm=some V) (J:ZbJ k tm'=some (.ref hp.length 0 0 none)):Ent F tm hp tm' (hp++ [.row ct [] true]):=by refine Zkq (k:=k) j C (λi V hi h=>I i V ?_ h) J;cases R:Nat.beq i k with|true=>exact absurd (Xay R) hi|false=>rfl
section
variable (n r:Nat) (M:Mx)
def vSA (i:Nat):TM:=[(1, .v (.l .s) (tvT r λi=>M i n)),(2,nt n),(8, .ref 0 0 i none),(29, .v (.l (.l .s)) (tmT r n M)),(30,nt r),(31,nt i)]
end
def ZMe (n r:Nat) (M:Mx) (hn:n<=1000) (hr:r<=1000):LoopOK prog Zai 0 ⟨34,0,209⟩ (ZaN Tryz.f34 3) [(1, .v (.l .s) (tvT r λi=>M i n)),(2,nt n),(8, .nils),(29, .v (.l (.l .s)) (tmT r n M)),(30,nt r),(31,nt 0)] []
 (λe tm hp=>e= .exit 0/\Ent 0 tm hp [(2,nt n),(8, .ref 0 0 r none)] [.row (.l .s) (tmT r (n+1) M) true]):=by
 refine Zaq Zaa rfl (vSA n r M) (λi=> [.row (.l .s) (tmT i (n+1) M) true]) (λi=>i<=r) (λi=>r-i) ?_ 0 (Xak _) ?_;intro i hi;cases I:decide ((i:Int)<(r:Int))with
  |false=>have he:i=r:=(by have:=dF I;omega);subst he;refine auG ?_;refine brF I ?_;exact⟨rfl,Zah ⟨rfl,rfl,trivial⟩⟩
  |true=>
   have C:i<r:=(by have:=dT I;omega);have gm:(tmT r n M)[(i:Int).toNat]? =some (tvT n (M i)):=(by rw[Xab];exact ZeS C);have gb:(tvT r λi=>M i n)[(i:Int).toNat]? =some (Zbh (M i n)):=(by rw[Xab];exact ZfF C);have j:tmT (i+1) (n+1) M=tmT i (n+1) M++ [([]++tvT n (M i))++ [Zbh (M i n)]]:=(by rw[Zvo,Zip,Xba]);have aa:(tvT n (M i)).length=n:=Zba;have J:(tmT i (n+1) M).length=i:=Za4;obtain⟨row,R⟩: ∃x,tvT n (M i)=x:=⟨_,rfl⟩;obtain⟨x,ex⟩: ∃x,Zbh (M i n)=x:=⟨_,rfl⟩;obtain⟨acc,ea⟩: ∃x,tmT i (n+1) M=x:=⟨_,rfl⟩;rw[R]at gm j aa;rw[ex]at gb j;rw[ea]at j J|-;have zA:(0+row.length)*16<=140737488355328:=(by omega);have zB:(0+row.length+ [x].length)*16<=140737488355328:=(by show(0+row.length+1)*16<=_;omega);have zC:(i+1)*24<=140737488355328:=(by omega);have xl:(([]++row)++ [x]).length=0+row.length+ [x].length:=(by rw[Xal,Xba];omega);have ab:(0:Nat)≠1:=(by decide);have ad:(2:Nat)≠1:=(by decide);have ae: ∀a:Nat,a=1\/3<=a->0≠a:=λa h=>by omega
   have af: ∀a b c d:Nat,3<=a->a<=b->(c=1\/3<=c)->(d=c\/a<=d)->0 ∉ [b,d]:=λa b c d I h2 h3 h4=>by simp only[XaF,Xaq,or_false];omega
   refine auG ?_;refine brT I ?_;refine auG ?_;refine ZLA ?_;refine Zcs rfl rfl rfl rfl rfl ?_;refine Zak rfl rfl (opm (λ_=>rfl) rfl rfl ?_);refine Zak rfl rfl (opv (λ_=>rfl) rfl rfl ?_);refine Zcs rfl rfl rfl rfl rfl ?_;refine Zcs rfl rfl rfl rfl rfl ?_;refine ZAc rfl rfl rfl (λ_=>rfl) (XaG i) gb rfl rfl ?_;refine Zxp rfl rfl rfl (λ_=>rfl) rfl rfl ?_;refine Zak rfl rfl (opm (λ_=>rfl) rfl rfl ?_);refine ZeC rfl rfl (ZnI (ct:= .s) (l:=[]) (new:=row) rfl rfl rfl rfl rfl rfl rfl rfl rfl rfl rfl (λkk U=>ZzV U) zA (λi1 H1 g1 a1 b1 c1=> ?_));refine Zan rfl rfl ?_;refine ZeC rfl rfl (ZnI (ct:= .s) (new:=[x]) rfl rfl rfl rfl rfl rfl rfl rfl rfl g1 (by rw[Xba,Xag]) (λkk U=>Zgu (a1 2 ad (XaA 2)) (Xae 1) U) zB (λi2 H2 g2 a2 b2 c2=> ?_));refine Zan rfl rfl ?_;refine Zak rfl rfl (opm (λ_=>rfl) rfl rfl ?_);refine ZeC rfl rfl (ZsM (ct:= .l .s) (l:=acc) (x:=([]++row)++ [x]) rfl rfl rfl rfl rfl rfl rfl rfl rfl (λkk U=>ZrZ ZlJ (ZdD g2) xl U) (by rw[Zei ZlJ (ZdD g2)];exact af H1.length H2.length i1 i2 b1 b2 c1 c2) (ZdD ((a2 0 (ae i1 c1) (XaW (Nat.zero_lt_succ 2) b1)).trans (a1 0 ab (Nat.zero_lt_succ 2)))) J.symm zC (λi3 H3 g3 _ _=> ?_));refine Zan rfl rfl ?_;refine Zak rfl rfl (opv (λ_=>rfl) rfl rfl ?_);refine ZAS ?_;refine auG ?_;refine⟨i+1,C,by show r-(i+1)<r-i;omega, ?_⟩;show Ent 0 _ H3 _ [SM.row (.l .s) (tmT (i+1) (n+1) M) true];rw[j];exact ZHp g3 rfl ⟨rfl,ZaO,rfl,ZaO,rfl,ZaF Nat.zero_lt_one,rfl,ZaO,rfl,ZaO,congrArg (λx=>some (SV.v (.i .i64) x)) (ZbA (by omega)),ZaO,trivial⟩
 refine ZnT (k:=8) (ct:= .l .s) (Xak _) rfl (λi V hb h=> ?_) rfl;simp only[vSA,ZbJ,hb]at h|-;exact h
def Ztq {f:Nat->Bool} {i:Nat} (h:f i=false):Zf5 f (i+1)=Zf5 f i:=by rw[Zf5];cases Zf5 f i with|some a=>rfl|none=>rw[h];rfl
def ZxZ {f:Nat->Bool} {i:Nat} (h:f i=true) (j:Zf5 f i=none):Zf5 f (i+1)=some i:=by rw[Zf5,j,h];rfl
def ZxT {f:Nat->Bool} {i a:Nat} (j:Zf5 f i=some a):Zf5 f (i+1)=some a:=by rw[Zf5,j]
def ZB4 {f:Nat->Bool} {i a:Nat} (h:Zf5 f i=some a): ∀ {r:Nat},i<=r->Zf5 f r=some a
 |r,j=>by obtain⟨d,rfl⟩: ∃d,r=i+d:=⟨r-i,oM⟩;clear j;induction d with|zero=>exact h|succ d C=>exact ZxT C
def vSZ (r i:Nat):TM:=[(11, .ref 1 0 0 none),(53, .ref 0 0 r none),(54,nt r),(55,nt i)]
def ZL1 (q:Rat):(!(Zbh q==[48]))=decide (q≠0):=by rw[Zp4];simp
def ZMW (r:Nat) (M:Mx) (hr:r<=1000):LoopOK prog Zai 0 ⟨34,0,209⟩ (ZaN Tryz.f34 10) (vSZ r 0) [.row (.l .s) (tmT r 1 M) true, .row .s [] true]
 (λe tm hp=>(e= .exit 2/\Zf5 (λi=>decide (M i 0≠0)) r=none/\Ent 0 tm hp [(11, .ref 1 0 0 none)] [.row (.l .s) (tmT r 1 M) true, .row .s [] true])\/(e= .ret/\(∃a,Zf5 (λi=>decide (M i 0≠0)) r=some a)/\Ent 0 tm hp [(6, .nils),(7, .v .b false)] [])):=by refine Zaq Zaa rfl (vSZ r) (λ_=> [.row (.l .s) (tmT r 1 M) true, .row .s [] true]) (λi=>i<=r/\Zf5 (λi=>decide (M i 0≠0)) i=none) (λi=>r-i) ?_ 0 ⟨Xak _,rfl⟩ Zaj;rintro i ⟨hi,hf⟩;cases U:decide ((i:Int)<(r:Int))with|false=>have he:i=r:=fO U;subst he;refine axT ?_;exact .inl ⟨rfl,hf,eK⟩|true=>have j:i<r:=tO U;have J:(tmT r 1 M)[0+(i:Int).toNat]? =some (tvT 1 (M i)):=(by rw[Xab,Xag];exact ZeS j);have gx:(tvT 1 (M i))[(0:Int).toNat]? =some (Zbh (M i 0)):=ZfF Nat.zero_lt_one;have R:=ZL1 (M i 0);(let⟨row,I⟩: ∃x,tvT 1 (M i)=x:=⟨_,rfl⟩);(let⟨x,ex⟩: ∃x,Zbh (M i 0)=x:=⟨_,rfl⟩);rw[I]at J gx;rw[ex]at gx R;refine axT ?_;cases h2:(!(x==[48]))with|true=>have C:(λi=>decide (M i 0≠0)) i=true:=(by show decide (M i 0≠0)=true;rw[<-R,h2]);refine axT ?_;(repeat (first|refine ZaK ?_|refine ZaJ ?_|refine Zay ?_));exact .inr ⟨rfl,⟨i,ZB4 (ZxZ C hf) j⟩,ZbO ⟨rfl,rfl,rfl,rfl,trivial⟩⟩|false=>have C:(λi=>decide (M i 0≠0)) i=false:=(by show decide (M i 0≠0)=false;rw[<-R,h2]);refine axT ?_;refine⟨i+1,⟨j,by rw[Ztq C];exact hf⟩,by show r-(i+1)<r-i;omega, ?_⟩;exact eK
def atI:Option Nat->Int
 |none=> -1
 |some a=>(a:Int)
def vSB (n r:Nat) (M:Mx) (i:Nat):TM:=[(2,nt (n+1)),(8, .ref 0 0 r none),(11, .ref 1 0 (n+1) none),(14, .v (.i .i64) (atI (Zf5 (λi=>decide (M i n≠0)) i))),(65, .ref 0 0 r none),(66,nt r),(67,nt i)]
def hpB (n r:Nat) (M:Mx):List SM:=[.row (.l .s) (tmT r (n+2) M) true, .row .s (List.replicate (n+1) []) true]
def ZHr (n:Nat) (hn:n<=1000):i64.wrap (((n+1:Nat):Int)-1)=(n:Int):=by grind [Zap]
def ZMl (n r:Nat) (M:Mx) (hn:n<=1000) (hr:r<=1000):LoopOK prog Zai 0 ⟨34,0,209⟩ (ZaN Tryz.f34 18) (vSB n r M 0) (hpB n r M)
 (λe tm hp=>e= .exit 4/\Ent 0 tm hp [(2,nt (n+1)),(8, .ref 0 0 r none),(11, .ref 1 0 (n+1) none),(14, .v (.i .i64) (atI (Zf5 (λi=>decide (M i n≠0)) r)))] (hpB n r M)):=by
 refine Zfi Zaa rfl (vSB n r M) (λ_=>hpB n r M) r (λi I h1=> ?_) Zaj;have ci:=cin I;have hw:=ZHr n hn;have R:(tmT r (n+2) M)[0+(i:Int).toNat]? =some (tvT (n+2) (M i)):=by rw[Xab,Xag];exact ZeS I
 have hz:(0:Int)<=i64.wrap (((n+1:Nat):Int)-1):=by rw[hw];omega
 have U:(tvT (n+2) (M i))[(i64.wrap (((n+1:Nat):Int)-1)).toNat]? =some (Zbh (M i n)):=by rw[hw,Xab];exact ZfF oM
 have hq:=ZL1 (M i n);let⟨row,aa⟩: ∃x,tvT (n+2) (M i)=x:=⟨_,rfl⟩
 let⟨x,ex⟩: ∃x,Zbh (M i n)=x:=⟨_,rfl⟩
 let⟨f,J⟩: ∃f:Nat->Bool,(λi=>decide (M i n≠0))=f:=⟨_,rfl⟩
 have C:f i=decide (M i n≠0):=by rw[<-J]
 rw[aa]at R U;rw[ex]at U hq;rw[<-hq]at C;have j: ∀tm:TM,ZbJ 2 tm=some (nt (n+1))->ZbJ 8 tm=some (.ref 0 0 r none)->ZbJ 11 tm=some (.ref 1 0 (n+1) none)->ZbJ 14 tm=some (.v (.i .i64) (atI (Zf5 f (i+1))))->ZbJ 65 tm=some (.ref 0 0 r none)->ZbJ 66 tm=some (nt r)->ZbJ 67 tm=some (.v (.i .i64) (i64.wrap ((i:Int)+1)))-> ∃a',a'<=r/\r-a'<r-i/\Ent 0 tm (hpB n r M) (vSB n r M a') (hpB n r M):=λtm q1 q2 q3 q4 q5 q6 q7=>
  ⟨i+1,I,oM,Zah ⟨q1,q2,q3,by rw[q4,<-J],q5,q6,by rw[q7,ZbA oM],trivial⟩⟩
 refine auG ?_;refine brT h1 ?_;refine auH ?_;refine Zqd rfl (λ_=>rfl) ci rfl rfl ?_;refine ZBG rfl (λ_=>rfl) R rfl rfl ?_;refine auN ?_;cases h2:(!(x==[48]))with|false=>rw[h2]at C;refine auH ?_;refine Zsx rfl (λ_=>rfl) hz U rfl rfl ?_;refine auN ?_;refine brF rfl ?_;refine auG ?_;exact j _ rfl rfl rfl (by rw[Ztq C,<-J];rfl) rfl rfl rfl|true=>rw[h2]at C;cases h3:Zf5 f i with|none=>have h4:decide (atI (Zf5 (λi=>decide (M i n≠0)) i)<(0:Int))=true:=(by rw[J,h3];rfl);refine auH ?_;refine Zsx rfl (λ_=>rfl) hz U rfl rfl ?_;refine auN ?_;refine brT h4 ?_;refine auG ?_;refine auG ?_;exact j _ rfl rfl rfl (by rw[ZxZ C h3];rfl) rfl rfl rfl|some a=>have h4:decide (atI (Zf5 (λi=>decide (M i n≠0)) i)<(0:Int))=false:=(by rw[J,h3,decide_eq_false_iff_not];show ¬ (a:Int)<0;omega);refine auH ?_;refine Zsx rfl (λ_=>rfl) hz U rfl rfl ?_;refine auN ?_;refine brF h4 ?_;refine auG ?_;exact j _ rfl rfl rfl (by rw[ZxT h3,<-h3,<-J];rfl) rfl rfl rfl
theorem Zl7 {n d:Int} {k:Nat} (hd:d≠0) (j:dl n.natAbs<=k) (C:dl d.natAbs<=k):dz (Rat.divInt n d) k:=by rcases Int.lt_or_le d 0 with h|h;rw[<-Rat.neg_divInt_neg];grind [ZiD,Int.natAbs_neg];grind [Xa3,ZiD]
def ZuJ {p q:Rat} {k m:Nat} (hp:dz p k) (j:dz q m) (C:q≠0):dz (p/q) (k+m):=by
 rw[<-ZoC];let⟨I,J⟩:=hp
 let⟨R,U⟩:=j
 have h1:=Zd4 p.num.natAbs q.den;have h3:=Zd4 p.den q.num.natAbs;refine Zl7 (Int.mul_ne_zero (by have:=Zeo p;omega) (λh=>C (Rat.num_eq_zero.1 h))) ?_ ?_;grind [XbD,Xa3];grind [XbD,Xa3]
def ZJp {H:List SM} {j C:CT} {I:List j.D} {J:List C.D} {m1 m2:Bool} (R:nth H 3=some (.row j I m1)) (U:nth H 0=some (.row C J m2)):(ZeR H 3&&Zc4 H [0,0]&& !Zmj 3 [0,0])=true:=by rw[Zpt R,Zc4,Zc4,Zc4,Zpt U];rfl
def vSD (n r a c i:Nat) (row:List (List UInt8)) (by_:List UInt8) (k:Nat):TM:=[(2,nt (n+1)),(8, .ref 0 0 r none),(11, .ref 1 0 (n+1) none),(14,nt a),(17, .ref 2 0 c none),(18, .ref 3 0 c none),(20, .v (.l .s) row),(21, .v .s by_),(22, .ref 4 0 k none),(86, .ref 0 0 r none),(87,nt r),(88,nt i),(111,nt n),(112,nt k)]
def hpD (n r:Nat) (M:Mx) (less:List (List (List UInt8))) (right v:List (List UInt8)):List SM:=[.row (.l .s) (tmT r (n+2) M) true, .row .s (List.replicate (n+1) []) true, .row (.l .s) less true, .row .s right true, .row .s v true]
def ZIg {r W i f} (hi:i<r):(tmT r W f)[0+(i:Int).toNat]? =some (tvT W (f i)):=by rw[Xab,Xag];exact ZeS hi
def ZAX {W j u} (C:j<W):(tvT W u)[(j:Int).toNat]? =some (Zbh (u j)):=by rw[Xab];exact ZfF C
def ZM0 (n r a c i K:Nat) (M:Mx) (e:Nat->Rat) (less:List (List (List UInt8))) (right:List (List UInt8)) (hn:n<=1000) (ha:a<r) (hi:i<r) (hK:4*K+1<=44990)
 (hd: ∀i j,i<r->j<n+2->dz (M i j) K) (hz:M a n≠0) (he: ∀k,k<n->e k=M i k-M i n/M a n*M a k):
 LoopOK prog Zai 0 ⟨34,0,209⟩ (ZaN Tryz.f34 34) (vSD n r a c i (tvT (n+2) (M i)) (Zbh (M i n/M a n)) 0) (hpD n r M less right [])
 (λx tm hp=>x= .exit 8/\Ent 0 tm hp (vSD n r a c i (tvT (n+2) (M i)) (Zbh (M i n/M a n)) n) (hpD n r M less right (tvT n e))):=by
 refine Zfi Zaa rfl (vSD n r a c i (tvT (n+2) (M i)) (Zbh (M i n/M a n))) (λk=>hpD n r M less right (tvT k e)) n (λk I h1=> ?_) Zaj;have hk:=XbN I;have gi:=ZAX (W:=n+2) (u:=M i) (j:=k) oM;have gr:=ZIg (W:=n+2) (f:=M) ha;have ga:=ZAX (W:=n+2) (u:=M a) (j:=k) oM;have dQ:dz (M i n/M a n) (K+K):=ZuJ (hd i n hi oM) (hd a n ha oM) hz;have hM:=ZhY (M i n/M a n) (M a k) (k:=2*K) oM (Zbe oM dQ) (Zbe oM (hd a k ha oM));have hS:=Zel (M i k) (M i n/M a n*M a k) (k:=3*K) oM (Zbe oM (hd i k hi oM)) (Zbe oM (ZlR dQ (hd a k ha oM)));have C:tvT (k+1) e=tvT k e++ [Zbh (M i k-M i n/M a n*M a k)]:=by rw[Zip,he k I]
 have R:(tvT k e).length=k:=Zba;obtain⟨row,U⟩: ∃x,tvT (n+2) (M i)=x:=⟨_,rfl⟩;obtain⟨ah,J⟩: ∃x,tvT (n+2) (M a)=x:=⟨_,rfl⟩;obtain⟨x1,aa⟩: ∃x,Zbh (M i k)=x:=⟨_,rfl⟩;let⟨x2,ab⟩: ∃x,Zbh (M a k)=x:=⟨_,rfl⟩
 let⟨x3,ad⟩: ∃x,Zbh (M i n/M a n)=x:=⟨_,rfl⟩
 let⟨x4,ae⟩: ∃x,Zbh (M i n/M a n*M a k)=x:=⟨_,rfl⟩
 let⟨x5,af⟩: ∃x,Zbh (M i k-M i n/M a n*M a k)=x:=⟨_,rfl⟩
 obtain⟨v,ev⟩: ∃x,tvT k e=x:=⟨_,rfl⟩;rw[ab,ad,ae]at hM;rw[aa,ae,af]at hS;rw[aa]at gi;rw[ab]at ga;rw[U]at gi|-;rw[J]at ga gr;rw[af]at C;rw[ev]at C R|-;rw[ad];have ag:(k+ [x5].length)*16<=140737488355328:=by show(k+1)*16<=_;omega
 refine axT ?_;refine Zag rfl (ZnI (ct:= .s) (l:=v) (new:=[x5]) rfl rfl rfl rfl rfl rfl rfl rfl rfl rfl R.symm (λkk hk=>Zgu rfl (Xae 1) hk) ag (λi1 H1 q1 q2 q3 q4=> ?_));refine axT ?_;refine⟨k+1,I,by show n-(k+1)<n-k;omega, ?_⟩;show Ent 0 _ H1 _ (hpD n r M less right (tvT (k+1) e));rw[C];have ai:4<=i1:=by rcases q4 with h|h;omega;have h:6<=i1:=h;omega
 exact Zbv [0,1,2,3,i1] ⟨q2 0 dC (by show 0<6;decide),rfl,q2 1 dC (by show 1<6;decide),rfl,q2 2 dC (by show 2<6;decide),rfl,q2 3 dC (by show 3<6;decide),rfl,q1,rfl,trivial⟩ (by simp;omega)
  ⟨rfl,ZaO,rfl,ZaF (by show 0<5;decide),rfl,ZaF (by show 1<5;decide),rfl,ZaO,rfl,ZaF (by show 2<5;decide),rfl,ZaF (by show 3<5;decide),rfl,ZaO,rfl,ZaO,rfl,ZaF (by show 4<5;decide),rfl,ZaF (by show 0<5;decide),rfl,ZaO,rfl,ZaO,rfl,ZaO,cI (ZbA oM),ZaO,trivial⟩
def ZcY (a i:Nat):Nat:=if i<=a then i else i-1
def vSC (n r a i:Nat):TM:=[(2,nt (n+1)),(8, .ref 0 0 r none),(11, .ref 1 0 (n+1) none),(14,nt a),(17, .ref 2 0 (ZcY a i) none),(18, .ref 3 0 (ZcY a i) none),(86, .ref 0 0 r none),(87,nt r),(88,nt i)]
def ZHz (n r a:Nat) (M:Mx) (i:Nat):List SM:=[.row (.l .s) (tmT r (n+2) M) true, .row .s (List.replicate (n+1) []) true, .row (.l .s) (tmT (ZcY a i) n (Zbt n a M)) true, .row .s (tvT (ZcY a i) λj=>Zbt n a M j n) true]
def ZCI a:ZcY a (a+1)=ZcY a a:=by unfold ZcY;rw[if_neg oM,if_pos (Xae a)];rfl
def ZnP {a i} (h:i≠a):ZcY a (i+1)=ZcY a i+1:=by unfold ZcY;by_cases j:i<=a<;>by_cases C:i+1<=a<;>simp[j,C]<;>omega
def ZKe {a i:Nat} (h:i≠a):sk a (ZcY a i)=i:=by unfold sk ZcY;by_cases j:i<=a<;>simp only[j,if_true,if_false]<;>split<;>omega
def ZLS {n k:Nat} (h:k<n):sk n k=k:=by unfold sk;rw[if_pos h]
def ZLj (n:Nat):sk n n=n+1:=by unfold sk;rw[if_neg (XbO n)]
def ZJE {a i:Nat}:ZcY a i<=i:=by unfold ZcY;split<;>omega
def ZMF (n r a K:Nat) (M:Mx) (hn:n<=1000) (hr:r<=1000) (ha:a<r) (hK:4*K+1<=44990) (hd: ∀i j,i<r->j<n+2->dz (M i j) K) (hz:M a n≠0):
 LoopOK prog Zai 0 ⟨34,0,209⟩ (ZaN Tryz.f34 28) (vSC n r a 0) (ZHz n r a M 0)
 (λx tm hp=>x= .exit 6/\Ent 0 tm hp [(2,nt (n+1)),(8, .ref 0 0 r none),(11, .ref 1 0 (n+1) none),(14,nt a),(17, .ref 2 0 (r-1) none),(18, .ref 3 0 (r-1) none)] (ZHz n r a M r)):=by
 refine Zaq Zaa rfl (vSC n r a) (ZHz n r a M) (λi=>i<=r) (λi=>r-i) ?_ 0 (Xak _) Zaj;intro i hi;cases h1:decide ((i:Int)<(r:Int))with
 |false=>have he:i=r:=(by have:=dF h1;omega);subst he;have hc:ZcY a i=i-1:=(by unfold ZcY;rw[if_neg (by omega)]);refine auG ?_;refine brF h1 ?_;exact⟨rfl,Zah ⟨rfl,rfl,rfl,rfl,congrArg (λx=>some (SV.ref 2 0 x none)) hc,congrArg (λx=>some (SV.ref 3 0 x none)) hc,trivial⟩⟩
 |true=>
  have C:i<r:=(by have:=dT h1;omega);have ci:=cin C;have ca:=cin ha;have aw:=ZIg (W:=n+2) (f:=M) C;refine auG ?_;refine brT h1 ?_;refine auH ?_;refine Zqd rfl (λ_=>rfl) ci rfl rfl ?_;refine ZBG rfl (λ_=>rfl) aw rfl rfl ?_;refine auN ?_;cases h2:decide ((i:Int)=(a:Int))with
  |true=>have he:i=a:=(by have:=dT h2;omega);refine auG ?_;refine brT h2 ?_;refine ZBL ?_;refine auG ?_;refine⟨i+1,C,by show r-(i+1)<r-i;omega, ?_⟩;have e:ZcY a (i+1)=ZcY a i:=(by rw[he];exact ZCI a);refine Ent.eqs (hp0:=ZHz n r a M (i+1)) (by rw[ZHz,ZHz,e]) (Zah ⟨rfl,rfl,rfl,rfl,congrArg (λx=>some (SV.ref 2 0 x none)) e.symm,congrArg (λx=>some (SV.ref 3 0 x none)) e.symm,rfl,rfl,congrArg (λx=>some (SV.v (.i .i64) x)) (ZbA (by omega)),trivial⟩)
  |false=>
   have R:i≠a:=(by have:=dF h2;omega);have hw:=ZHr n hn;have ah:(0:Int)<=i64.wrap (((n+1:Nat):Int)-1):=(by rw[hw];omega);have gi:(tvT (n+2) (M i))[(i64.wrap (((n+1:Nat):Int)-1)).toNat]? =some (Zbh (M i n)):=(by rw[hw];exact ZAX (by omega));have ga:(tvT (n+2) (M a))[(i64.wrap (((n+1:Nat):Int)-1)).toNat]? =some (Zbh (M a n)):=(by rw[hw];exact ZAX (by omega));have gr:=ZIg (W:=n+2) (f:=M) ha;have aa:=ZAX (W:=n+2) (u:=M i) (j:=n+1) (by omega);have ab:=ZAX (W:=n+2) (u:=M a) (j:=n+1) (by omega);have hD:=Zkd (M i n) (M a n) (k:=K) (by omega) (hd i n C (by omega)) (hd a n ha (by omega)) hz;have dQ:dz (M i n/M a n) (K+K):=ZuJ (hd i n C (by omega)) (hd a n ha (by omega)) hz;have hM:=ZhY (M i n/M a n) (M a (n+1)) (k:=2*K) (by omega) (Zbe (by omega) dQ) (Zbe (by omega) (hd a (n+1) ha (by omega)));have hS:=Zel (M i (n+1)) (M i n/M a n*M a (n+1)) (k:=3*K) (by omega) (Zbe (by omega) (hd i (n+1) C (by omega))) (Zbe (by omega) (ZlR dQ (hd a (n+1) ha (by omega))));have ai:=ZKe R;have I:=λless right=>ZM0 n r a (ZcY a i) i K M (Zbt n a M (ZcY a i)) less right hn ha C hK hd hz (λk hk=>by show M (sk a (ZcY a i)) (sk n k)-M (sk a (ZcY a i)) n/M a n*M a (sk n k)=_;rw[ai,ZLS hk]);have eR:Zbt n a M (ZcY a i) n=M i (n+1)-M i n/M a n*M a (n+1):=(by show M (sk a (ZcY a i)) (sk n n)-M (sk a (ZcY a i)) n/M a n*M a (sk n n)=_;rw[ai,ZLj]);have aj:tmT (ZcY a (i+1)) n (Zbt n a M)=tmT (ZcY a i) n (Zbt n a M)++ [tvT n (Zbt n a M (ZcY a i))]:=(by rw[ZnP R,Zvo]);have ak:(tvT (ZcY a (i+1)) λj=>Zbt n a M j n)=(tvT (ZcY a i) λj=>Zbt n a M j n)++ [Zbh (M i (n+1)-M i n/M a n*M a (n+1))]:=(by rw[ZnP R,Zip,eR]);have ad:(tmT (ZcY a i) n (Zbt n a M)).length=ZcY a i:=Za4;have ae:(tvT (ZcY a i) λj=>Zbt n a M j n).length=ZcY a i:=Zba;have al:(tvT n (Zbt n a M (ZcY a i))).length=n:=Zba;have hcn:=ZnP R;have ax:=ZJE (a:=a) (i:=i);have I:=I (tmT (ZcY a i) n (Zbt n a M)) (tvT (ZcY a i) λj=>Zbt n a M j n);show wp _ _ _ _ _ _ _ [SM.row (.l .s) (tmT r (n+2) M) true, .row .s (List.replicate (n+1) []) true, .row (.l .s) (tmT (ZcY a i) n (Zbt n a M)) true, .row .s (tvT (ZcY a i) λj=>Zbt n a M j n) true] _;obtain⟨less,el⟩: ∃x,tmT (ZcY a i) n (Zbt n a M)=x:=⟨_,rfl⟩;obtain⟨right,er⟩: ∃x,(tvT (ZcY a i) λj=>Zbt n a M j n)=x:=⟨_,rfl⟩;obtain⟨v,ev⟩: ∃x,tvT n (Zbt n a M (ZcY a i))=x:=⟨_,rfl⟩;obtain⟨x1,an⟩: ∃x,Zbh (M i n)=x:=⟨_,rfl⟩;obtain⟨x2,ao⟩: ∃x,Zbh (M a n)=x:=⟨_,rfl⟩;obtain⟨x3,af⟩: ∃x,Zbh (M i n/M a n)=x:=⟨_,rfl⟩;obtain⟨x4,aq⟩: ∃x,Zbh (M a (n+1))=x:=⟨_,rfl⟩;obtain⟨x5,ar⟩: ∃x,Zbh (M i n/M a n*M a (n+1))=x:=⟨_,rfl⟩;obtain⟨x6,au⟩: ∃x,Zbh (M i (n+1))=x:=⟨_,rfl⟩;obtain⟨U,av⟩: ∃x,Zbh (M i (n+1)-M i n/M a n*M a (n+1))=x:=⟨_,rfl⟩;obtain⟨row,J⟩: ∃x,tvT (n+2) (M i)=x:=⟨_,rfl⟩;obtain⟨ay,ag⟩: ∃x,tvT (n+2) (M a)=x:=⟨_,rfl⟩;rw[el,er,ev,af,J]at I;rw[el,er,J];rw[an]at gi;rw[ao]at ga;rw[aq]at ab;rw[au]at aa;rw[an,ao,af]at hD;rw[af,aq,ar]at hM;rw[au,ar,av]at hS;rw[J]at gi aa;rw[ag]at ga ab gr;rw[el,ev]at aj;rw[er,av]at ak;rw[el]at ad;rw[er]at ae;rw[ev]at al;obtain⟨c,ec⟩: ∃x,ZcY a i=x:=⟨_,rfl⟩;rw[ec]at I ad ae hcn ax;refine auG ?_;refine brF h2 ?_;refine auH ?_;refine Zsx rfl (λ_=>rfl) ah gi rfl rfl ?_;refine auM ?_;refine Zqd rfl (λ_=>rfl) ca rfl rfl ?_;refine ZBG rfl (λ_=>rfl) gr rfl rfl ?_;refine auM ?_;refine Zsx rfl (λ_=>rfl) ah ga rfl rfl ?_;refine auN ?_;refine auG ?_;refine auG ?_;refine(I.ent ?_).through ?_;refine Ent.trans (tm1:=[(2,nt (n+1)),(8, .ref 0 0 r none),(11, .ref 1 0 (n+1) none),(14,nt a),(17, .ref 2 0 c none),(18, .ref 3 0 c none),(20, .v (.l .s) row),(21, .v .s x3),(22, .nils),(86, .ref 0 0 r none),(87,nt r),(88,nt i),(111,nt n),(112,nt 0)]) (hp1:=[.row (.l .s) (tmT r (n+2) M) true, .row .s (List.replicate (n+1) []) true, .row (.l .s) less true, .row .s right true]) (Zah ⟨rfl,rfl,rfl,rfl,congrArg (λx=>some (SV.ref 2 0 x none)) ec,congrArg (λx=>some (SV.ref 3 0 x none)) ec,rfl,rfl,rfl,rfl,rfl,rfl,congrArg (λx=>some (SV.v (.i .i64) x)) hw,rfl,trivial⟩) ?_;refine ZnT (k:=22) (ct:= .s) (Xak _) rfl (λi V hb h=> ?_) rfl;simp only[vSD,ZbJ,hb]at h|-;exact h;rintro _ tm hp' ⟨rfl,hE⟩;refine⟨_,_,hE, ?_⟩;show wp _ _ _ _ _ _ _ [SM.row (.l .s) (tmT r (n+2) M) true, .row .s (List.replicate (n+1) []) true, .row (.l .s) less true, .row .s right true, .row .s v true] _;have zC:(c+1)*24<=140737488355328:=(by omega);have zB:(c+ [U].length)*16<=140737488355328:=(by show(c+1)*16<=_;omega);have n0:(0:Nat)≠2/\(1:Nat)≠2/\(3:Nat)≠2:=(by decide);have m0:(0:Nat) ∉ [5,4]/\(1:Nat) ∉ [5,4]/\(3:Nat) ∉ [5,4]/\(2:Nat) ∉ [5,4]:=(by decide);have l6:(0:Nat)<6/\(1:Nat)<6/\(3:Nat)<6:=(by decide);refine ZLA ?_;refine Zak rfl rfl (opv (λ_=>rfl) rfl rfl ?_);refine Zak rfl rfl (opv (λ_=>rfl) rfl rfl ?_);refine Zak rfl rfl (opm (λ_=>rfl) rfl rfl ?_);refine Zcs rfl rfl rfl rfl rfl ?_;refine Zcs rfl rfl rfl rfl rfl ?_;refine Zcs rfl rfl rfl rfl rfl ?_;refine ZAc rfl rfl rfl (λ_=>rfl) (XaG (n+1:Nat)) aa rfl rfl ?_;refine Zxp rfl rfl rfl (λ_=>rfl) rfl rfl ?_;refine Zcs rfl rfl rfl rfl rfl ?_;refine Zcs rfl rfl rfl rfl rfl ?_;refine Zcs rfl rfl rfl rfl rfl ?_;refine ZEl rfl rfl rfl (λ_=>rfl) ca rfl rfl ?_;refine ZD9 rfl rfl rfl (λ_=>rfl) gr rfl rfl ?_;refine Zcs rfl rfl rfl rfl rfl ?_;refine ZAc rfl rfl rfl (λ_=>rfl) (XaG (n+1:Nat)) ab rfl rfl ?_;refine Zxp rfl rfl rfl (λ_=>rfl) rfl rfl ?_;refine ZIm rfl rfl rfl rfl rfl rfl rfl rfl (ZsM (ct:= .l .s) (l:=less) (x:=v) rfl rfl rfl rfl rfl rfl rfl rfl rfl (λkk hk=>ZrZ rfl rfl al hk) (by rw[Zei rfl rfl];exact m0.2.2.2) rfl ad.symm zC (λi1 H1 q1 q2 q3=> ?_));refine Zan rfl rfl ?_;refine Zak rfl rfl ((hM).mono ?_);rintro _ rfl;refine Zan rfl rfl ?_;refine Zak rfl rfl ((hS).mono ?_);rintro _ rfl;refine Zan rfl rfl ?_;refine Zak rfl rfl (opm (λ_=>rfl) rfl rfl ?_);have k3:=ZdD (y:=SM.row .s [U] true) (q2 3 n0.2.2 (by rw[Zei rfl rfl];exact m0.2.2.1) l6.2.2);have k0:=ZdD (y:=SM.row .s [U] true) (q2 0 n0.1 (by rw[Zei rfl rfl];exact m0.1) l6.1);refine ZIm rfl rfl rfl rfl rfl rfl rfl (ZJp k3 k0) (ZnI (ct:= .s) (l:=right) (new:=[U]) rfl rfl rfl rfl rfl rfl rfl rfl rfl (ZdD (q2 3 n0.2.2 (by rw[Zei rfl rfl];exact m0.2.2.1) l6.2.2)) ae.symm (λkk hk=>Zgu ZlJ (Xae 1) hk) zB (λi2 H2 g1 g2 g3 g4=> ?_));refine Zan rfl rfl ?_;refine Zak rfl rfl (opv (λ_=>rfl) rfl rfl ?_);refine Zak rfl rfl (opv (λ_=>rfl) rfl rfl ?_);refine ZAS ?_;refine auG ?_;refine⟨i+1,C,by show r-(i+1)<r-i;omega, ?_⟩;show Ent 0 _ H2 _ [SM.row (.l .s) (tmT r (n+2) M) true, .row .s (List.replicate (n+1) []) true, .row (.l .s) (tmT (ZcY a (i+1)) n (Zbt n a M)) true, .row .s (tvT (ZcY a (i+1)) λj=>Zbt n a M j n) true];rw[aj,ak];have az:=Zvt q1;have h6:6<=i1:=q3;have hlen:(H1++ [SM.row .s [U] true]).length=H1.length+1:=(by rw[Xal];rfl);have b2:i2=3\/H1.length+1<=i2:=(by rw[<-hlen];exact g4);have e0:nth H2 0=some (.row (.l .s) (tmT r (n+2) M) true):=(g2 0 (by decide) (show 0<(H1++ [SM.row .s [U] true]).length by rw[hlen];omega)).trans (ZdD (q2 0 n0.1 (by rw[Zei rfl rfl];exact m0.1) l6.1));have e1:nth H2 1=some (.row .s (List.replicate (n+1) []) true):=(g2 1 (by decide) (show 1<(H1++ [SM.row .s [U] true]).length by rw[hlen];omega)).trans (ZdD (q2 1 n0.2.1 (by rw[Zei rfl rfl];exact m0.2.1) l6.2.1));have e2:nth H2 i1=some (.row (.l .s) (less++ [v]) true):=(g2 i1 (by omega) (show i1<(H1++ [SM.row .s [U] true]).length by rw[hlen];omega)).trans (ZdD q1);exact Zbv [0,1,i1,i2] ⟨e0,rfl,e1,rfl,e2,rfl,g1,rfl,trivial⟩ (by simp;omega)
    ⟨rfl,ZaO,rfl,ZaF (by show 0<4;decide),rfl,ZaF (by show 1<4;decide),rfl,ZaO,congrArg (λx=>some (SV.ref i1 0 x none)) hcn.symm,ZaF (by show 2<4;decide),congrArg (λx=>some (SV.ref i2 0 x none)) hcn.symm,ZaF (by show 3<4;decide),rfl,ZaF (by show 0<4;decide),rfl,ZaO,congrArg (λx=>some (SV.v (.i .i64) x)) (ZbA (by omega)),ZaO,trivial⟩
end Go.Proofs.YtpdhpbldangmbaaGreatDoor
