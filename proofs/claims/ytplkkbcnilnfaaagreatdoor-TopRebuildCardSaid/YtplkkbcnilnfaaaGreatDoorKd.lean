/- rebuild.state, rebuild.order. -/
import Derived.Test.YtplkkbcnilnfaaaGreatDoorFb
set_option linter.all false
set_option maxHeartbeats 16000000
set_option maxRecDepth 100000
open Go.Proofs.Tryz
namespace Go.Proofs.YtplkkbcnilnfaaaGreatDoor
noncomputable section
open Go.Am Go.Tx Ne Dv Go.Lib La
def ZDI {n:Ne.Net} (h:(Zli n).2=0): ∃p,Zli n=(some p,0):=by
 unfold Zli at h|-;cases j:decide (ZdW n=0)with
 |false=>rw[j]at h;exact absurd h (of_decide_eq_false j)
 |true=>
  rw[j]at h;cases C:(shF n).1.any Zue with
  |true=>rw[C]at h;cases h
  |false=>
   rw[C]at h;have h:(Zs9 n (shF n).2 (List.replicate n.stores.length 0)).2=0:=h;show ∃p,Zs9 n (shF n).2 (List.replicate n.stores.length 0)=(some p,0)
   unfold Zs9 at h|-;cases I:(ZGR n.gens (shF n).2&&ZE0 n.stores (List.replicate n.stores.length 0))with|false=>rw[I]at h;cases h|true=>rw[I]at h;cases J:(n.nodes.map (Zew (ZuM n (shF n).2 (List.replicate n.stores.length 0)))).any ZeI with|true=>rw[J]at h;cases h|false=>exact⟨_,rfl⟩
def ZBa (n:Ne.Net) (θ:Nat->Rat):Bool:=Zju ((List.range (Zaf n)).map θ)&&Zju ((List.range n.brs.length).map (flB n θ))
def rsE (n:Ne.Net):Int:=bif !decide ((Zli n).2=0)then(Zli n).2 else match(Zli n).1 with
 |none=>1
 |some p=>bif decide (ZeK n p=0)then bif ZBa n (thD n p)then 0 else 2 else ZeK n p
def rsT (n:Ne.Net):Nat->Rat:=match(Zli n).1 with
 |none=>λ_=>0
 |some p=>thD n p
def rsO (n:Ne.Net):List Txt:=ovI n (flB n (rsT n)) n.brs.length
def rsV (n:Ne.Net):SV:=bif decide (rsE n=0)then .tup [.agg [.v (.l .s) (((List.range (Zaf n)).map (rsT n)).map Zhf), .v (.l .s) (((List.range n.brs.length).map (flB n (rsT n))).map Zhf)], .v (.l .s) (rsO n),nt 0]else .tup [.agg [.nils, .nils], .nils, .v IC (rsE n)]
def Zrz: ∀ {l:List Rat},Zju l=true-> ∀q∈l,ZoL q=true
 |q::r,h,x,hx=>by rw[Zju]at h;cases j:ZoL q with|false=>rw[j]at h;cases h|true=>rw[j]at h;rcases Xau.1 hx with rfl|hx;exact j;exact Zrz h x hx
def Zxz (n:Ne.Net) (U:Zbb n):PureOK prog Zaj 12 [.agg (ZbC n)] (λV=>V=rsV n):=by refine Zad Zab func12 ?_;have J:=Zxl n U;cases R:decide ((Zli n).2=0)with|false=>have e:rsE n=(Zli n).2:=(by rw[rsE,R];rfl);have eV:rsV n= .tup [.agg [.nils, .nils], .nils, .v IC (Zli n).2]:=(by rw[rsV,e,R];rfl);rw[eV];refine axT ?_;exact⟨rfl,rfl⟩|true=>obtain⟨p,hp⟩:=ZDI (of_decide_eq_true R);have hS:=Zz6 n U p;unfold ZHy at hS;rw[hp]at J;have J:PureOK prog Zaj 25 [.agg (ZbC n)] (λV=>V= .tup [.v (.l IC) p,nt 0]):=J;have j:rsE n=bif decide (ZeK n p=0)then bif ZBa n (thD n p)then 0 else 2 else ZeK n p:=(by rw[rsE,hp];rfl);cases I:decide (ZeK n p=0)with|false=>rw[I]at hS j;have j:rsE n=ZeK n p:=j;have hS:PureOK prog Zaj 26 [.agg (ZbC n), .v (.l IC) p] (λV=>V= .tup [.agg [.nils, .nils], .v IC (ZeK n p)]):=hS;have eV:rsV n= .tup [.agg [.nils, .nils], .nils, .v IC (ZeK n p)]:=(by rw[rsV,j,I];rfl);rw[eV];refine axT ?_;exact⟨rfl,rfl⟩|true=>rw[I]at hS j;have hS:PureOK prog Zaj 26 [.agg (ZbC n), .v (.l IC) p] (λV=>V=ZED n (thD n p)):=hS;have hf:=(ZfB (of_decide_eq_true I)).1;unfold ZED at hS;cases C:ZBa n (thD n p)with|false=>rw[C]at j;have j:rsE n=2:=j;rw[ZBa]at C;rw[C]at hS;have eV:rsV n= .tup [.agg [.nils, .nils], .nils, .v IC (2:Int)]:=(by rw[rsV,j];rfl);rw[eV];refine axT ?_;exact⟨rfl,rfl⟩|true=>rw[C]at j;have j:rsE n=0:=j;have eT:rsT n=thD n p:=(by rw[rsT,hp]);rw[ZBa]at C;rw[C]at hS;rw[Xah]at C;have hO:=ZEH n hf (flB n (thD n p)) λi hi=>Zrz C.2 _ (XaU.2 ⟨i,Xba.2 hi,rfl⟩);have eV:rsV n= .tup [.agg [.v (.l .s) (((List.range (Zaf n)).map (thD n p)).map Zhf), .v (.l .s) (((List.range n.brs.length).map (flB n (thD n p))).map Zhf)], .v (.l .s) (ovI n (flB n (thD n p)) n.brs.length),nt 0]:=(by rw[rsV,rsO,j,eT];rfl);rw[eV];refine axT ?_;exact⟨rfl,rfl⟩
def Zm2 (n:Ne.Net):Int:=bif decide (rsE n=0)&&decide (((rsO n).length:Int)>0)then 17 else rsE n
def ZpV (n:Ne.Net) (C:Zbb n):PureOK prog Zaj 19 [.agg (ZbC n)] (λV=>V= .v IC (Zm2 n)):=by refine Zad Zab func19 ?_;have hS:=Zxz n C;unfold rsV at hS;unfold Zm2;cases j:decide (rsE n=0)with|false=>rw[j]at hS;have hS:PureOK prog Zaj 12 [.agg (ZbC n)] (λV=>V= .tup [.agg [.nils, .nils], .nils, .v IC (rsE n)]):=hS;rw[XbZ];refine axT ?_;rfl|true=>rw[j]at hS;have I:=of_decide_eq_true j;have hS:PureOK prog Zaj 12 [.agg (ZbC n)] (λV=>V= .tup [.agg [.v (.l .s) (((List.range (Zaf n)).map (rsT n)).map Zhf), .v (.l .s) (((List.range n.brs.length).map (flB n (rsT n))).map Zhf)], .v (.l .s) (rsO n),nt 0]):=hS;rw[Bool.true_and,I];generalize rsO n=O at*;cases J:decide ((O.length:Int)>0)with|true=>refine axT ?_;rfl|false=>refine axT ?_;rfl
structure OnOK (n:Ne.Net) (on:List Txt):Prop where
 net:ZdW n=0
 len:on.length<=1000
 ok: ∀i x,on[i]? =some x->n.loads.any (λl=>l.1==x)=true/\ZdF x (on.take i)=false
def Zgj {n:Ne.Net} (j:Zbb n) (on:List Txt):Zbb (ZcU n on):=⟨j.1,j.2.1,j.2.2.1,j.2.2.2.1,λx C=>j.2.2.2.2.1 x (XbF.1 C).1,j.2.2.2.2.2⟩
def vCk (on:List Txt) (i:Nat):TM:=[(1, .v (.l .s) on),(2, .ptr 0 0 0),(13, .v (.l .s) on),(14,nt on.length),(15,nt i)]
def Zwo (n:Ne.Net) (U:Zbb n) (on:List Txt) (h:OnOK n on):PureOK prog Zaj 13 [.agg (ZbC n), .v (.l .s) on] (λV=>V=nt 0):=by
 refine Zad Zab func13 ?_;obtain⟨J,hl,C⟩:=h;have hC:=Check_t (bb:=true) n U;rw[J]at hC;obtain⟨_,_,_,_,b5,_⟩:=ZaC (ZeC J);have hw:Wf [SM.cell (ZbC n) true]:=λm hm id hid=>by rw[Xat.1 hm]at hid;exact absurd hid Xav
 refine axT ?_;refine ZnC Zab rfl (vCk on) (λ_=> [.cell (ZbC n) true]) on.length (λi j h1=> ?_) (Zbk [0] rfl ⟨rfl,trivial⟩ ⟨rfl,rfl,rfl,rfl,rfl,trivial⟩) (λh1=> ?_);obtain⟨x,I,gx⟩:=Zdb j;obtain⟨k1,k2⟩:=C i x I;have R:=ZIA 29 1 (λl=>l.1==x) n.loads (by omega) [.cell (ZbC n) true, .cell [.v .s x] true] (hw.add rfl) (by show 1<2;decide) (by kernel_rfl) λl _=>ZAu _ 1 x l (hw.add rfl) rfl;rw[k1]at R;have hI:=ZdG (bb:=true) (on.take i) x (by rw[Xay];omega);rw[k2]at hI;have c1:(0:Int)<=(i:Int)/\(i:Int)<=((on.length:Nat):Int):=by omega
 refine axT ?_;refine Zac rfl (R.mono ?_);rintro _ hp' ⟨rfl,ex,rfl,_⟩;refine Zaa rfl rfl ?_;refine axT ?_;refine nxt j ?_;exact ZcL (hp0:=[.cell (ZbC n) true]) (ex:= .cell [.v .s x] true::ex) (Xap _) ⟨rfl,ZaJ,rfl,ZbQ (by show 0<1;decide),rfl,ZaJ,rfl,ZaJ,congrArg (λx=>some (SV.v (.i .i64) x)) (Zbd (by omega)),ZaJ,trivial⟩ hw;refine axT ?_;rfl
def ZG5 (n:Ne.Net) (j:Zbb n) (on:List Txt) (h:OnOK n on):PureOK prog Zaj 11 [.agg (ZbC n), .v (.l .s) on] (λV=>V= .tup [.agg (ZbC (ZcU n on)),nt 0]):=by refine Zad Zab func11 ?_;have C:=Zwo n j on h;have hW:=Ztb n on (ZoI h.net) h.len;refine axT ?_;exact⟨rfl,rfl⟩
def Zzl {m:Ne.Net} (h:Zm2 m=0): ∃A F:List Txt,F.length=m.brs.length/\rsV m= .tup [.agg [.v (.l .s) A, .v (.l .s) F], .v (.l .s) ([]:List Txt),nt 0]:=by unfold Zm2 at h;cases j:decide (rsE m=0)with|false=>rw[j,XbZ]at h;exact absurd h (of_decide_eq_false j)|true=>rw[j,Bool.true_and]at h;cases C:decide (((rsO m).length:Int)>0)with|true=>rw[C]at h;cases h|false=>have I:=of_decide_eq_false C;have e:rsO m=[]:=Xbg.1 (by omega);refine⟨_,_, ?_,by rw[rsV,j,e];rfl⟩;rw[XaG,XaG,Xbe]
def ZDa (n:Ne.Net) (j:Zbb n) (on:List Txt) (h:OnOK n on) (C:Zm2 (ZcU n on)=0): ∃A F:List Txt,F.length=n.brs.length/\PureOK prog Zaj 7 [.agg (ZbC n), .v (.l .s) on] (λV=>V= .tup [.agg [.v (.l .s) A, .v (.l .s) F], .v (.l .s) ([]:List Txt),nt 0]):=by obtain⟨A,F,I,e⟩:=Zzl C;refine⟨A,F,I, ?_⟩;refine Zad Zab func7 ?_;have J:=ZG5 n j on h;have hS:=Zxz (ZcU n on) (Zgj j on);rw[e]at hS;generalize ZcU n on=m at*;refine axT ?_;exact⟨rfl,rfl⟩
def ZAd {P:Program} {h:Hints} {f:FuncId} {e:CT} {W:SV} {Q:SV->Prop} (hp:PureOK P h f [.v (.l e) ([]:List e.D),W] Q):PureOK P h f [.nils,W] Q:=⟨λqs j=>hp.out qs (by simp only[RL]at j|-;obtain⟨q,r,rfl,C,I⟩:=j;exact⟨q,r,rfl,AsV.nil e [] q C,I⟩)⟩
def ZCJ (hp:List SM) (p:Nat) (x:Txt) (hw:Wf hp) (hp1:nth hp p=some (.cell [.nils] true)):Ans false 18 p (λ_=>false) hp x:=by refine ZbH (fn:=Tryz.f18) (code:=bodyOf Tryz.f18) Zab (by kernel_rfl) func18 (by kernel_rfl) (Xao (by kernel_rfl)) ?_;intro base;have j:PureOK prog Zaj 14 [.nils, .v .s x] (λV=>V= .v .b false):=ZAd (ZdG (bb:=true) [] x (Xap _));refine auG ?_;refine ZpR ?_;refine Zac rfl (ZaZ rfl rfl hp1 rfl rfl ?_);refine Zaa rfl rfl ?_;refine auN ?_;exact⟨rfl,[],(XaN _).symm,hw⟩
def ZEN (hp:List SM) (id p:Nat) (l:List Txt) (C:l.length<=1000) (hw:Wf hp) (hid:nth hp id=some (.row .s l true)) (hp1:nth hp p=some (.cell [.nils] true)):
 OpenOK prog Zaj 16 [.ref id 0 l.length none, .func 18 [] [.ptr p 0 0]] hp (λV hp'=>V= .ref id 0 l.length none/\ ∃ex,hp'=hp++ex):=by
 refine ZbH (fn:=Tryz.f16) (code:=bodyOf Tryz.f16) Zab (by kernel_rfl) func16 (by kernel_rfl) (Xao (by kernel_rfl)) ?_;intro base;have j:=ZIf false true 18 p id (λ_=>false) l C hp hw (λ_=>hid) (Zje hp1) (by kernel_rfl) (λx _=>ZCJ hp p x hw hp1);rw[Zoy λ_ _=>rfl]at j;refine axT ?_;refine Zac rfl (j.mono ?_);rintro _ hp' ⟨rfl,ex,rfl,_⟩;refine Zaa rfl rfl ?_;refine axT ?_;refine Za2 ?_;repeat (first|refine ZaL ?_|refine ZaN ?_|refine ZaE ?_)
 exact⟨rfl,ex,rfl⟩
def hR (n:Ne.Net) (ns:List Txt):List SM:=[.cell (ZbC n) true, .cell [.ref 2 0 ns.length none] true, .row .s ns true]
def ZFu (n:Ne.Net) (C:Zbb n) (I:big n=false) (ns:List Txt) (j:ns.length<=1000):OpenOK prog Zaj 15 [.nils, .ptr 1 0 0, .ptr 0 0 0] (hR n ns) (λV _=>V= .v .b (decide (Zm2 (ZcU n ns)=0))):=by
 refine ZbH (fn:=Tryz.f15) (code:=bodyOf Tryz.f15) Zab (by kernel_rfl) func15 (by kernel_rfl) (Xao (by kernel_rfl)) ?_;intro base;have J:ImpOK prog Zaj 17 [.v (.l .s) (sub ns 0 ns.length)] (λV hp R=>V= .ref 0 0 ns.length none/\hp=[.row .s ns true]/\R=false):=by rw[ZaM rfl];exact Zg8 .tx ns j
 have hW:PureOK prog Zaj 20 [.agg (ZbC n), .v (.l .s) (sub ns 0 ns.length)] (λV=>V= .agg (ZbC (ZcU n ns))):=by rw[ZaM rfl];exact Ztb n ns I j
 have U:=ZpV (ZcU n ns) (Zgj C ns);have hw:Wf [SM.cell (ZbC n) true, .cell [.ref 2 0 ns.length none] true, .row .s ns false, .cell [.nils] true, .row .s ns true]:=λm hm id hid=>by
  simp only[Xau,Xav,or_false]at hm;rcases hm with rfl|rfl|rfl|rfl|rfl<;>first
   |exact absurd hid Xav
   |(have h:id=2:=Xat.1 hid
     rw[h];show 2<5;decide)
 have hD:=ZEN _ 4 3 ns j hw rfl rfl;have z:0+ns.length<=ns.length:=Xbj (Xak _);refine axT ?_;refine Zac rfl (Zp5 rfl rfl rfl rfl rfl (ZcK (m:=38) rfl z (J.mono ?_)));rintro _ _ _ ⟨rfl,rfl,rfl⟩;refine Zaa rfl rfl ?_;refine ZcW (hp':=[SM.cell (ZbC n) true, .cell [.ref 2 0 ns.length none] true, .row .s ns false, .cell [.nils] true, .row .s ns true]) rfl ?_;refine axT ?_;refine Zac rfl (hD.mono ?_);rintro _ hp' ⟨rfl,ex,rfl⟩;refine Zaa rfl rfl ?_;refine axT ?_;refine Zac rfl (ZnP rfl rfl rfl rfl rfl rfl ?_);refine⟨z, ?_⟩;refine hW.mono ?_;rintro _ rfl;refine Zaa rfl rfl ?_;refine axT ?_;rfl
def Zx7 (n:Ne.Net) (j:Zbb n) (C:big n=false) (ns:List Txt) (I:ns.length<=1000):OpenOK prog Zaj 21 [.ref 2 0 ns.length none, .nils,nt 0,nt 0, .func 15 [] [.ptr 1 0 0, .ptr 0 0 0]] (hR n ns) (λV _=>V= .tup [.nils, .v .b (decide (Zm2 (ZcU n ns)=0))]):=by
 refine ZbH (fn:=Tryz.f21) (code:=bodyOf Tryz.f21) Zab (by kernel_rfl) func21 (by kernel_rfl) (Xao (by kernel_rfl)) ?_;intro base;have hR:=ZFu n j C ns I;refine axT ?_;refine Zac rfl (ZDo rfl rfl rfl rfl (by kernel_rfl) (hR.mono ?_));rintro _ hp' rfl;refine Zaa rfl rfl ?_;refine axT ?_;refine Za2 ?_;repeat (first|refine ZaL ?_|refine ZaN ?_|refine ZaE ?_)
 rfl
def nsI (n:Ne.Net) (on:List Txt) (i:Nat):List Txt:=((n.loads.take i).filter λx=>ZdF x.1 on).map (·.1)
def ZvN (n:Ne.Net) (on:List Txt):ZcU n (nsI n on n.loads.length)=ZcU n on:=by
 have e:n.loads.filter (λx=>ZdF x.1 (nsI n on n.loads.length))=n.loads.filter λx=>ZdF x.1 on:=by refine List.filter_congr λx j=> ?_;rw[Zfk,Zfk,nsI,Xa3];refine decide_eq_decide.2 ⟨λh=> ?_,λh=> ?_⟩;obtain⟨y,C,e⟩:=XaU.1 h;have:=(XbF.1 C).2;rw[Zfk]at this;rw[<-e];exact of_decide_eq_true this;exact XaU.2 ⟨x,XbF.2 ⟨j,by rw[Zfk];exact decide_eq_true h⟩,rfl⟩
 rw[ZcU,ZcU,e]
def ZAI {n:Ne.Net} {on:List Txt} {i:Nat} {x:Lo} (h:n.loads[i]? =some x):nsI n on (i+1)=nsI n on i++bif ZdF x.1 on then[x.1]else[]:=by rw[nsI,ZjW h,Xby];cases ZdF x.1 on<;>rfl
def Zvg (n:Ne.Net) (on:List Txt) (i:Nat):(nsI n on i).length<=i:=by rw[nsI,XaG];exact XaK (List.length_filter_le _ _) (by rw[Xay];omega)
def vRl (n:Ne.Net) (on:List Txt) (i:Nat):TM:=[(1, .v (.l .s) on),(2, .ptr 0 0 0),(7, .ptr 1 0 0),(24, .v (.l dCT) n.loads),(25,nt n.loads.length),(26,nt i)]
def ZzP (n:Ne.Net) (hz:Zbb n) (on:List Txt) (h:OnOK n on) (hl:on.length<=5) (ho:Zm2 (ZcU n on)=0):PureOK prog Zaj 8 [.agg (ZbC n), .v (.l .s) on] (λV=>V= .tup [.nils,nt 0]):=by
 refine Zad Zab func8 ?_;obtain⟨_,_,_,_,b5,_⟩:=ZaC (ZeC h.net);have hC:=Zwo n hz on h;have h5:decide ((on.length:Int)>5)=false:=decide_eq_false (by omega);refine axT ?_;refine ZnC Zab rfl (vRl n on) (λi=>hR n (nsI n on i)) n.loads.length (λi I h1=> ?_) ?_ (λh1=> ?_);obtain⟨x,R,gx⟩:=Zdb I;have hle:=Zvg n on i;have hI:=ZdG (bb:=true) on x.1 h.len;have C:=ZAI (on:=on) R;have w1:=congrArg (λx=>some (SV.v (.i .i64) x)) (Zbd (k:=i) (by omega));have U:((nsI n on i).length+1)*16<=140737488355328:=by omega
 cases h2:ZdF x.1 on with|true=>rw[h2]at hI C;have C:nsI n on (i+1)=nsI n on i++ [x.1]:=C;refine axT ?_;refine Zac rfl (Zcj rfl rfl rfl rfl rfl rfl rfl rfl rfl rfl rfl rfl U ?_);refine Zaa rfl rfl ?_;refine axT ?_;refine nxt I ?_;show Ent 0 _ _ (vRl n on (i+1)) (hR n (nsI n on (i+1)));have eL:(nsI n on i++ [x.1]).length=(nsI n on i).length+1:=(by rw[Xas];rfl);have eH:hR n (nsI n on (i+1))=[.cell (ZbC n) true, .cell [.ref 2 0 ((nsI n on i).length+1) none] true, .row .s (nsI n on i++ [x.1]) true]:=(by rw[C,<-eL];rfl);rw[eH];refine Ent.eqs (hp0:=[.cell (ZbC n) true, .cell [.ref 5 0 ((nsI n on i).length+1) none] true, .dead, .cell (Zbf dCT x) true, .row .s [x.1] true, .row .s (nsI n on i++ [x.1]) true]) rfl ?_;exact Zbk [0,1,5] rfl ⟨rfl,rfl,rfl,trivial⟩ ⟨rfl,rfl,rfl,rfl,rfl,w1,trivial⟩|false=>rw[h2]at hI C;have C:nsI n on (i+1)=nsI n on i:=C.trans (XaN _);refine axT ?_;refine nxt I ?_;show Ent 0 _ _ (vRl n on (i+1)) (hR n (nsI n on (i+1)));rw[C,hR];exact Zbk [0,1,2] rfl ⟨rfl,rfl,rfl,trivial⟩ ⟨rfl,rfl,rfl,rfl,rfl,w1,trivial⟩
 refine Ent.trans (tm1:=vRl n on 0) (hp1:=[.cell (ZbC n) true, .cell [.nils] true]) (Zbk [0,1] rfl ⟨rfl,rfl,trivial⟩ ⟨rfl,rfl,rfl,rfl,rfl,rfl,trivial⟩) ?_;exact Zgs (c:=1) (j:=0) (cs:=[.nils]) (b:=true) (ct:= .s) (Xap _) rfl rfl;·have aa:=Zvg n on n.loads.length;have J:=Zx7 n hz (ZoI h.net) (nsI n on n.loads.length) (by omega);rw[ZvN,ho]at J;have h6:decide ((0:Int)<=((nsI n on n.loads.length).length:Int))=true:=decide_eq_true (XaH _);generalize nsI n on n.loads.length=ns at*;refine axT ?_;refine Zap Zab rfl (λ(_:Unit)=> [(7, .ptr 1 0 0),(10, .func 15 [] [.ptr 1 0 0, .ptr 0 0 0]),(11,nt 0)]) (λ_=>hR n ns) (λ_=>True) (λ_=>0) ?_ () trivial (Zae ⟨rfl,rfl,rfl,trivial⟩);rintro _ _;refine axT ?_;refine Zac rfl (J.mono ?_);rintro _ hp' rfl;refine Zaa rfl rfl ?_;refine axT ?_;refine Za2 ?_;(repeat (first|refine ZaL ?_|refine ZaN ?_|refine ZaE ?_));rfl
section
variable {P:Program} {h:Hints} {T:TypeId->TI} {hp:List SM} {tm:TM} {N i:Nat} {ls:List Nat} {l:List Oper} {o:Oper} {ks:List (Nat × Nat × Bool)} {kk:TM->List SM->Prop}
def ZCd {t:TypeId} {x:Operand} {id a r:Nat} (hi:has i ls=true) (j:o.op= .load t x) (C:evS tm x=some (.ptr id a r)) (I:opT P h T (.load t x) tm hp λV hp'=>ZcR N o.dst V tm λtm'=>ZaD P h T N ls l (i+1) ((i,id,true)::ks) tm' hp' kk):ZaD P h T N ls (o::l) i ks tm hp kk:=by simp only[ZaD,hi,j,C];exact I
def ZHc {y:Nat×Nat×Bool} {j:List (Nat×Nat×Bool)} {C:Nat} {ids:List Nat} {c:Call} (hi:has i ls=false) (hd:ZqC h o ks=y::j) (hw:isW h o=true) (R:ZlP (y::j)=C::ids) (I:o.op= .call c) (U:ZHI h tm c=false) (ha:ZHB tm c=some none)
 (J:opT P h T o.op tm hp λV hp'=>ZcR N o.dst V tm λtm'=>ZaD P h T N ls l (i+1) (y::j) tm' hp' kk):ZaD P h T N ls (o::l) i ks tm hp kk:=by rw[I]at J;simp only[ZaD,hi,hd,hw,R,I,U,ha];exact J
def ZFH {op:Op} {ct:CT} {by_ j:Nat} {m2:Option Nat} {b:Bool} {l:List ct.D} {x:ct.D} {k:SV->List SM->Prop}
 {c:Call} {t t2 e I:TypeId} {ts:List TypeId} (ho:op= .call c) (hc:c.callee= .builtin .append) (ha:evL tm c.args.toList=some [.cl ct l, .ref j 0 1 m2]) (ht:c.argTypes.toList=t::t2::ts) (J:(T t).k= .slice e) (R:(T t2).k= .slice I) (U:(T e).ct=some ct) (aa:(T e).by_=by_) (C:(ZcO (T e).k,Nat.ble 1 (T e).by_&&Nat.ble 1 (T e).sz,h.frz t)=(false,true,false)) (ab:ceq ct ct=true)
 (ad:nth hp j=some (.row ct [x] b)) (hz:(l.length+1)*by_<=140737488355328)
 (hk:k (.ref hp.length 0 (l.length+1) none) (hp++ [.row ct (l++ [x]) true])):opT P h T op tm hp k:=by
 have hg:Zys ct hp (.ref j 0 1 m2) (λnew=>ZuV ct by_ hp (.cl ct l) new k):=by refine Zjx ad (Xag 1) ?_;have I:sub [x] 0 1=[x]:=rfl;rw[I,ZuV,dif_pos ab];exact⟨hz,hk⟩
 simp only[Prod.mk.injEq]at C;obtain⟨ae,af,ag⟩:=C;simp only[ho,opT,ZfU,ha,hc,ZgX,ht,J,R,U,af,ag];subst aa;generalize(T e).k=kk at*;cases kk<;>first|(cases ae;done)|exact hg
end
def ZeQ (n:Ne.Net):Nat->List Txt->Option (List Txt)
 |0,_=>none
 |k+1,l=>bif !decide (Zm2 (ZcU n l)=0)then none else bif decide ((l.length:Int)=(n.loads.length:Int))then some l else n.loads.findSome? λx=>bif ZdF x.1 l then none else ZeQ n k (l++ [x.1])
def cV:Option (List Txt)->SV
 |none=> .tup [.nils, .v .b false]
 |some o=> .tup [.v (.l .s) o, .v .b true]
def vPk (n:Ne.Net) (l:List Txt) (i:Nat):TM:=[(1, .v (.l .s) l),(2, .ptr 0 0 0),(23, .v (.l dCT) n.loads),(24,nt n.loads.length),(25,nt i)]
def ZuK (n:Ne.Net) (hz:Zbb n) (J:ZdW n=0): ∀ (k:Nat) (l:List Txt),l.length+k=n.loads.length->PureOK prog Zaj 10 [.agg (ZbC n), .v (.l .s) l] (λV=>V=cV (ZeQ n (k+1) l)):=by
 intro k;induction k with
 |zero=>intro l hl;refine Zad Zab func10 ?_;obtain⟨_,_,_,_,b5,_⟩:=ZaC (ZeC J);have hW:=Ztb n l (ZoI J) (by omega);have hO:=ZpV (ZcU n l) (Zgj hz l);rw[ZeQ];have U:decide ((l.length:Int)=(n.loads.length:Int))=true:=decide_eq_true (by omega);cases h1:decide (Zm2 (ZcU n l)=0)with|false=>refine axT ?_;rfl|true=>rw[U];refine axT ?_;rfl
 |succ k ih=>
  intro l hl;refine Zad Zab func10 ?_;obtain⟨_,_,_,_,b5,_⟩:=ZaC (ZeC J);have hW:=Ztb n l (ZoI J) (by omega);have hO:=ZpV (ZcU n l) (Zgj hz l);rw[ZeQ];have U:decide ((l.length:Int)=(n.loads.length:Int))=false:=decide_eq_false (by omega);cases h1:decide (Zm2 (ZcU n l)=0)with
  |false=>refine axT ?_;rfl
  |true=>
   rw[U];simp only[Bool.not_true,cond_false];generalize hg:(λx:Lo=>bif ZdF x.1 l then none else ZeQ n (k+1) (l++ [x.1]))=g;refine axT ?_;refine Zap Zab rfl (vPk n l) (λ_=> [.cell (ZbC n) true]) (λi=>i<=n.loads.length/\n.loads.findSome? g=(n.loads.drop i).findSome? g) (λi=>n.loads.length-i) ?_ 0 ⟨Xap _,rfl⟩ (Zbk [0] rfl ⟨rfl,trivial⟩ ⟨rfl,rfl,rfl,rfl,rfl,trivial⟩);rintro i ⟨hi,he⟩;cases h3:decide ((i:Int)<(n.loads.length:Int))with
   |false=>have e:i=n.loads.length:=(by have:=of_decide_eq_false h3;omega);rw[e,Xbt]at he;refine axT ?_;show _=cV (n.loads.findSome? g);rw[he];rfl
   |true=>
    have j:i<n.loads.length:=(by have:=of_decide_eq_true h3;omega);obtain⟨x,I,gx⟩:=Zdb j;have C:(n.loads.drop i).findSome? g=match g x with
     |some o=>some o
     |none=>(n.loads.drop (i+1)).findSome? g:=by
     have e0:n.loads.drop i=x::n.loads.drop (i+1):=by
      have:=XaL j;rw[Xad j]at I;rw[this,Xbc I]
     rw[e0,List.findSome?_cons]
     cases g x<;>rfl
    have hI:=ZdG (bb:=true) l x.1 (by omega);have hc:(0:Int)<=(l.length:Int)/\(l.length:Int)=(l.length:Int)/\(l.length:Int)<=(l.length:Int):=(by omega);have w1:=congrArg (λx=>some (SV.v (.i .i64) x)) (Zbd (k:=i) (by omega));cases R:ZdF x.1 l with|true=>rw[R]at hI;have e1:g x=none:=(by rw[<-hg];simp only[R,cond_true]);rw[e1]at C;refine axT ?_;refine⟨i+1,⟨j,he.trans C⟩,by show n.loads.length-(i+1)<n.loads.length-i;omega, ?_⟩;exact Zbk [0] rfl ⟨rfl,trivial⟩ ⟨rfl,rfl,rfl,rfl,w1,trivial⟩|false=>rw[R]at hI;have e1:g x=ZeQ n (k+1) (l++ [x.1]):=(by rw[<-hg];simp only[R,cond_false]);rw[e1]at C;have hR:=ih (l++ [x.1]) (by rw[Xas];show l.length+1+k=_;omega);have aa:(l.length+1)*16<=140737488355328:=(by omega);have z1:0+(l.length+1)<=(l++ [x.1]).length:=(by rw[Xas];exact Xbj (Xak _));have hR:PureOK prog Zaj 10 [.agg (ZbC n), .v (.l .s) (sub (l++ [x.1]) 0 (l.length+1))] (λV=>V=cV (ZeQ n (k+1) (l++ [x.1]))):=(by rw[ZaM (by rw[Xas];rfl)];exact hR);have fl:List.take ((l.length:Nat):Int).toNat l=l:=(by rw[Xac,Xa3]);refine axT ?_;refine ZCd rfl rfl rfl (ZaZ rfl rfl rfl rfl rfl ?_);refine ZaT rfl rfl ?_;refine axK ?_;refine ZHc rfl rfl rfl rfl rfl rfl rfl ?_;refine ZFH (ct:= .s) (l:=l.take ((l.length:Nat):Int).toNat) rfl rfl rfl rfl rfl rfl rfl rfl rfl rfl rfl (by rw[fl];exact aa) ?_;rw[fl];refine ZaT rfl rfl ?_;refine Zax rfl rfl (ZnP rfl rfl rfl rfl rfl rfl ?_);refine⟨z1, ?_⟩;refine hR.mono ?_;rintro _ rfl;refine ZaT rfl rfl ?_;cases h5:ZeQ n (k+1) (l++ [x.1])with|none=>rw[h5]at C;simp only[cV];refine axK ?_;refine axT ?_;refine⟨i+1,⟨j,he.trans C⟩,by show n.loads.length-(i+1)<n.loads.length-i;omega, ?_⟩;exact Zbk [0] rfl ⟨rfl,trivial⟩ ⟨rfl,rfl,rfl,rfl,w1,trivial⟩|some o=>rw[h5]at C;simp only[cV];refine axK ?_;refine axT ?_;refine Za2 ?_;(repeat (first|refine ZaL ?_|refine ZaN ?_|refine ZaE ?_));show _=cV (n.loads.findSome? g);rw[he.trans C];rfl
def ZpX (n:Ne.Net):Option (List Txt):=bif !decide (ZdW n=0)then none else bif decide ((n.loads.length:Int)>5)then none else ZeQ n (n.loads.length+1) []
def ZwV {P:Program} {h:Hints} {f:FuncId} {e:CT} {W:SV} {Q:SV->Prop} (hp:PureOK P h f [W, .v (.l e) ([]:List e.D)] Q):PureOK P h f [W, .nils] Q:=⟨λqs j=>hp.out qs (by simp only[RL]at j|-;obtain⟨q,_,rfl,I,C,_,rfl,J,rfl⟩:=j;exact⟨q,_,rfl,I,C,_,rfl,AsV.nil e [] C J,rfl⟩)⟩
def ZBR (n:Ne.Net) (C:Zbb n):PureOK prog Zaj 4 [.agg (ZbC n)] (λV=>match ZpX n with|none=> ∃e:Int,e≠0/\V= .tup [.nils, .v IC e]|some o=>V= .tup [.v (.l .s) o,nt 0]):=by refine Zad Zab func4 ?_;have U:=Check_t (bb:=true) n C;rw[ZpX];cases I:decide (ZdW n=0)with|false=>refine axT ?_;exact⟨_,of_decide_eq_false I,rfl⟩|true=>have R:=of_decide_eq_true I;cases h2:decide ((n.loads.length:Int)>5)with|true=>refine axT ?_;exact⟨2,by decide,rfl⟩|false=>have j:PureOK prog Zaj 10 [.agg (ZbC n), .nils] (λV=>V=cV (ZeQ n (n.loads.length+1) [])):=ZwV (ZuK n C R n.loads.length [] (Xak _));simp only[Bool.not_true,cond_false];cases J:ZeQ n (n.loads.length+1) []with|none=>rw[J]at j;have j:PureOK prog Zaj 10 [.agg (ZbC n), .nils] (λV=>V= .tup [.nils, .v .b false]):=j;refine axT ?_;exact⟨8,by decide,rfl⟩|some o=>rw[J]at j;have j:PureOK prog Zaj 10 [.agg (ZbC n), .nils] (λV=>V= .tup [.v (.l .s) o, .v .b true]):=j;refine axT ?_;rfl
def Zzc: ∀ (t:CT) (x:t.D),∃cs,RR t x cs
 | .i _,_=>⟨_,rfl⟩
 | .b,_=>⟨_,rfl⟩
 | .s,_=>⟨_,rfl⟩
 | .any,_=>⟨_,rfl⟩
 | .p a c,x=>by obtain⟨u,hu⟩:=Zzc a x.1;obtain⟨v,j⟩:=Zzc c x.2;exact⟨u++v,u,v,rfl,hu,j⟩
 | .l e,xs=>by
  have h: ∃es,All2 (RR e) xs es:=by induction xs with|nil=>exact⟨[],trivial⟩|cons y r C=>obtain⟨es,I⟩:=C;obtain⟨cs,J⟩:=Zzc e y;exact⟨cs::es,J,I⟩
  obtain⟨es,h⟩:=h;exact⟨[.lst es], .inr ⟨es,rfl,h⟩⟩
def ZCs (e:CT) (xs:List e.D): ∃q,RV [] (.v (.l e) xs) q:=by obtain⟨cs,h⟩:=Zzc (.l e) xs;rcases h with⟨rfl,h⟩|⟨es,rfl,h⟩;exact⟨.nils, .inl ⟨rfl,h⟩⟩;exact⟨.lst es, .inr ⟨es,rfl,h⟩⟩
def ZH1 {n:Ne.Net} (C:Zbb n) {p:List Int} (h:ZeK n p=0):IsTh n p (thD n p):=by obtain⟨I,J⟩:=ZCs .s n.nodes;obtain⟨R,U⟩:=ZCs ZlS n.sws;obtain⟨q3,h3⟩:=ZCs ZiZ n.brs;obtain⟨q4,h4⟩:=ZCs gCT n.gens;obtain⟨q5,h5⟩:=ZCs dCT n.loads;obtain⟨q6,h6⟩:=ZCs gCT n.stores;obtain⟨q7,h7⟩:=ZCs IC p;obtain⟨_,V,_,_,hQ⟩:=(Zvm n C p).out [.agg [I,R,q3,q4,q5,q6],q7] (by simp only[RL];refine⟨_,_,rfl, ?_,_,_,rfl,h7,rfl⟩;show RV [] (.agg [.v (.l .s) n.nodes, .v (.l ZlS) n.sws, .v (.l ZiZ) n.brs, .v (.l gCT) n.gens, .v (.l dCT) n.loads, .v (.l gCT) n.stores]) _;simp only[RV,RL];exact⟨_,rfl,_,_,rfl,J,_,_,rfl,U,_,_,rfl,h3,_,_,rfl,h4,_,_,rfl,h5,_,_,rfl,h6,rfl⟩);rcases hQ with⟨h8,_⟩|⟨_,X,hX,_⟩;exact absurd h h8;obtain⟨hf,_,_,hE⟩:=ZfB h;rw[<-ZA3 hf hX];obtain⟨N,q,j,hq,rfl⟩:=hX;exact ZIP hf hE λa ha=>Zu9 j hq (λc=>qB n p n.brs.length (frF n c)) ha
def ZEy {n:Ne.Net} (hf:Fine n) {p:List Int} {θ C:Nat->Rat} (h:IsTh n p θ) (I:IsTh n p C): ∀j,j<Zaf n->θ j=C j:=(Zty hf I).2 θ (Zty hf h).1
def ZgI:Ne.Net:=⟨[[65],[66]],[],[([76],[65],[66],1000,1000,0,40,60,10)],[([71],[65],10,50,0)],[([68],[66],30)],[]⟩
def Zub:Ne.Net:={ZgI with loads:=[]}
def Zxf:Zbb ZgI:=by refine⟨?_, ?_, ?_, ?_, ?_, ?_⟩<;>decide
def ZDF:ZdW ZgI=0:=by decide+kernel
def w0:ZcU ZgI []=Zub:=rfl
def w1:ZcU ZgI [[68]]=ZgI:=rfl
def ZzZ:Zbb Zub:=by refine⟨?_, ?_, ?_, ?_, ?_, ?_⟩<;>decide
def p0:Zli Zub=(some [0,0],0):=by decide+kernel
def p1:Zli ZgI=(some [30,-30],0):=by decide+kernel
def i0:ZeK Zub [0,0]=0:=by decide+kernel
def i1:ZeK ZgI [30,-30]=0:=by decide+kernel
def m0:Zaf Zub=2:=by decide+kernel
def m1:Zaf ZgI=2:=by decide+kernel
def dTh (c:Rat) (i:Nat):Rat:=if i=1 then c else 0
def th0:IsTh Zub [0,0] (dTh 0):=by
 refine⟨λi hi=> ?_,λi hi h=> ?_⟩;rw[m0]at hi|-;have:i=0\/i=1:=by omega
 rcases this with rfl|rfl<;>decide+kernel;rw[m0]at hi;have:i=0\/i=1:=by omega
 rcases this with rfl|rfl;rfl;exact absurd h (by decide+kernel)
def th1:IsTh ZgI [30,-30] (dTh (-30)):=by
 refine⟨λi hi=> ?_,λi hi h=> ?_⟩;rw[m1]at hi|-;have:i=0\/i=1:=by omega
 rcases this with rfl|rfl<;>decide+kernel;rw[m1]at hi;have:i=0\/i=1:=by omega
 rcases this with rfl|rfl;rfl;exact absurd h (by decide+kernel)
def ZBw {m:Ne.Net} {p:List Int} {c:Rat} (R:Zbb m) (hp:Zli m=(some p,0)) (hi:ZeK m p=0) (U:IsTh m p (dTh c)) (hm:Zaf m=2) (C:m.brs=ZgI.brs) (hf:(ZoL c&&ZoL (flB m (dTh c) 0)&& !ovB ([76],[65],[66],1000,1000,0,40,60,10) (flB m (dTh c) 0))=true):Zm2 m=0:=by
 have I:=(ZfB hi).1;have hu:=ZEy I (ZH1 R hi) U;rw[hm]at hu;have e0:thD m p 0=0:=hu 0 (by decide);have e1:thD m p 1=c:=hu 1 (by decide);have hk:0<m.brs.length:=by rw[C];decide
 have j:=ZhP I hk;rw[hm]at j;have el:flB m (thD m p) 0=flB m (dTh c) 0:=by rw[flB,flB,hu _ j.1,hu _ j.2]
 simp only[Xah,XbJ]at hf;obtain⟨⟨f1,f2⟩,f3⟩:=hf;have J:m.brs.length=1:=by rw[C];rfl
 have hS:ZBa m (thD m p)=true:=by rw[ZBa,hm,J];show(Zju [thD m p 0,thD m p 1]&&Zju [flB m (thD m p) 0])=true;rw[e0,e1,el];have f0:ZoL 0=true:=(by decide+kernel);simp only[Zju,f0,f1,f2,Bool.and_self]
 have hE:rsE m=0:=by rw[rsE,hp];show(bif decide (ZeK m p=0)then bif ZBa m (thD m p)then(0:Int)else 2 else ZeK m p)=0;rw[decide_eq_true hi,hS];rfl
 have hO:rsO m=[]:=by have eT:rsT m=thD m p:=(by rw[rsT,hp]);have g:m.brs[0]? =some ([76],[65],[66],1000,1000,0,40,60,10):=(by rw[C];rfl);rw[rsO,J,eT,ovI,g];show ovI m (flB m (thD m p)) 0++(bif ovB ([76],[65],[66],1000,1000,0,40,60,10) (flB m (thD m p) 0)then[[76]]else[])=[];rw[el,f3];rfl
 rw[Zm2,hE,hO];rfl
def ZJJ:Zm2 (ZcU ZgI [])=0:=by rw[w0];exact ZBw ZzZ p0 i0 th0 m0 rfl (by decide+kernel)
def ZJq:Zm2 (ZcU ZgI [[68]])=0:=by rw[w1];exact ZBw Zxf p1 i1 th1 m1 rfl (by decide+kernel)
def ZEQ:ZpX ZgI=some [[68]]:=by
 have j:(!decide (ZdW ZgI=0))=false:=by rw[ZDF];rfl
 rw[ZpX,j];show ZeQ ZgI 2 []=some [[68]];have C:ZeQ ZgI 1 [[68]]=some [[68]]:=by rw[ZeQ,ZJq];rfl
 have I:decide ((([]:List Txt).length:Int)=(ZgI.loads.length:Int))=false:=by decide
 rw[ZeQ,ZJJ,I];show[(([68],[66],30):Lo)].findSome? (λx:Lo=>bif ZdF x.1 []then none else ZeQ ZgI 1 ([]++ [x.1]))=some [[68]];rw[List.findSome?_cons];have J:(bif ZdF ([68]:Txt) []then none else ZeQ ZgI 1 ([]++ [([68]:Txt)]))=some [[68]]:=C;simp only[J]
def OnOK.take {n:Ne.Net} {o:List Txt} (h:OnOK n o) (j:Nat):OnOK n (o.take j):=⟨h.net,XaK (by rw[Xay];omega) h.len,λi x C=>by
 have hi:i<j:=by have:=(Xae.1 C).1;rw[Xay]at this;omega
 rw[List.getElem?_take,if_pos hi]at C;rw[List.take_take,XaQ (XbY hi)];exact h.ok i x C⟩
def ZCb {n:Ne.Net}: ∀ (k:Nat) (l o:List Txt),ZeQ n (k+1) l=some o->l.length+k=n.loads.length->OnOK n l->OnOK n o/\o.length=n.loads.length/\o.take l.length=l/\ ∀j,l.length<=j->j<=o.length->Zm2 (ZcU n (o.take j))=0:=by intro k;induction k with|zero=>(intro l o h hl C;rw[ZeQ]at h;cases I:decide (Zm2 (ZcU n l)=0)with|false=>rw[I]at h;cases h|true=>rw[I,decide_eq_true (show(l.length:Int)=(n.loads.length:Int)by omega)]at h;cases h;refine⟨C,by omega,Xa3,λj J h3=> ?_⟩;have:j=l.length:=Nat.le_antisymm h3 J;rw[this,Xa3];exact of_decide_eq_true I)|succ k ih=>intro l o h hl C;rw[ZeQ]at h;cases I:decide (Zm2 (ZcU n l)=0)with|false=>rw[I]at h;cases h|true=>rw[I,decide_eq_false (show ¬ (l.length:Int)=(n.loads.length:Int)by omega)]at h;simp only[Bool.not_true,cond_false]at h;obtain⟨x,hx,hg⟩:=List.exists_of_findSome?_eq_some h;cases J:ZdF x.1 l with|true=>rw[J]at hg;cases hg|false=>rw[J,cond_false]at hg;have aa:(l++ [x.1]).length=l.length+1:=(by rw[Xas];rfl);have R:OnOK n (l++ [x.1]):=(by refine⟨C.net,by have:=(ZaC (ZeC C.net)).2.2.2.2.1;omega,λi y U=> ?_⟩;by_cases hi:i<l.length;rw[Xam hi]at U;rw[XbT (XbY hi)];exact C.ok i y U;have ab:i=l.length:=(by have:=(Xae.1 U).1;omega);subst ab;rw[Xaz (Xag _),XbI]at U;cases U;rw[XbT (Xag _),Xa3];exact⟨List.any_eq_true.2 ⟨x,hx,by simp⟩,J⟩);obtain⟨a1,a2,a3,a4⟩:=ih (l++ [x.1]) o hg (by omega) R;have a5:o.take l.length=l:=(by have:=congrArg (List.take l.length) a3;rw[List.take_take,aa,XaQ (Nat.le_succ _),XbT (Xag _),Xa3]at this;exact this);refine⟨a1,a2,a5,λj h3 h4=> ?_⟩;rcases Nat.eq_or_lt_of_le h3 with rfl|h5;rw[a5];exact of_decide_eq_true I;exact a4 j (by omega) h4
def ZC0 {n:Ne.Net} {o:List Txt} (h:ZpX n=some o):OnOK n o/\o.length=n.loads.length/\n.loads.length<=5/\ ∀j,j<=o.length->Zm2 (ZcU n (o.take j))=0:=by rw[ZpX]at h;cases C:decide (ZdW n=0)with|false=>rw[C]at h;cases h|true=>rw[C]at h;cases I:decide ((n.loads.length:Int)>5)with|true=>rw[I]at h;cases h|false=>rw[I]at h;have:=of_decide_eq_false I;obtain⟨J,a2,_,a4⟩:=ZCb n.loads.length [] o h (Xak _) ⟨of_decide_eq_true C,Xap _,λi x R=>by cases R⟩;exact⟨J,a2,by omega,λj U=>a4 j (Xap _) U⟩
def ZBP {P:Program} {h:Hints} {T:TypeId->TI} {hp:List SM} {tm:TM} {N i:Nat} {ls:List Nat} {l:List Oper} {o:Oper} {ks:List (Nat×Nat×Bool)} {kk:TM->List SM->Prop} {x:Operand} {n:Nat} (hi:has i ls=true) (j:o.op= .extract x n) (he:opT P h T (.extract x n) tm hp λV hp'=>ZcR N o.dst V tm λtm'=>ZaD P h T N ls l (i+1) ks tm' hp' kk):ZaD P h T N ls (o::l) i ks tm hp kk:=by simp only[ZaD,hi,j];exact he
def ZEW:PureOK prog Zaj 5 [] (λV=>V= .agg (ZbC ZgI)):=by refine PureOK.as (Q:=λV=>V= .agg [.v (.l .s) ZgI.nodes, .nils, .v (.l ZiZ) ZgI.brs, .v (.l gCT) ZgI.gens, .v (.l dCT) ZgI.loads, .nils]) ?_ ?_;refine Zad Zab func5 ?_;refine axT ?_;exact⟨rfl,Xao rfl,Xao rfl,Xao rfl,Xao rfl,rfl⟩;rintro _ rfl;refine⟨_,λφ q h=> ?_,rfl⟩;show RV φ (.agg [.v (.l .s) ZgI.nodes, .v (.l ZlS) ZgI.sws, .v (.l ZiZ) ZgI.brs, .v (.l gCT) ZgI.gens, .v (.l dCT) ZgI.loads, .v (.l gCT) ZgI.stores]) q;simp only[RV,RL]at h|-;obtain⟨_,rfl,q1,_,rfl,j,q2,_,rfl,C,q3,_,rfl,I,q4,_,rfl,J,q5,_,rfl,R,q6,_,rfl,U,rfl⟩:=h;exact⟨_,rfl,_,_,rfl,j,_,_,rfl, .inl ⟨by rw[C],rfl⟩,_,_,rfl,I,_,_,rfl,J,_,_,rfl,R,_,_,rfl, .inl ⟨by rw[U],rfl⟩,rfl⟩
def ZI9 {α:Type} (l:List α):List α:=l.take (if(4:Int)<(l.length:Int)then(4:Int)else(l.length:Int)).toNat
def ZFQ (n:Ne.Net):Ne.Net:={n with loads:=ZI9 n.loads,gens:=ZI9 n.gens}
def Zo6 {n:Ne.Net} (j:Zbb n):Zbb (ZFQ n):=⟨j.1,j.2.1,j.2.2.1,λx C=>j.2.2.2.1 x (XaR C),λx C=>j.2.2.2.2.1 x (XaR C),j.2.2.2.2.2⟩
def vL (o:List Txt) (j:Nat):TM:=[(1, .ptr 0 0 0),(5, .v (.l .s) o),(54,nt (o.length+1)),(55,nt j)]
def Zpr (n:Ne.Net) (U:Zbb n):PureOK prog Zaj 3 [.agg (ZbC n)] (λV=>V= .v .b true):=by
 refine Zad Zab func3 ?_;have hD:=ZEW;have R:=ZBR ZgI Zxf;rw[ZEQ]at R;have hE:PureOK prog Zaj 6 [.v (.l .s) [([68]:Txt)], .v (.l .s) [([68]:Txt)]] (λV=>V= .v .b true):=ZCN [[68]] [[68]] (by decide);have J:=ZBR (ZFQ n) (Zo6 U);have c1:(0:Int)<=(if(4:Int)<(n.loads.length:Int)then(4:Int)else(n.loads.length:Int))/\(if(4:Int)<(n.loads.length:Int)then(4:Int)else(n.loads.length:Int))<=((n.loads.length:Nat):Int):=by split<;>omega
 have c2:(0:Int)<=(if(4:Int)<(n.gens.length:Int)then(4:Int)else(n.gens.length:Int))/\(if(4:Int)<(n.gens.length:Int)then(4:Int)else(n.gens.length:Int))<=((n.gens.length:Nat):Int):=by split<;>omega
 refine axT ?_;refine ZBv rfl rfl rfl (opv (λ_=>rfl) rfl rfl ?_);refine ZBv rfl rfl rfl (opv (λ_=>rfl) rfl rfl ?_);refine ZER rfl rfl rfl (opc (λ_=>rfl) c2 rfl rfl ?_);refine axK ?_;refine Znr [.cell (ZbC (ZFQ n)) true] rfl ?_;refine axT ?_;refine ZaX rfl rfl rfl axE ?_;refine Zr5 rfl rfl rfl rfl rfl rfl ?_;refine⟨Xao rfl, ?_⟩;refine hE.mono ?_;rintro _ rfl;refine Zaa rfl rfl ?_;refine axT ?_;have C:=Zo6 U;have aa:(ZFQ n).loads.length<=4:=by show(n.loads.take _).length<=4;rw[Xay];split<;>omega
 generalize ZFQ n=m at*;cases hp:ZpX m with|none=>rw[hp]at J;refine Zac rfl (J.mono ?_);rintro _ ⟨e,he,rfl⟩;refine Zaa rfl rfl ?_;have h1:decide (e=0)=false:=decide_eq_false he;refine axT ?_;rfl|some o=>rw[hp]at J;obtain⟨k1,k2,k3,k4⟩:=ZC0 hp;refine Zac rfl (J.mono ?_);rintro _ rfl;refine Zaa rfl rfl ?_;have w0:IntKind.i64.wrap ((o.length:Int)+1)=((o.length+1:Nat):Int):=Zbd (by omega);refine axT ?_;refine ZnC Zab rfl (vL o) (λ_=> [.cell (ZbC m) true]) (o.length+1) (λj hj h1=> ?_) (Zbk [0] rfl ⟨rfl,trivial⟩ ⟨rfl,rfl,congrArg (λx=>some (SV.v (.i .i64) x)) w0,rfl,trivial⟩) (λh1=> ?_);have I:j<=o.length:=Nat.le_of_lt_succ hj;obtain⟨A,F,hF,hS⟩:=ZDa m C (o.take j) (k1.take j) (k4 j I);have hR:=ZzP m C (o.take j) (k1.take j) (by rw[Xay];omega) (k4 j I);have c3:(0:Int)<=(j:Int)/\(j:Int)<=((o.length:Nat):Int):=(by omega);have ab:(!decide ((F.length:Int)=(m.brs.length:Int)))=false:=(by rw[hF,decide_eq_true rfl];rfl);have w1:=congrArg (λx=>some (SV.v (.i .i64) x)) (Zbd (k:=j) (by omega));refine axT ?_;refine ZBP rfl rfl (opv (λ_=>rfl) rfl rfl ?_);refine ZBP rfl rfl (opv (λ_=>rfl) rfl rfl ?_);refine axK ?_;refine axT ?_;refine nxt hj ?_;exact Zbk [0] rfl ⟨rfl,trivial⟩ ⟨rfl,rfl,rfl,w1,trivial⟩;have h2:decide ((o.length:Int)=(m.loads.length:Int))=true:=decide_eq_true (by omega);refine axT ?_;rw[h2];rfl
end
end Go.Proofs.YtplkkbcnilnfaaaGreatDoor
