/- The first one of a list that a function accepts; loads that a function refuses. -/
import Derived.Test.YtplkkbcnilnfaaaGreatDoorU5
set_option linter.all false
set_option maxHeartbeats 16000000
set_option maxRecDepth 100000
open Go.Proofs.Tryz
namespace Go.Proofs.YtplkkbcnilnfaaaGreatDoor
open Go.Am Go.Tx Ne
def Wf (hp:List SM):Prop:= ∀m∈hp,∀id∈Zes m,id<hp.length
def Zxm {α:Type} {l r:List α} {j:Nat} (h:j<l.length):nth (l++r) j=nth l j:=by rw[ZaK,ZaK,Xam h]
def Wf.add {hp:List SM} {m:SM} (h:Wf hp) (hm:Zes m=[]):Wf (hp++ [m]):=λx hx id hid=>by rw[Xas];rcases XaJ.1 hx with hx|hx;have:=h x hx id hid;omega;rw[Xat.1 hx,hm]at hid;exact absurd hid Xav
def Wf.set {hp:List SM} {m:SM} {i:Nat} (h:Wf hp) (hm:Zes m=[]):Wf (hp.set i m):=λx hx id hid=>by rw[XaB];rcases Xa4 hx with hx|hx;exact h x hx id hid;rw[hx,hm]at hid;exact absurd hid Xav
def ZwF {F:FuncId} {p n:Nat} (h:p<n): ∀id∈ZdI (.func F [] [.ptr p 0 0]),id<n:=λid hid=>by
 have e:id=p:=by simpa[ZdI,rchL]using hid
 rw[e];exact h
def ZnE {α:Type} (P:α->Bool):List α->Nat->Int
 | [],_=> -1
 |x::r,i=>bif P x then i else ZnE P r (i+1)
def ZsX {α:Type} {P:α->Bool}: ∀ {l:List α} {i:Nat},decide (ZnE P l i≥0)=l.any P
 | [],_=>rfl
 |x::r,i=>by rw[ZnE,List.any_cons];cases P x with|true=>exact decide_eq_true (XaH i)|false=>exact ZsX
def Zoy {α:Type} {P:α->Bool}: ∀ {l:List α} {i:Nat},(∀x∈l,P x=false)->ZnE P l i= -1
 | [],_,_=>rfl
 |x::r,i,h=>by rw[ZnE,h x Xai,cond_false];exact Zoy λy j=>h y (Xaj _ j)
def ZmZ {α:Type} {P:α->Bool}: ∀ {l:List α} {i:Nat},(ZnE P l i= -1/\ ∀x∈l,P x=false)\/ ∃j,ZnE P l i=((i+j:Nat):Int)/\j<l.length/\ ∀x∈l.take j,P x=false
 | [],_=> .inl ⟨rfl,λ_ h=>absurd h Xav⟩
 |x::r,i=>by rw[ZnE];cases J:P x with|true=>exact .inr ⟨0,rfl,Nat.succ_pos _,λ_ h=>absurd h Xav⟩|false=>rw[cond_false];rcases ZmZ (P:=P) (l:=r) (i:=i+1)with⟨C,I⟩|⟨j,C,I,R⟩;refine .inl ⟨C,λy hy=> ?_⟩;rcases Xau.1 hy with rfl|hy;exact J;exact I y hy;refine .inr ⟨j+1,by rw[C];omega,Nat.succ_lt_succ I,λy hy=> ?_⟩;rcases Xau.1 hy with rfl|hy;exact J;exact R y hy
def ZrN {α:Type} {P:α->Bool}: ∀ {l:List α} {i j:Nat},ZnE P l i=((i+j:Nat):Int)->(I:j<l.length)->P l[j]=true
 |x::r,i,0,h,_=>by rw[ZnE]at h;cases C:P x with|true=>exact C|false=>rw[C,cond_false]at h;rcases ZmZ (P:=P) (l:=r) (i:=i+1)with⟨J,_⟩|⟨k,J,_⟩<;>rw[h]at J<;>omega
 |x::r,i,j+1,h,I=>by rw[ZnE]at h;cases C:P x with|true=>rw[C,cond_true]at h;omega|false=>rw[C,cond_false]at h;exact ZrN (i:=i+1) (j:=j) (by rw[h];omega) (Nat.lt_of_succ_lt_succ I)
abbrev eCT (q:Bool):CT:=match q with
 |true=>dCT
 |false=> .s
def ixF (q:Bool):FuncId:=match q with
 |true=>50
 |false=>31
def eV:(q:Bool)->(eCT q).D->SV
 |true=>λx=> .agg [.v .s x.1, .v .s x.2.1, .v IC x.2.2]
 |false=>λx=> .v .s x
def Ans (q:Bool) (F:FuncId) (p:Nat) (P:(eCT q).D->Bool) (hp:List SM) (x:(eCT q).D):Prop:=OpenOK prog Zaj F [eV q x, .ptr p 0 0] hp (λV hp'=>V= .v .b (P x)/\ ∃ex,hp'=hp++ex/\Wf hp')
def ZCG (hp:List SM) (p:Nat) (on:List Txt) (x:Lo) (j:on.length<=1000) (hw:Wf hp) (hp1:nth hp p=some (.cell [.v (.l .s) on] true)):Ans true 34 p (λx=> !ZdF x.1 on) hp x:=by refine ZbH (fn:=Tryz.f34) (code:=bodyOf Tryz.f34) Zab (by kernel_rfl) func34 (by kernel_rfl) (Xao (by kernel_rfl)) ?_;intro base;have C:nth (hp++ [SM.cell [.v .s x.1, .v .s x.2.1, .v IC x.2.2] true]) p=some (.cell [.v (.l .s) on] true):=Zef hp1;have I:nth (hp++ [SM.cell [.v .s x.1, .v .s x.2.1, .v IC x.2.2] true]) hp.length=some (.cell [.v .s x.1, .v .s x.2.1, .v IC x.2.2] true):=ZdR;have J:=ZdG (bb:=true) on x.1 j;refine auG ?_;refine ZpR ?_;refine Zac rfl (ZaZ rfl rfl C rfl rfl ?_);refine Zaa rfl rfl ?_;refine ZfJ ?_;refine Zac rfl (ZaZ rfl rfl I rfl rfl ?_);refine Zaa rfl rfl ?_;refine auN ?_;exact⟨rfl,_,rfl,hw.add rfl⟩
def ZAu (hp:List SM) (p:Nat) (s:Txt) (x:Lo) (hw:Wf hp) (hp1:nth hp p=some (.cell [.v .s s] true)):Ans true 29 p (λx=>x.1==s) hp x:=by refine ZbH (fn:=Tryz.f29) (code:=bodyOf Tryz.f29) Zab (by kernel_rfl) func29 (by kernel_rfl) (Xao (by kernel_rfl)) ?_;intro base;have j:nth (hp++ [SM.cell [.v .s x.1, .v .s x.2.1, .v IC x.2.2] true]) p=some (.cell [.v .s s] true):=Zef hp1;have C:nth (hp++ [SM.cell [.v .s x.1, .v .s x.2.1, .v IC x.2.2] true]) hp.length=some (.cell [.v .s x.1, .v .s x.2.1, .v IC x.2.2] true):=ZdR;refine auG ?_;refine auH ?_;refine Zac rfl (ZaZ rfl rfl C rfl rfl ?_);refine Zaa rfl rfl ?_;refine Zac rfl (ZaZ rfl rfl j rfl rfl ?_);refine Zaa rfl rfl ?_;refine auN ?_;exact⟨rfl,_,rfl,hw.add rfl⟩
def ZIf (q own:Bool) (F:FuncId) (p id:Nat) (P:(eCT q).D->Bool) (l:List (eCT q).D) (hl:l.length<=1000) (hp:List SM) (hw:Wf hp) (hid:own=true->nth hp id=some (.row (eCT q) l true)) (C:p<hp.length) (ho:Zaj.opn F=true) (hF: ∀x∈l,Ans q F p P hp x):
 OpenOK prog Zaj (ixF q) [match own with|true=> .ref id 0 l.length none|false=> .v (.l (eCT q)) l, .func F [] [.ptr p 0 0]] hp (λV hp'=>V= .v IC (ZnE P l 0)/\ ∃ex,hp'=hp++ex/\Wf hp'):=by
 have I:own=true->id<hp.length:=λh=>Zje (hid h);cases q
 all_goals
  cases own
  all_goals
   first
   |refine ZbH (fn:=Tryz.f50) (code:=bodyOf Tryz.f50) Zab (by kernel_rfl) func50 (by kernel_rfl) (Xao (by kernel_rfl)) ?_
   |refine ZbH (fn:=Tryz.f31) (code:=bodyOf Tryz.f31) Zab (by kernel_rfl) func31 (by kernel_rfl) (Xao (by kernel_rfl)) ?_
   intro base
   refine axT ?_
   first
   |refine Zap Zab rfl (λ(i:Nat)=> [(0, .v (.l (eCT _)) l),(1, .func F [] [.ptr p 0 0]),(7,nt l.length),(8,nt i)]) (λ_=>hp) (λi=>i<=l.length/\ZnE P l 0=ZnE P (l.drop i) i) (λi=>l.length-i) ?_ 0 ⟨Xap _,rfl⟩ (Zae ⟨rfl,rfl,rfl,rfl,trivial⟩)
   |refine Zap Zab rfl (λ(i:Nat)=> [(0, .ref id 0 l.length none),(1, .func F [] [.ptr p 0 0]),(7,nt l.length),(8,nt i)]) (λ_=>hp) (λi=>i<=l.length/\ZnE P l 0=ZnE P (l.drop i) i) (λi=>l.length-i) ?_ 0 ⟨Xap _,rfl⟩ (Zae ⟨rfl,rfl,rfl,rfl,trivial⟩)
   rintro i ⟨hi,he⟩
   cases U:decide ((i:Int)<(l.length:Int))with
   |false=>
    have e:i=l.length:=by have:=of_decide_eq_false U;omega
    refine axT ?_
    exact⟨congrArg (λx=>SV.v (.i .i64) x) (by rw[he,e,Xbt];rfl),[],(XaN _).symm,hw⟩
   |true=>
    have j:i<l.length:=by have:=of_decide_eq_true U;omega
    have gx:l[(i:Int).toNat]? =some l[i]:=by rw[Xac];exact Xad j
    have gy:l[0+(i:Int).toNat]? =some l[i]:=by rw[Xac,Xak];exact Xad j
    have hr:=hid
    have J:ZnE P (l.drop i) i=bif P l[i]then(i:Int)else ZnE P (l.drop (i+1)) (i+1):=by rw[XaL j,ZnE]
    have hX:=hF _ (XaI j)
    obtain⟨x,ex⟩: ∃x,l[i]=x:=⟨_,rfl⟩
    rw[ex]at gx gy J hX
    try replace hr:=hr rfl
    refine axT ?_
    refine Zac rfl (ZDo rfl rfl rfl rfl ho (hX.mono ?_))
    rintro _ hp' ⟨rfl,ex,rfl,R⟩
    refine Zaa rfl rfl ?_
    cases h2:P x with
    |true=>
     rw[h2]at J
     refine axT ?_
     refine Za2 ?_
     repeat (first|refine ZaL ?_|refine ZaN ?_|refine ZaE ?_)
     exact⟨congrArg (λx=>SV.v (.i .i64) x) (he.trans J).symm,ex,rfl,R⟩
    |false=>
     rw[h2]at J
     refine axT ?_
     refine⟨i+1,⟨j,he.trans J⟩,by show l.length-(i+1)<l.length-i;omega, ?_⟩
     first
     |exact ZcL (Xag _) ⟨rfl,ZaJ,rfl,ZwF C,rfl,ZaJ,congrArg (λx=>some (SV.v (.i .i64) x)) (Zbd (by omega)),ZaJ,trivial⟩ hw
     |exact ZcL (Xag _) ⟨rfl,ZaQ (I rfl),rfl,ZwF C,rfl,ZaJ,congrArg (λx=>some (SV.v (.i .i64) x)) (Zbd (by omega)),ZaJ,trivial⟩ hw
def ZIA (F:FuncId) (p:Nat) (P:Lo->Bool) (l:List Lo) (C:l.length<=1000) (hp:List SM) (hw:Wf hp) (j:p<hp.length) (I:Zaj.opn F=true) (J: ∀x∈l,Ans true F p P hp x):
 OpenOK prog Zaj 28 [.v (.l dCT) l, .func F [] [.ptr p 0 0]] hp (λV hp'=>V= .v .b (l.any P)/\ ∃ex,hp'=hp++ex/\Wf hp'):=by refine ZbH (fn:=Tryz.f28) (code:=bodyOf Tryz.f28) Zab (by kernel_rfl) func28 (by kernel_rfl) (Xao (by kernel_rfl)) ?_;intro base;have R:=ZIf true false F p 0 P l C hp hw (λh=>nomatch h) j I J;refine axT ?_;refine Zac rfl (R.mono ?_);rintro _ hp' ⟨rfl,hE⟩;refine Zaa rfl rfl ?_;refine axT ?_;exact⟨congrArg (SV.v .b) ZsX,hE⟩
def ZjW {α:Type} {P:α->Bool} {l:List α} {j:Nat} {x:α} (h:l[j]? =some x):(l.take (j+1)).filter P=(l.take j).filter P++bif P x then[x]else[]:=by rw[Zey h,List.filter_append,List.filter_cons,List.filter_nil];cases P x<;>rfl
def vDl (id p n i j:Nat) (F:FuncId):TM:=[(0, .ref id 0 n none),(1, .func F [] [.ptr p 0 0]),(5,nt i),(6,nt j)]
def ZIs (F:FuncId) (p id:Nat) (P:Lo->Bool) (l:List Lo) (hl:l.length<=1000) (hp:List SM) (hw:Wf hp) (hid:nth hp id=some (.row dCT l true)) (I:p<hp.length) (al:p≠id) (ho:Zaj.opn F=true)
 (hF: ∀x hq,Wf hq->hp.length<=hq.length->nth hq p=nth hp p->Ans true F p P hq x):
 OpenOK prog Zaj 33 [.ref id 0 l.length none, .func F [] [.ptr p 0 0]] hp (λV hp'=> ∃m mm l' ex,V= .ref id 0 m mm/\hp'=hp.set id (.row dCT l' true)++ex/\sub l' 0 m=l.filter (λx=> !P x)/\m<=l'.length/\Wf hp'):=by
 refine ZbH (fn:=Tryz.f33) (code:=bodyOf Tryz.f33) Zab (by kernel_rfl) func33 (by kernel_rfl) (Xao (by kernel_rfl)) ?_;intro base;have C:=Zje hid;have hI:=ZIf true true F p id P l hl hp hw (λ_=>hid) I ho (λx _=>hF x hp hw (Xag _) rfl);have aa:hp.set id (.row dCT l true)=hp:=Ztx hid;refine axT ?_;refine Zac rfl (hI.mono ?_);rintro _ hp' ⟨rfl,ex,rfl,an⟩;refine Zaa rfl rfl ?_;rcases ZmZ (P:=P) (l:=l) (i:=0)with⟨e,J⟩|⟨j,e,hj,J⟩;·rw[e];refine axT ?_;refine Za2 ?_;(repeat (first|refine ZaL ?_|refine ZaN ?_|refine ZaE ?_));refine⟨_,_,l,ex,rfl,by rw[aa], ?_,Xag _,an⟩;rw[ZaM rfl,List.filter_eq_self.2 λx hx=>by rw[J x hx];rfl]
 ·rw[e,Xak];have h0:decide ((j:Int)= -1)=false:=decide_eq_false (by omega);have w0:=congrArg (λx=>some (SV.v (.i .i64) x)) (Zbd (k:=j) (by omega));refine axT ?_;refine Zap Zab rfl (λ(s:Nat×Nat×List Lo)=>vDl id p l.length s.1 s.2.1 F) (λs=>hp.set id (.row dCT s.2.2 true)) (λs=>s.2.1<=l.length/\s.1<s.2.1/\s.2.2.length=l.length/\s.2.2.take s.1=(l.take s.2.1).filter (λx=> !P x)/\s.2.2.drop s.2.1=l.drop s.2.1) (λs=>l.length-s.2.1) ?_ (j,j+1,l) ⟨hj,XaS j,rfl, ?_,rfl⟩ ?_;case refine_2=>
   show l.take j=(l.take (j+1)).filter _
   have hx:P l[j]=true:=by
    rcases ZmZ (P:=P) (l:=l) (i:=0)with⟨e',_⟩|_;rw[e]at e';omega;exact ZrN e hj
   rw[ZjW (Xad hj),hx,Bool.not_true,cond_false,XaN,List.filter_eq_self.2 λx hx=>by rw[J x hx];rfl]
  case refine_3=>
   show Ent _ _ _ _ (hp.set id (.row dCT l true))
   rw[aa]
   exact ZcL (Xag _) ⟨rfl,ZaQ C,rfl,ZwF I,rfl,ZaJ,w0,ZaJ,trivial⟩ hw
  rintro⟨i,j,L⟩ ⟨ao,ad,ae,U,af⟩;simp only at ao ad ae U af;have hr:nth (hp.set id (.row dCT L true)) id=some (.row dCT L true):=Zsq hid;have ah:Wf (hp.set id (.row dCT L true)):=hw.set rfl;have hlen:(hp.set id (.row dCT L true)).length=hp.length:=XaB;cases h1:decide ((j:Int)<(l.length:Int))with
  |false=>have ej:j=l.length:=(by have:=of_decide_eq_false h1;omega);have c1:(0:Int)<=(i:Int)/\(i:Int)<=(l.length:Int):=(by omega);have c2:0+(i:Int).toNat+(l.length-(i:Int).toNat)<=L.length:=(by omega);refine axT ?_;refine Zac rfl (ZqW rfl rfl rfl rfl hr rfl rfl c1 ?_);refine Zaa rfl rfl ?_;refine Zac rfl (ZAJ rfl rfl rfl rfl rfl rfl rfl hr c2 ?_);refine Zal rfl ?_;rw[List.set_set];obtain⟨L',ai⟩: ∃L',spl L (0+(i:Int).toNat) (List.replicate (l.length-(i:Int).toNat) dCT.z)=L':=⟨_,rfl⟩;have aq:nth (hp.set id (.row dCT L' true)) id=some (.row dCT L' true):=Zsq hid;have ab:L'.take i=L.take i:=(by rw[<-ai,spl,Xac,Xak,XbT (by rw[Xay];omega),List.take_take,Nat.min_self]);have aj:i<=L'.length:=(by have:=congrArg List.length ab;rw[Xay,Xay]at this;omega);rw[ai];refine axT ?_;refine Zac rfl (ZDm rfl rfl rfl rfl aq rfl rfl c1 ?_);refine Zaa rfl rfl ?_;refine axT ?_;refine⟨_,_,L',[],rfl,(XaN _).symm, ?_, ?_,hw.set rfl⟩;rw[Xac,Nat.sub_zero,sub,XaV,ab,U,ej,Xa3];rw[Xac,Nat.sub_zero];exact aj
  |true=>
   have ag:j<l.length:=(by have:=of_decide_eq_true h1;omega);have g0:l[j]? =some l[j]:=Xad ag;have gx:L[0+(j:Int).toNat]? =some l[j]:=(by rw[Xac,Xak,<-g0];have:=congrArg (λz=>z[0]?) af;simpa using this);obtain⟨x,ex⟩: ∃x,l[j]=x:=⟨_,rfl⟩;rw[ex]at gx g0;have hn:=ZjW (P:=λx=> !P x) g0;have ar:Wf (hp.set id (.row dCT L true)++ [.cell [.v .s x.1, .v .s x.2.1, .v IC x.2.2] true]):=ah.add rfl;have hX:=hF x (hp.set id (.row dCT L true)++ [.cell [.v .s x.1, .v .s x.2.1, .v IC x.2.2] true]) ar (by rw[Xas,hlen];omega) (by rw[Zxm (by rw[hlen];exact I),ZaK,ZaK,XaD (λe=>al e.symm)]);have ak:L.drop (j+1)=l.drop (j+1):=(by rw[<-Xbm,<-Xbm,af]);have h5:nth (hp.set id (.row dCT L true)++ [SM.cell (tys 51).zero true]) (hp.set id (SM.row dCT L true)).length=some (.cell (tys 51).zero true):=ZdR;have h6:nth (hp.set id (.row dCT L true)++ [SM.cell [.v .s x.1, .v .s x.2.1, .v IC x.2.2] true]) (hp.set id (SM.row dCT L true)).length=some (.cell [.v .s x.1, .v .s x.2.1, .v IC x.2.2] true):=ZdR;refine axT ?_;refine ZcW (hp':=hp.set id (.row dCT L true)++ [SM.cell [.v .s x.1, .v .s x.2.1, .v IC x.2.2] true]) (by rw[List.set_append_right _ _ (Xag _),XbI];rfl) ?_;refine axT ?_;refine Zac rfl (ZDo rfl rfl rfl rfl ho (hX.mono ?_));rintro _ hq ⟨rfl,R,rfl,au⟩;refine Zaa rfl rfl ?_;have w1:=congrArg (λx=>some (SV.v (.i .i64) x)) (Zbd (k:=j) (by omega));have w2:=congrArg (λx=>some (SV.v (.i .i64) x)) (Zbd (k:=i) (by omega));cases h2:P x with
   |true=>rw[h2]at hn;refine axT ?_;refine⟨(i,j+1,L),⟨ag,Nat.lt_succ_of_lt ad,ae,by rw[hn,U];exact(XaN _).symm,ak⟩,by show l.length-(j+1)<l.length-j;omega, ?_⟩;rw[Xa2];exact ZcL (by rw[hlen];exact Xag _) ⟨rfl,ZaQ (by rw[hlen];exact C),rfl,ZwF (by rw[hlen];exact I),rfl,ZaJ,w1,ZaJ,trivial⟩ ah
   |false=>
    rw[h2]at hn;have aj:i<l.length:=(by omega);have h7:nth (hp.set id (.row dCT L true)++ [SM.cell [.v .s x.1, .v .s x.2.1, .v IC x.2.2] true]++R) (hp.set id (SM.row dCT L true)).length=some (.cell [.v .s x.1, .v .s x.2.1, .v IC x.2.2] true):=Zef ZdR;have h8:nth (hp.set id (.row dCT L true)++ [SM.cell [.v .s x.1, .v .s x.2.1, .v IC x.2.2] true]++R) id=some (.row dCT L true):=Zef (Zef hr);have gi:L[0+(i:Int).toNat]? =some (L[i]'(by omega)):=(by rw[Xac,Xak];exact Xad (by omega));refine axT ?_;have eh: ∀m,(hp.set id (.row dCT L true)++ [SM.cell [.v .s x.1, .v .s x.2.1, .v IC x.2.2] true]++R).set id m=hp.set id m++([SM.cell [.v .s x.1, .v .s x.2.1, .v IC x.2.2] true]++R):=λm=>by rw[Xa2,List.set_append_left _ _ (by rw[hlen];exact C),List.set_set]
    have el:L.set (0+(i:Int).toNat) x=L.set i x:=(by rw[Xac,Xak]);refine⟨(i+1,j+1,L.set i x),⟨ag,Nat.succ_lt_succ ad,by rw[XaB];exact ae, ?_, ?_⟩,by show l.length-(j+1)<l.length-j;omega, ?_⟩;show(L.set i x).take (i+1)=_;rw[hn,<-U,Zey (x:=x) (XaE (by omega)),XbO (Xag _)];rfl;show(L.set i x).drop (j+1)=_;rw[XbU (by omega),ak];refine Ent.eqs ((eh _).trans (congrArg (λz=>hp.set id (SM.row dCT z true)++([SM.cell [.v .s x.1, .v .s x.2.1, .v IC x.2.2] true]++R)) el)) ?_;exact ZcL (by rw[XaB];exact Xag _) ⟨rfl,ZaQ (by rw[XaB];exact C),rfl,ZwF (by rw[XaB];exact I),w2,ZaJ,w1,ZaJ,trivial⟩ (hw.set rfl)
def gt (T:List (List Bool)) (i k:Nat):Bool:=(T.getD i []).getD k false
def ZBo (T:List (List Bool)) (i k:Nat) (v:Bool):List (List Bool):=T.set i ((T.getD i []).set k v)
def Sq (n:Nat) (T:List (List Bool)):Prop:=T.length=n/\ ∀r∈T,r.length=n
def Sq.row {n:Nat} {T:List (List Bool)} (h:Sq n T) {i:Nat} (hi:i<n): ∃r,T[i]? =some r/\T.getD i []=r/\r.length=n:=by
 have j:i<T.length:=by rw[h.1];exact hi
 refine⟨T[i],Xad j, ?_,h.2 _ (XaI j)⟩;rw[Xan,Xad j];rfl
def Sq.set {n:Nat} {T:List (List Bool)} (h:Sq n T) {i:Nat} (hi:i<n) (k:Nat) (v:Bool):Sq n (ZBo T i k v):=by obtain⟨r,J,C,I⟩:=h.row hi;refine⟨by rw[ZBo,XaB,h.1], ?_⟩;intro x j;rcases Xa4 j with j|rfl;exact h.2 x j;rw[C,XaB,I]
def Zqm (n i:Nat):List Bool:=(List.replicate n false).set i true
def Zmt (used:Nat->Bool):Nat->List (Nat×Nat)->List (List Bool)->List (List Bool)
 |_,[],T=>T
 |k,x::r,T=>Zmt used (k+1) r (if used k=true then ZBo (ZBo T x.1 x.2 true) x.2 x.1 true else T)
def wK (m i:Nat):Nat->Nat->List (List Bool)->List (List Bool)
 |0,_,T=>T
 |c+1,k,T=>wK m i c (k+1) (ZBo T i k (gt T i k||(gt T i m&&gt T m k)))
def wI (n m:Nat):Nat->Nat->List (List Bool)->List (List Bool)
 |0,_,T=>T
 |c+1,i,T=>wI n m c (i+1) (wK m i n 0 T)
def wM (n:Nat):Nat->Nat->List (List Bool)->List (List Bool)
 |0,_,T=>T
 |c+1,m,T=>wM n c (m+1) (wI n m n 0 T)
def ZCt {n m i:Nat} (hi:i<n): ∀ (c k:Nat) {T:List (List Bool)},Sq n T->Sq n (wK m i c k T)
 |0,_,_,h=>h
 |c+1,k,_,h=>ZCt hi c (k+1) (h.set hi k _)
def ZGB {n m:Nat}: ∀ (c i:Nat) {T:List (List Bool)},i+c<=n->Sq n T->Sq n (wI n m c i T)
 |0,_,_,_,h=>h
 |c+1,i,_,j,h=>ZGB c (i+1) (by omega) (ZCt (by omega) n 0 h)
def Zcx (used:Nat->Bool) (n:Nat) (l:List (Nat×Nat)):List (List Bool):=wM n n 0 (Zmt used 0 l ((List.range n).map (Zqm n)))
def Zsm {used:Nat->Bool} {n:Nat}: ∀ {l:List (Nat×Nat)} (k:Nat) {T:List (List Bool)},okL n l->Sq n T->Sq n (Zmt used k l T)
 | [],_,_,_,h=>h
 |x::r,k,T,j,h=>by rw[Zmt];have C:=j x Xai;refine Zsm (k+1) (λy I=>j y (Xaj _ I)) ?_;split;exact(h.set C.1 _ _).set C.2 _ _;exact h
def ZoM (n:Nat):Sq n ((List.range n).map (Zqm n)):=by refine⟨by simp, ?_⟩;intro r j;obtain⟨i,_,rfl⟩:=XaU.1 j;simp[Zqm]
def atF (T:List (List Bool)) (acc:List Nat) (i:Nat):Nat->Nat->Int->Int
 |0,_,a=>a
 |c+1,k,a=>atF T acc i c (k+1) (if(gt T i k&&decide (a<0))=true then(acc.getD k 0:Nat)else a)
def ZEx (T:List (List Bool)):Nat->Nat->Nat->List Nat->List Nat
 |0,_,_,acc=>acc
 |c+1,i,many,acc=>if atF T acc i i 0 (-1)<0 then ZEx T c (i+1) (many+1) (acc++ [many])else ZEx T c (i+1) many (acc++ [(atF T acc i i 0 (-1)).toNat])
def Zh1 (T:List (List Bool)) (n:Nat):List Nat:=ZEx T n 0 0 []
def Adj (use:Nat->Bool) (l:List (Nat×Nat)) (u v:Nat):Prop:= ∃k x,l[k]? =some x/\use k=true/\((x.1=u/\x.2=v)\/(x.2=u/\x.1=v))
inductive Rch (use:Nat->Bool) (l:List (Nat×Nat)):Nat->Nat->Prop
 |refl (v:Nat):Rch use l v v
 |step {u v w:Nat}:Rch use l u v->Adj use l v w->Rch use l u w
section
variable {use:Nat->Bool} {l:List (Nat × Nat)} {n:Nat}
def Adj.symm {u v:Nat} (h:Adj use l u v):Adj use l v u:=by obtain⟨k,x,j,C,I⟩:=h;exact⟨k,x,j,C,I.elim (λh=> .inr ⟨h.2,h.1⟩) (λh=> .inl ⟨h.2,h.1⟩)⟩
def Adj.lt (j:okL n l) {u v:Nat} (h:Adj use l u v):u<n/\v<n:=by obtain⟨k,x,C,J,I⟩:=h;have:=j x (XaF C);rcases I with⟨rfl,rfl⟩|⟨rfl,rfl⟩;exact this;exact⟨this.2,this.1⟩
def Rch.trans {u v w:Nat} (h:Rch use l u v) (j:Rch use l v w):Rch use l u w:=by induction j with|refl=>exact h|step _ C I=>exact I.step C
def Rch.symm {u v:Nat} (h:Rch use l u v):Rch use l v u:=by induction h with|refl=>exact .refl _|step _ j C=>exact(Rch.refl _|>.step j.symm).trans C
def ZwE {T:List (List Bool)} (hT:Sq n T) {i k i' k':Nat} (v:Bool) (hi:i<n) (R:k<n):gt (ZBo T i k v) i' k'=if i=i'/\k=k' then v else gt T i' k':=by
 obtain⟨r,U,I,h3⟩:=hT.row hi;have J:i<T.length:=by rw[hT.1];exact hi
 unfold gt ZBo;rw[I];by_cases j:i=i';subst j;have:(T.set i (r.set k v)).getD i []=r.set k v:=by rw[Xan,XaE J];rfl
 rw[this,I];by_cases C:k=k';subst C;rw[if_pos ⟨rfl,rfl⟩,Xan,XaE (by omega)];rfl;rw[if_neg (λh=>C h.2),Xan,XaD C,<-Xan];rw[if_neg (λh=>j h.1)];have:(T.set i (r.set k v)).getD i' []=T.getD i' []:=by rw[Xan,XaD j,<-Xan]
 rw[this]
def ZFW {m i:Nat} (hm:m<n) (hi:i<n): ∀ (c k:Nat) {T:List (List Bool)},Sq n T->k+c=n-> ∀i' k',k'<n->gt (wK m i c k T) i' k'=if i=i'/\k<=k' then gt T i k'||(gt T i m&&gt T m k')else gt T i' k'
 |0,k,T,hT,J,i',k',j=>by rw[wK,if_neg (by omega)]
 |c+1,k,T,hT,J,i',k',j=>by have C:k<n:=(by omega);rw[wK,ZFW hm hi c (k+1) (hT.set hi k _) (by omega) i' k' j];have g:=λa b=>ZwE (i':=a) (k':=b) hT (gt T i k||(gt T i m&&gt T m k)) hi C;have I:gt (ZBo T i k (gt T i k||(gt T i m&&gt T m k))) i m=gt T i m:=(by rw[g];split;rename_i h;rw[h.2];cases gt T i m<;>cases gt T m m<;>rfl;rfl);by_cases R:i=i';subst R;by_cases U:k+1<=k';rw[if_pos ⟨rfl,U⟩,if_pos ⟨rfl,by omega⟩,I,g,g,if_neg (by omega),if_neg (by omega)];rw[if_neg (by omega),g];by_cases h3:k=k';subst h3;rw[if_pos ⟨rfl,rfl⟩,if_pos ⟨rfl,by omega⟩];rw[if_neg (by omega),if_neg (by omega)];rw[if_neg (by omega),g,if_neg (by omega),if_neg (by omega)]
def ZFV {m:Nat} (hm:m<n): ∀ (c i:Nat) {T:List (List Bool)},Sq n T->i+c=n-> ∀i' k',i'<n->k'<n->gt (wI n m c i T) i' k'=if i<=i' then gt T i' k'||(gt T i' m&&gt T m k')else gt T i' k'
 |0,i,T,hT,hc,i',k',I,j=>by rw[wI,if_neg (by omega)]
 |c+1,i,T,hT,hc,i',k',I,j=>by have J:i<n:=(by omega);have g:=λa b hb=>ZFW (T:=T) hm J n 0 hT (by omega) a b hb;rw[wI,ZFV hm c (i+1) (ZCt J n 0 hT) (by omega) i' k' I j,g _ _ j,g _ _ hm,g _ _ j];simp only[Xap,and_true];by_cases R:i=i';subst R;rw[if_neg (by omega),if_pos rfl,if_pos (Xag i)];simp only[R,if_false];by_cases U:i+1<=i';have C:i<=i':=(by omega);simp only[U,C,if_true];by_cases h2:i=m;subst h2;simp only[if_true];cases gt T i' k'<;>cases gt T i' i<;>cases gt T i k'<;>cases gt T i i<;>rfl;simp only[h2,if_false];have C: ¬i<=i':=(by omega);simp only[U,C,if_false]
def ZgF (n m:Nat) (T:List (List Bool)):Prop:= ∀j,j<m-> ∀i k,i<n->k<n->gt T i j=true->gt T j k=true->gt T i k=true
def ZxP (P:Nat->Nat->Prop) (aa: ∀a b c,P a b->P b c->P a c): ∀ (c m:Nat) {T:List (List Bool)},Sq n T->m+c=n->ZgF n m T->(∀i k,i<n->k<n->gt T i k=true->P i k)->
 (∀i k,i<n->k<n->gt T i k=true->gt (wM n c m T) i k=true)/\ZgF n n (wM n c m T)/\ ∀i k,i<n->k<n->gt (wM n c m T) i k=true->P i k
 |0,m,T,hT,hc,C,hP=>by have:m=n:=(by omega);subst this;exact⟨λi k _ _ h=>h,C,hP⟩
 |c+1,m,T,hT,hc,C,hP=>by have I:m<n:=(by omega);have g:=λa b ha hb=>ZFV (T:=T) I n 0 hT (by omega) a b ha hb;simp only[Xap,if_true]at g;have af:=ZGB (m:=m) n 0 (by omega) hT;have ab:ZgF n (m+1) (wI n m n 0 T):=(by intro j hj i k hi J U h2;have ad:j<n:=(by omega);rw[g _ _ hi ad]at U;rw[g _ _ ad J]at h2;rw[g _ _ hi J];simp only[Xb2,Xah]at U h2|-;by_cases ag:j=m;subst ag;right;exact⟨U.elim id And.left,h2.elim id And.right⟩;have R:j<m:=(by omega);rcases U with U|⟨U,ah⟩<;>rcases h2 with h2|⟨h2,ae⟩;exact .inl (C j R i k hi J U h2);exact .inr ⟨C j R i m hi I U h2,ae⟩;exact .inr ⟨U,C j R m k I J ah h2⟩;exact .inr ⟨U,ae⟩);obtain⟨r1,r2,r3⟩:=ZxP P aa c (m+1) af (by omega) ab (by intro i k hi J h;rw[g _ _ hi J]at h;simp only[Xb2,Xah]at h;exact h.elim (hP i k hi J) λh=>aa _ _ _ (hP _ _ hi I h.1) (hP _ _ I J h.2));rw[wM];refine⟨λi k hi J h=>r1 i k hi J ?_,r2,r3⟩;rw[g _ _ hi J,h];rfl
def ZiH (P:Nat->Nat->Prop): ∀ (r:List (Nat×Nat)) (k:Nat) {T:List (List Bool)},okL n r->Sq n T->(∀i j,i<n->j<n->gt T i j=true->P i j)->(∀j x,r[j]? =some x->use (k+j)=true->P x.1 x.2/\P x.2 x.1)->
 (∀i j,i<n->j<n->gt T i j=true->gt (Zmt use k r T) i j=true)/\(∀i j,i<n->j<n->gt (Zmt use k r T) i j=true->P i j)/\
 ∀j x,r[j]? =some x->use (k+j)=true->gt (Zmt use k r T) x.1 x.2=true/\gt (Zmt use k r T) x.2 x.1=true
 | [],k,T,_,hT,hP,_=>⟨λ_ _ _ _ h=>h,hP,λj x h=>by simp at h⟩
 |x::r,k,T,ho,hT,hP,hr=>by
  have C:=ho x Xai;have R:okL n r:=λy hy=>ho y (Xaj _ hy);have U: ∀j y,r[j]? =some y->use (k+1+j)=true->P y.1 y.2/\P y.2 y.1:=λj y I J=>hr (j+1) y (by simpa using I) (by rw[show k+(j+1)=k+1+j by omega];exact J)
  rw[Zmt];by_cases hu:use k=true;rw[if_pos hu];have aa:=hT.set C.1 x.2 true;have ad:=aa.set C.2 x.1 true;have g1:=λa b=>ZwE (i':=a) (k':=b) hT true C.1 C.2;have g2:=λa b=>ZwE (i':=a) (k':=b) aa true C.2 C.1;have ab:=hr 0 x rfl hu;obtain⟨s1,s2,s3⟩:=ZiH P r (k+1) R ad (by intro i j hi hj h;rw[g2,g1]at h;split at h;rename_i e;rw[<-e.1,<-e.2];exact ab.2;split at h;rename_i e;rw[<-e.1,<-e.2];exact ab.1;exact hP i j hi hj h) U;refine⟨λi j hi hj h=>s1 i j hi hj ?_,s2, ?_⟩;rw[g2,g1];split;rfl;split;rfl;exact h;intro j y I J;cases j with
    |zero=>
     simp only[XbC,Xaf]at I;subst I
     exact⟨s1 _ _ C.1 C.2 (by rw[g2,g1];split;· rfl
                              rw[if_pos ⟨rfl,rfl⟩]),s1 _ _ C.2 C.1 (by rw[g2,if_pos ⟨rfl,rfl⟩])⟩
    |succ j=>exact s3 j y (by simpa using I) (by rw[show k+1+j=k+(j+1)by omega];exact J)
  rw[if_neg hu];obtain⟨s1,s2,s3⟩:=ZiH P r (k+1) R hT hP U;refine⟨s1,s2, ?_⟩;intro j y I J;cases j with|zero=>exact absurd J hu|succ j=>exact s3 j y (by simpa using I) (by rw[show k+1+j=k+(j+1)by omega];exact J)
def Zn9 {i k:Nat} (hi:i<n):gt ((List.range n).map (Zqm n)) i k=true<->i=k:=by
 have e:((List.range n).map (Zqm n)).getD i []=Zqm n i:=by rw[Xan,XaC,Xbf hi];rfl
 unfold gt;rw[e,Zqm,Xan];by_cases h:i=k;subst h;rw[XaE (by simpa using hi)];simp;rw[XaD h];simp only[Xbn,h,iff_false];split<;>simp
def ZeG (R:okL n l) {i k:Nat} (hi:i<n) (hk:k<n):gt (Zcx use n l) i k=true<->Rch use l i k:=by
 obtain⟨s1,s2,s3⟩:=ZiH (use:=use) (Rch use l) l 0 R (ZoM n) (λi j hi _ h=>by rw[(Zn9 hi).1 h];exact .refl _) (λj x U h2=>by have I:Adj use l x.1 x.2:=⟨j,x,U,by simpa using h2, .inl ⟨rfl,rfl⟩⟩;exact⟨(Rch.refl _).step I,(Rch.refl _).step I.symm⟩);obtain⟨r1,r2,r3⟩:=ZxP (Rch use l) (λ_ _ _=>Rch.trans) n 0 (Zsm (used:=use) 0 R (ZoM n)) (by omega) (λj hj=>by omega) s2;refine⟨r3 i k hi hk,λh=> ?_⟩;have: ∀ {u v},Rch use l u v->u<n->v<n->gt (Zcx use n l) u v=true:=by intro u v h;induction h with|refl=>intro J _;exact r1 _ _ J J (s1 _ _ J J ((Zn9 J).2 rfl))|step h I ih=>rename_i v w;intro hu hw;have C:=I.lt R;refine r2 v C.1 _ w hu hw (ih hu C.1) ?_;obtain⟨j,x,U,h2,h3⟩:=I;have h4:=s3 j x U (by simpa using h2);rcases h3 with⟨rfl,rfl⟩|⟨rfl,rfl⟩;exact r1 _ _ C.1 C.2 h4.1;exact r1 _ _ C.1 C.2 h4.2
 exact this h hi hk
end
end Go.Proofs.YtplkkbcnilnfaaaGreatDoor
