/- lin.Inverse. -/
import Derived.Test.YtpdhpbldangmbaaGreatDoorV3
set_option linter.all false
set_option maxHeartbeats 16000000
set_option maxRecDepth 100000
open Go.Proofs.Tryz
open Go.IntKind(i64)
namespace Go.Proofs.YtpdhpbldangmbaaGreatDoor
open Go.Am Go.Tx Dv Go.Lib La
def xsI (n W:Nat) (g:Mx) (i:Nat):List (List qct.D):=(List.range n).map λa=>if a<i then Za7 W (g a)else[]
def Zk2 {n W i:Nat} {g:Mx}:(xsI n W g i).length=n:=by rw[xsI,Xar,XaX]
def ZtI {n W i a:Nat} {g:Mx} (j:a<n):(xsI n W g i)[a]? =some (if a<i then Za7 W (g a)else[]):=by rw[xsI,XaD,Xa9 j];rfl
def ZBr {n W:Nat} {g:Mx}:xsI n W g 0=List.replicate n []:=by apply XaR;intro a;by_cases j:a<n;rw[ZtI j,XaZ,if_pos j,if_neg (XaS a)];rw[Xat (by rw[Zk2];omega),Xat (by rw[XaE];omega)]
def ZBq {n W:Nat} {g:Mx}:xsI n W g n=ZbR n W g:=Xbr λa j=>by rw[if_pos (XbI.1 j)]
def ZGI {n W i:Nat} {g:Mx} (hi:i<n):(xsI n W g i).set i (Za7 W (g i))=xsI n W g (i+1):=by apply XaR;intro a;by_cases j:a<n;rw[ZtI j];by_cases e:i=a;subst e;rw[XaN (by rw[Zk2];exact j),if_pos (XaA i)];rw[XaL e,ZtI j];grind;rw[Xat (by rw[Xap,Zk2];omega),Xat (by rw[Zk2];omega)]
def ZDn {n i:Nat} {f:Mx} (hi:i<n):(Za7 n (f i)++List.replicate n (ZbE 0)).set (n+i) (ZbE 1)=Za7 (n+n) (ZgB n f i):=by apply XaR;intro a;have hl:(Za7 n (f i)).length=n:=Za1;by_cases C:a<n+n;rw[ZbP C,ZgB];by_cases j:a<n;rw[XaL oM,Xan (by rw[hl];exact j),ZbP j,if_pos j];grind;rw[Xat (by rw[Xap,Xal,hl,XaE];omega),Xat (by rw[Za1];omega)]
abbrev mtI (xs:List (List qct.D)):List SM:= .many (.l qct) (Zax 1 xs) true::([]++(ZaP qct xs++ []))
theorem ZCf {xs:List (List qct.D)} {i:Nat} (hi:i<xs.length) (he:xs[i]=[]):(ZaP qct xs).set i (.row qct [] true)=ZaP qct xs:=by grind [ZfU,List.set_getElem_self]
def ZCp {tm tm':TM} {xs:List (List qct.D)} {i i' n L e j:Nat} {ex:List SM} {y:List qct.D} (C:i<xs.length) (R:xs[i]=[]) (I:xs.length=n) (U:i'=i) (hx:ex[e]? =some (.row qct y true)) (hL:L=1+n+e) (hN:j=y.length) (J:ZEG 1 tm tm'):
 Ent 0 tm (.many (.l qct) ((Zax 1 xs).set i' (.ref L 0 j none)) true::([]++(ZaP qct xs++ex))) tm' (mtI (xs.set i y)):=by have h:=ZA6 (i':=i') (n':=j) (L:=L) (d:= .row qct [] true) U hN rfl C (by rw[hL,I];simp) hx (Xak _) (λ_ h=>absurd h Xaq) J;grind [ZCf]
def vIA (n:Nat) (f:Mx) (i:Nat):TM:=[(0, .v (.l (.l qct)) (ZbR n n f)),(4,nt n),(5, .ref 0 0 n none),(15,nt n),(16,nt i)]
def ZME (n:Nat) (f:Mx) (hn:n<=40):LoopOK prog Zai 0 ⟨86,0,66⟩ (ZaN Tryz.f86 4) (vIA n f 0) (mtI (xsI n (n+n) (ZgB n f) 0))
 (λe tm hp=>e= .exit 0/\Ent 0 tm hp [(4,nt n),(5, .ref 0 0 n none)] (mtI (ZbR n (n+n) (ZgB n f)))):=by
 refine Zaq Zaa rfl (vIA n f) (λi=>mtI (xsI n (n+n) (ZgB n f) i)) (λi=>i<=n) (λi=>n-i) ?_ 0 (Xak _) Zaj;intro i hi;cases h1:decide ((i:Int)<(n:Int))with
 |false=>have he:i=n:=fO h1;subst he;refine axT ?_;exact⟨rfl,Ent.eqs (by rw[ZBq]) (eK)⟩
 |true=>
  have J:i<n:=tO h1;have gm:(ZbR n n f)[(i:Int).toNat]? =some (Za7 n (f i)):=(by rw[Xab];exact Zkz J);have R:(Za7 n (f i)).length=n:=Za1;have I:=ZGI (W:=n+n) (g:=ZgB n f) J;have C:(xsI n (n+n) (ZgB n f) i).length=n:=Zk2;have ab:i<(xsI n (n+n) (ZgB n f) i).length:=(by rw[C];exact J);have ad:(xsI n (n+n) (ZgB n f) i)[i]=[]:=(by have:=ZtI (W:=n+n) (g:=ZgB n f) (i:=i) J;rw[if_neg (XbO i),Xac ab]at this;exact Xbp this);have aa:=ZDn (f:=f) J;have hZ:=Zr6 n oM;have hW:=Zn9 1 dC dC;generalize ag:Za7 n (f i)=row;obtain⟨xs,U⟩: ∃x,xsI n (n+n) (ZgB n f) i=x:=⟨_,rfl⟩;rw[ag]at gm R aa;rw[<-aa]at I;have I:xs.set i ((row++List.replicate n (ZbE 0)).set (n+i) (ZbE 1))=xsI n (n+n) (ZgB n f) (i+1):=(by rw[<-U];exact I);have C:xs.length=n:=(by rw[<-U];exact C);have ab:i<xs.length:=(by rw[C];exact J);have ad:xs[i]=[]:=(by subst U;exact ad);show wp _ _ _ _ _ _ _ (mtI (xsI n (n+n) (ZgB n f) i)) _;rw[U];have ak:(Zax 1 xs).length=n:=(by rw[Zaw,C]);have e0:0+(i:Int).toNat=i:=(by rw[Xab,Xag]);have al:0+(i:Int).toNat<(Zax 1 xs).length:=(by rw[e0,ak];exact J);cases row with
  |nil=>exact absurd R (by show ¬0=n;omega)
  |cons y r=>
   have ah:r.length+1=n:=R;generalize ae:y::r=R1;generalize af:List.replicate n (ZbE 0)=R2;have l1:R1.length=n:=(by rw[<-ae];exact R);have l2:R2.length=n:=(by rw[<-af,XaE]);have zA:(r.length+1)*64<=140737488355328:=oM;have zB:(r.length+1+n)*64<=140737488355328:=oM;have p1:mtI xs++ [SM.row qct R1 true]= .many (.l qct) (Zax 1 xs) true::([]++(ZaP qct xs++ [.row qct R1 true])):=ZoO;have p2:(SM.many (.l qct) (Zax 1 xs) true::([]++(ZaP qct xs++ [SM.row qct R1 true])))++ [SM.row qct R2 true]= .many (.l qct) (Zax 1 xs) true::([]++(ZaP qct xs++ [.row qct R1 true, .row qct R2 true])):=ZoO;have L0:(mtI xs).length=n+1:=(by rw[Znj,C];simp;omega);have L1:(SM.many (.l qct) (Zax 1 xs) true::([]++(ZaP qct xs++ [SM.row qct R1 true]))).length+0=n+2:=(by rw[Znj,C];simp;omega);have L2:(SM.many (.l qct) (Zax 1 xs) true::([]++(ZaP qct xs++ [SM.row qct R1 true, .row qct R2 true]))).length=n+3:=(by rw[Znj,C];simp;omega);rw[af]at hZ I;rw[ae]at I;have an:nth (SM.many (.l qct) (Zax 1 xs) true::([]++(ZaP qct xs++ [SM.row qct R1 true, .row qct R2 true]))) (mtI xs).length=some (.row qct R1 true):=(by rw[L0,ZuU (j:=0) (by rw[C];simp;omega)];rfl);have ao:nth (SM.many (.l qct) (Zax 1 xs) true::([]++(ZaP qct xs++ [SM.row qct R1 true, .row qct R2 true]))) ((SM.many (.l qct) (Zax 1 xs) true::([]++(ZaP qct xs++ [SM.row qct R1 true]))).length+0)=some (.row qct R2 true):=(by rw[L1,ZuU (j:=1) (by rw[C];simp;omega)];rfl);have p3:(SM.many (.l qct) (Zax 1 xs) true::([]++(ZaP qct xs++ [SM.row qct R1 true, .row qct R2 true]))).set (mtI xs).length .dead++ [SM.row qct (R1++R2) true]= .many (.l qct) (Zax 1 xs) true::([]++(ZaP qct xs++ [.dead, .row qct R2 true, .row qct (R1++R2) true])):=(by rw[L0,ZzK (j:=0) (by rw[C];simp;omega),ZoO];rfl);have p4: ∀a b,a=n+3->b=n+n->(SM.many (.l qct) ((Zax 1 xs).set (0+(i:Int).toNat) (.ref a 0 b none)) true::([]++(ZaP qct xs++ [SM.dead, .row qct R2 true, .row qct (R1++R2) true])))= .many (.l qct) ((Zax 1 xs).set (0+(i:Int).toNat) (.ref (n+3) 0 (n+n) none)) true::([]++(ZaP qct xs++ [SM.dead, .row qct R2 true, .row qct (R1++R2) true])):=λa b ha hb=>by rw[ha,hb]
   have aq:((Zax 1 xs).set (0+(i:Int).toNat) (.ref (n+3) 0 (n+n) none))[0+(i:Int).toNat]? =some (SV.ref (n+3) 0 (n+n) none):=XaN al;have ar:nth (SM.many (.l qct) ((Zax 1 xs).set (0+(i:Int).toNat) (.ref (n+3) 0 (n+n) none)) true::([]++(ZaP qct xs++ [SM.dead, .row qct R2 true, .row qct (R1++R2) true]))) (n+3)=some (.row qct (R1++R2) true):=(by rw[ZuU (j:=2) (by rw[C];simp;omega)];rfl);have ai:i64.wrap ((n:Int)+(i:Int))=((n+i:Nat):Int):=(by rw[Zap oM oM];omega);have au:0<=i64.wrap ((n:Int)+(i:Int))/\i64.wrap ((n:Int)+(i:Int))<((n+n:Nat):Int):=(by rw[ai];omega);have aj:0+(i64.wrap ((n:Int)+(i:Int))).toNat=n+i:=(by rw[ai,Xab,Xag]);have gy:(R1++R2)[0+(i64.wrap ((n:Int)+(i:Int))).toNat]? =some (ZbE 0):=(by rw[aj,Xaw (by rw[l1];omega),l1,<-af,XaZ,if_pos oM]);have p5:(SM.many (.l qct) ((Zax 1 xs).set (0+(i:Int).toNat) (.ref (n+3) 0 (n+n) none)) true::([]++(ZaP qct xs++ [SM.dead, .row qct R2 true, .row qct (R1++R2) true]))).set (n+3) (.row qct ((R1++R2).set (0+(i64.wrap ((n:Int)+(i:Int))).toNat) (ZbE 1)) true)= .many (.l qct) ((Zax 1 xs).set (0+(i:Int).toNat) (.ref (n+3) 0 (n+n) none)) true::([]++(ZaP qct xs++ [SM.dead, .row qct R2 true, .row qct ((R1++R2).set (n+i) (ZbE 1)) true])):=(by rw[ZzK (j:=2) (by rw[C];simp;omega),aj];rfl);have w1:=cI (ZbA (k:=i) oM);refine auG ?_;refine brT h1 ?_;refine auG ?_;refine auH ?_;refine Zag rfl (Xaa zA ?_);refine Zaf rfl rfl ?_;refine Zgb (hp':= .many (.l qct) (Zax 1 xs) true::([]++(ZaP qct xs++ [.row qct R1 true]))) (by rw[<-p1,<-ae]) ?_;refine Zl9 ?_;refine Zag rfl (hZ.mono ?_);rintro _ _ _ ⟨rfl,rfl,rfl⟩;refine axT ?_;refine Zgb (hp':= .many (.l qct) (Zax 1 xs) true::([]++(ZaP qct xs++ [.row qct R1 true, .row qct R2 true]))) (by rw[<-p2];rfl) ?_;refine Zag rfl (ZBX rfl rfl rfl rfl rfl rfl rfl rfl rfl an ao (ah.trans l1.symm) l2.symm oM zB ?_);refine axT ?_;refine Zgb (hp':=_) p3 ?_;refine axT ?_;refine Zgb (hp':=_) (p4 _ _ L2 oM) ?_;refine axT ?_;refine⟨i+1,J,XaJ J (XaA i), ?_⟩;show Ent 0 _ _ _ (mtI (xsI n (n+n) (ZgB n f) (i+1)));rw[<-I];refine Ent.eqs p5 ?_;exact ZCp (e:=2) (y:=(R1++R2).set (n+i) (ZbE 1)) ab ad C e0 rfl oM (by rw[Xap,Xal,l1,l2]) ⟨rfl,rfl,rfl,rfl,rfl,rfl,rfl,rfl,w1,rfl,trivial⟩
def Zo9 (n i:Nat):List SV:=(List.range n).map λa=>if a<i then .ref (a+1) n n none else .ref (a+1) 0 (n+n) none
def ZgP {n i:Nat}:(Zo9 n i).length=n:=by rw[Zo9,Xar,XaX]
def Zov {n i a:Nat} (j:a<n):(Zo9 n i)[a]? =some (if a<i then SV.ref (a+1) n n none else .ref (a+1) 0 (n+n) none):=by rw[Zo9,XaD,Xa9 j];rfl
def ZqS {n:Nat} {N:Mx}:Zax 1 (ZbR n (n+n) N)=Zo9 n 0:=by apply XaR;intro a;by_cases j:a<n;rw[Zov j,ZbF (by rw[ZaG];exact j),if_neg (XaS a),ZcB,Za1];rw[Xat (by rw[Zaw,ZaG];omega),Xat (by rw[ZgP];omega)]
def ZBo {n i:Nat} (hi:i<n):(Zo9 n i).set i (.ref (i+1) n n none)=Zo9 n (i+1):=by apply XaR;intro a;by_cases j:a<n;rw[Zov j];by_cases e:i=a;subst e;rw[XaN (by rw[ZgP];exact j),if_pos (XaA i)];rw[XaL e,Zov j];by_cases h:a<i;rw[if_pos h,if_pos (by omega)];rw[if_neg h,if_neg (by omega)];rw[Xat (by rw[Xap,ZgP];omega),Xat (by rw[ZgP];omega)]
def hpC (n:Nat) (N:Mx) (i:Nat):List SM:= .many (.l qct) (Zo9 n i) true::ZaP qct (ZbR n (n+n) N)
def ZCD {n:Nat} {u:Nat->Rat}:sub (Za7 (n+n) u) n n=Za7 n λj=>u (n+j):=by apply XaR;intro a;rw[sub];by_cases C:a<n;rw[List.getElem?_take,if_pos C,List.getElem?_drop,ZbP (by omega),ZbP C];rw[Xat (by rw[Xaz];omega),Xat (by rw[Za1];omega)]
def vIC (n i:Nat):TM:=[(4,nt n),(7, .ref 0 0 n none),(51,nt n),(52,nt i)]
def ZMM (n:Nat) (N:Mx) (hn:n<=40):LoopOK prog Zai 0 ⟨86,0,66⟩ (ZaN Tryz.f86 13) (vIC n 0) (hpC n N 0)
 (λe tm hp=>e= .exit 2/\Ent 0 tm hp [(7, .ref 0 0 n none)] (hpC n N n)):=by
 refine Zfi Zaa rfl (vIC n) (hpC n N) n (λi j U=> ?_) Zaj;have ci:=cin j;have J:0+(i:Int).toNat=i:=by rw[Xab,Xag]
 have C:(Zo9 n i)[0+(i:Int).toNat]? =some (.ref (i+1) 0 (n+n) none):=by rw[J,Zov j,if_neg (XbO i)]
 have R:0+(i:Int).toNat<(Zo9 n i).length:=by rw[J,ZgP];exact j
 have I:nth (hpC n N i) (i+1)=some (.row qct (Za7 (n+n) (N i)) true):=by rw[ZaA,hpC,XaV,Zb3 (by rw[ZaG];exact j),ZcB]
 have hs:(0:Int)<=(n:Int)/\(n:Int)<=((n+n:Nat):Int):=by omega
 have p1:(hpC n N i).set 0 (.many (.l qct) ((Zo9 n i).set (0+(i:Int).toNat) (.ref (i+1) (0+(n:Int).toNat) (n+n-(n:Int).toNat) none)) true)=hpC n N (i+1):=by rw[J,Xab,Xag,Nat.add_sub_cancel,ZBo j];rfl
 refine auG ?_;refine brT U ?_;refine auG ?_;refine auH ?_;refine Zag rfl (ZaQ rfl rfl rfl rfl rfl rfl rfl ci ?_);refine Zaf rfl rfl ?_;refine Zag rfl (Za0 rfl rfl rfl C rfl ?_);refine Zaf rfl rfl ?_;refine Zl9 ?_;refine Zag rfl (ZGd rfl rfl rfl rfl I rfl rfl hs ?_);refine Zaf rfl rfl ?_;refine Zag rfl (ZaQ rfl rfl rfl rfl rfl rfl rfl ci ?_);refine Zaf rfl rfl ?_;refine Zag rfl (Zgl rfl rfl rfl rfl rfl rfl rfl R ?_);refine Zat rfl ?_;refine Zg0 ?_;refine auG ?_;refine nxt j ?_;exact Ent.eqs p1 (eK)
def ZKc (n:Nat) (f:Mx) (V:SV):Prop:= ∃N p,Elm n (n+n) (ZgB n f) n p N/\
 ((p.length<n/\V= .tup [.nils, .v .b false])\/(n<=p.length/\V= .tup [.v (.l (.l qct)) (ZbR n n λi j=>N i (n+j)), .v .b true]))
def ZFA {n m:Nat} {N:Mx} {k:List SV->Prop} (C:k ((ZbR n n λi j=>N i (n+j)).map λx=>SV.v (.l qct) x)):Zdj (ZbS (hpC n N n) (m+2)) (Zo9 n n) k:=by
 have h: ∀ (d a:Nat) (k:List SV->Prop),a+d=n->k (((List.range' a d).map λi=>Za7 n λj=>N i (n+j)).map λx=>SV.v (.l qct) x)->Zdj (ZbS (hpC n N n) (m+2)) ((List.range' a d).map λa=>SV.ref (a+1) n n none) k:=by intro d;induction d with|zero=>intro a k _ C;exact C|succ d R=>intro a k J C;rw[List.range'_succ,Xbm];rw[List.range'_succ,Xbm,Xbm]at C;have I:nth (hpC n N n) (a+1)=some (.row qct (Za7 (n+n) (N a)) true):=(by rw[ZaA,hpC,XaV,Zb3 (by rw[ZaG];omega),ZcB]);refine ZbV I (by rw[Za1];omega) ?_;rw[ZCD];exact R (a+1) _ (by omega) C
 have U:Zo9 n n=(List.range' 0 n).map λa=>SV.ref (a+1) n n none:=by rw[Zo9,List.range_eq_range'];exact Xbr λa J=>by rw[if_pos (by have:=List.mem_range'_1.1 J;omega)]
 rw[U];refine h n 0 k (by omega) ?_;rw[<-List.range_eq_range'];exact C
def ZKN {n m:Nat} {N:Mx} {k:SV->Prop} (C:k (.v (.l (.l qct)) (ZbR n n λi j=>N i (n+j)))):ZbS (hpC n N n) (m+3) (.ref 0 0 n none) k:=by have hl:(Zo9 n n).length=n:=ZgP;simp only[ZbS,hpC,nth];refine⟨oM, ?_⟩;rw[show sub (Zo9 n n) 0 n=Zo9 n n by rw[sub,XaP,Xax oM]];refine ZFA ?_;rw[Zgz];exact C
abbrev cxI:Cx:=⟨86,0,66⟩
def ZIf (n K:Nat) (f:Mx) (hn:n<=40) (hK:K<=50000000) (hs: ∀k p N,k<=n+n->Elm n (n+n) (ZgB n f) k p N-> ∀i j,i<n->j<n+n->szQ (N i j) K):
 PureOK prog Zai 86 [.v (.l (.l qct)) (ZbR n n f)] (ZKc n f):=by
 refine Zb8 (code:=bodyOf Tryz.f86) Zaa kR rfl func86 kR (Xam kR) ?_;let⟨Q,U⟩: ∃Q:SV->Prop,ZKc n f=Q:=⟨_,rfl⟩
 rw[U];show CodeOK prog Zai 0 cxI (bodyOf Tryz.f86) [(0, .v (.l (.l qct)) (ZbR n n f))] [] (ZjR tys Tryz.f86.results.toList λV hp=>ZbS hp 40 V Q);have C:(ZbR n n f).length=n:=ZaG;have hR:=ZC5 n (n+n) n K (ZgB n f) oM oM oM oM hK hs;have ad:(0:Int)<=((ZbR n n f).length:Int)/\((ZbR n n f).length:Int)<=((ZbR n n f).length:Int)/\(24:Int)*((ZbR n n f).length:Int)<=281474976710656/\((ZbR n n f).length:Int)<9223372036854775808:=by rw[C];omega
 refine Zac (Zad Zaa ?_);refine auG ?_;refine Zac (Zad Zaa ?_);refine auG ?_;refine Zac (Zad Zaa ?_);refine axT ?_;refine Zac (Zac (Zad Zaa ?_));refine auG ?_;refine Zao rfl (ZaH ?_);refine((ZME n f hn).ent ?_).mono ?_;rw[ZBr];have hlen:(((ZbR n n f).length:Nat):Int).toNat=n:=by rw[Xab,C]
 refine Ent.eqs ?_ (ZCs rfl (Xak _) ⟨rfl,rfl,cI (congrArg Int.ofNat C),rfl,congrArg (λx=>some (SV.ref 0 0 x none)) hlen,rfl,cI (congrArg Int.ofNat C),rfl,rfl,rfl,trivial⟩);show[SM.many (.l qct) (List.replicate (((ZbR n n f).length:Nat):Int).toNat .nils) true]=_;rw[hlen];rintro _ tm hp ⟨rfl,hE⟩;refine CodeOK.ent ?_ hE;refine Zac (Zad Zaa ?_);refine auH ?_;refine Zag rfl (Zfq rfl rfl rfl rfl rfl (Zyh rfl ZaG.symm (Zmd (n:=38) (hR.mono ?_))));rintro _ _ _ ⟨N,p,hE,rfl,rfl,rfl⟩;refine axT ?_;have I:(hpM n (n+n) N [pvR p]).length=n+1+1:=Zcm;refine CodeOK.ent (tm':=[(4,nt n),(7, .ref 0 0 n none),(8, .ref (n+1) 0 p.length none)]) (hp':=hpM n (n+n) N [pvR p]) ?_ (ZED Zdc.symm ⟨rfl,ZaO,rfl,ZaF (by rw[I];omega),rfl,ZaF (by rw[I];omega),trivial⟩ λj m hm=>ZnZ (λm hm=>by rw[Xav.1 hm];rfl) m (XaC hm));cases h1:decide ((p.length:Int)<(n:Int))with|true=>refine Zac (Zac (Zad Zaa ?_));refine auG ?_;refine Zad Zaa ?_;refine axT ?_;(repeat (first|refine ZaK ?_|refine ZaJ ?_|refine Zay ?_));have hQ:Q (.tup [.nils, .v .b false]):=(by rw[<-U];exact⟨N,p,hE, .inl ⟨by have:=dT h1;omega,rfl⟩⟩);exact hQ|false=>have J:n<=p.length:=fO h1;have hQ:Q (.tup [.v (.l (.l qct)) (ZbR n n λi j=>N i (n+j)), .v .b true]):=(by rw[<-U];exact⟨N,p,hE, .inr ⟨J,rfl⟩⟩);refine Zac (Zac (Zad Zaa ?_));refine auG ?_;refine Zad Zaa ?_;refine axT ?_;refine Zac (Zac (Zad Zaa ?_));refine auG ?_;refine Zao rfl (ZaH ?_);refine((ZMM n N hn).ent ?_).mono ?_;have e2:hpM n (n+n) N [pvR p]=hpC n N 0++ [pvR p]:=(by rw[hpC,<-ZqS (N:=N)];rfl);have R:(hpC n N 0).length=n+1:=(by rw[hpC,Xao,Zal,ZaG]);refine Ent.eqs e2 (Zz3 (λm hm id hid=> ?_) ⟨rfl,ZaO,rfl,ZaF (by rw[R];omega),rfl,ZaO,rfl,ZaO,trivial⟩);rw[R];rcases XaF.1 hm with rfl|hm;have hid:id∈rchL (Zo9 n 0):=hid;rw[<-ZqS (N:=N)]at hid;have:=ZcT hid;rw[ZaG]at this;omega;obtain⟨x,_,rfl⟩:=XaT.1 hm;exact absurd hid Xaq;rintro _ tm hp ⟨rfl,aa⟩;refine CodeOK.ent ?_ aa;refine Zac (Zad Zaa ?_);refine auG ?_;refine Zad Zaa ?_;refine axT ?_;have ab:ZbS (hpC n N n) (36+3) (.ref 0 0 n none) (λV=>Q (.tup [V, .v .b true])):=ZKN hQ;exact ab
open Ne
def Zen (s:Int):List Int->Nat->Int
 | [],_=> -1
 |k::r,i=>bif decide (s=k)then(i:Int)else Zen s r (i+1)
def ZCV (l:List Int) (s:Int) (hl:l.length<=1000):PureOK prog Zai 103 [.v (.l IC) l, .v IC s] (λV=>V= .v (.i .i64) (Zen s l 0)):=by refine Zae Zaa func103 ?_;refine axT ?_;refine Zaq Zaa rfl (λi=> [(0, .v (.l IC) l),(1, .v IC s),(7,nt l.length),(8,nt i)]) (λ_=> []) (λi=>i<=l.length/\Zen s l 0=Zen s (l.drop i) i) (λi=>l.length-i) ?_ 0 ⟨Xak _,rfl⟩ (eK);rintro i ⟨hi,he⟩;cases I:decide ((i:Int)<(l.length:Int))with|false=>have e:i=l.length:=fO I;refine axT ?_;exact congrArg (λx=>SV.v (.i .i64) x) (by rw[he,e,Xbo];rfl)|true=>have j:i<l.length:=tO I;have R:l[(i:Int).toNat]? =some l[i]:=(by rw[Xab];exact Xac j);have C:Zen s (l.drop i) i=bif decide (s=l[i])then(i:Int)else Zen s (l.drop (i+1)) (i+1):=(by rw[XaM j,Zen]);generalize ex:l[i]=x;rw[ex]at R C;refine axT ?_;cases J:decide (s=x)with|true=>rw[J]at C;refine axT ?_;(repeat (first|refine ZaK ?_|refine ZaJ ?_|refine Zay ?_));exact congrArg (λx=>SV.v (.i .i64) x) (he.trans C).symm|false=>rw[J]at C;refine axT ?_;refine⟨i+1,⟨j,he.trans C⟩,by show l.length-(i+1)<l.length-i;omega, ?_⟩;exact eK
abbrev mCT:CT:= .p (.p (.l IC) (.l IC)) (.p (.l IC) (.p (.l IC) (.p (.l qct) (.p (.l qct) (.p (.l IC) (.l (.l qct)))))))
def fL (n:Ne.Net) (k:Nat):List Int:=(List.range k).map λj=>((fBr n j:Nat):Int)
def tL (n:Ne.Net) (k:Nat):List Int:=(List.range k).map λj=>((tBr n j:Nat):Int)
def bL (n:Ne.Net) (k:Nat):List qct.D:=(List.range k).map λj=>ZbE (bBr n j)
def cL (n:Ne.Net) (k:Nat):List qct.D:=(List.range k).map λj=>ZbE (-sBr n j)
def frL (n:Ne.Net) (i:Nat):List Int:=((List.range i).filter λj=> !hdB n j).map Int.ofNat
def ZGG (n:Ne.Net) (inv:List (List qct.D)):mCT.D:=((Zb6 n,ZbD n),(fL n n.brs.length,(tL n n.brs.length,(bL n n.brs.length,(cL n n.brs.length,(frL n (Zab n),inv))))))
def Ztm (n:Ne.Net):frL n (Zab n)=(Zh1 n).map Int.ofNat:=rfl
def ZkA (x:Nat): ∀ (l:List Nat) (i:Nat),(x ∉ l->Zen x (l.map Int.ofNat) i= -1)/\ ∀a,l[a]? =some x->(∀b,b<a->l[b]?≠some x)->Zen x (l.map Int.ofNat) i=((i+a:Nat):Int)
 | [],i=>⟨λ_=>rfl,λa h=>by simp at h⟩
 |k::r,i=>by obtain⟨J,R⟩:=ZkA x r (i+1);rw[Xbm,Zen];by_cases e:x=k;subst e;rw[show decide ((x:Int)=Int.ofNat x)=true from decide_eq_true rfl,cond_true];refine⟨λh=>absurd Xah h,λa j C=> ?_⟩;(cases a with|zero=>rfl|succ a=>exact absurd rfl (C 0 (Nat.zero_lt_succ a)));rw[show decide ((x:Int)=Int.ofNat k)=false from decide_eq_false λh=>e (Int.ofNat.inj h),cond_false];refine⟨λh=>J λhm=>h (Xai _ hm),λa j C=> ?_⟩;cases a with|zero=>exact absurd (Xbp j).symm e|succ a=>rw[R a j λb I=>C (b+1) (Nat.succ_lt_succ I)];omega
def ZA4 {n:Ne.Net} {a:Nat} (C:a<nF n):Zen (frF n a:Nat) (frL n (Zab n)) 0=(a:Int):=by
 have h:=(ZkA (frF n a) (Zh1 n) 0).2 a (ZmZ C) λb I e=>by have j:=Nat.lt_trans I C;rw[ZmZ j]at e;have:=(ZfO n).inj b a j C (Xbp e);omega
 rw[Ztm,h,Xag]
def ZC1 {n:Ne.Net} {i:Nat} (hi:hdB n i=true):Zen (i:Nat) (frL n (Zab n)) 0= -1:=by simp_all [Ztm,ZkA,Zh1,List.mem_filter]
def Zho (n:Ne.Net):(frL n (Zab n)).length=nF n:=by rw[Ztm,Xar];rfl
def ZpP {n:Ne.Net} (hf:Fine n):nF n<=24:=XaK (ZAx n) (XaK (ZbL n).2 (ZaC hf).1)
def Zvx (n:Ne.Net) (hf:Fine n) (inv:List (List qct.D)) (x:Int):PureOK prog Zai 85 [.box mCT (ZGG n inv) 0, .v IC x] (λV=>V= .v IC (Zen x (frL n (Zab n)) 0)):=by refine Zae Zaa func85 ?_;have hI:=ZCV (frL n (Zab n)) x (by rw[Zho];have:=ZpP hf;omega);refine auG ?_;refine auG ?_;rfl
def Zu6 (n:Ne.Net) (inv:List (List qct.D)):PureOK prog Zai 38 [.box mCT (ZGG n inv) 0] (λV=>V=nt (Zab n)):=by refine Zae Zaa func38 ?_;refine auG ?_;refine auG ?_;exact congrArg (λz:Nat=>nt z) (ZcK n)
end Go.Proofs.YtpdhpbldangmbaaGreatDoor
namespace Go.Tx
open Go.Am
section
variable {P:Program} {h:Hints} {T:TypeId->TI} {F:Nat} {tm:TM} {hp:List SM} {φ:Ph}
def ZIR: ∀ {cs:List SV} {C:List PV} {j:Nat} {V:SV},RL φ cs C->cs[j]? =some V-> ∃q,C[j]? =some q/\RV φ V q
 | [],_,_,_,_,h=>by simp at h
 |W::cs,C,j,V,I,h=>by obtain⟨q,r,rfl,J,R⟩:=I;cases j with|zero=>cases h;exact⟨q,rfl,J⟩|succ j=>exact ZIR (j:=j) R h
def ZyB: ∀ {cs:List SV} {C:List PV} {j:Nat} {V:SV},RL φ cs C->(∀q,C[j]? =some q->RV φ V q)->RL φ (cs.set j V) C
 | [],_,_,_,I,_=>by rw[List.set_nil];exact I
 |W::cs,C,j,V,I,h=>by obtain⟨q,r,rfl,R,J⟩:=I;cases j with|zero=>rw[List.set_cons_zero];simp only[RL];exact⟨q,r,rfl,h q rfl,J⟩|succ j=>rw[List.set_cons_succ];simp only[RL];exact⟨q,r,rfl,R,ZyB J λq U=>h q U⟩
def Zib {c j cs b ct} (hF:F<=hp.length) (hc:hp[c]? =some (.cell cs b)) (hj:cs[j]? =some .nils):Ent F tm hp tm (hp.set c (.cell (cs.set j (.ref hp.length 0 0 none)) b)++ [.row ct [] true]):=by
 refine⟨λφ st ae hs=> ?_⟩;have hlen:=hs.hp.len;have af:=(Xaf.1 hc).1;have ext: ∀id,id<hp.length->(φ++ [none])[id]? =φ[id]? :=λid h=>Xan oM
 have le:Le φ (φ++ [none]):=λid o h=>by rw[Xan (Xaf.1 h).1];exact h
 have new:(φ++ [(none:Option Nat)])[hp.length]? =some none:=by rw[Xaw oM,hlen,Xbi];rfl
 have I:(hp.set c (.cell (cs.set j (.ref hp.length 0 0 none)) b)).length=hp.length:=Xap;have old: ∀ {id:Nat} {sm:SM},id<hp.length->(hp.set c (.cell (cs.set j (.ref hp.length 0 0 none)) b))[id]? =some sm->(id=c/\sm= .cell (cs.set j (.ref hp.length 0 0 none)) b)\/(id≠c/\hp[id]? =some sm):=λ{id sm} hid C=>by grind
 refine⟨φ++ [none],λid hid=>ext id oM,λi V hV=> ?_,by simp[hlen],λid sm o C ho=> ?_,λid aa sm U a ab R h2 h3 h4 h5 h6=> ?_⟩;let⟨q,R,h2⟩:=hs.tm _ _ hV
 grind [RV.mono];by_cases hid:id<hp.length;rw[Xan (by rw[I];exact hid)]at C;rw[ext id hid]at ho;rcases old hid C with⟨rfl,rfl⟩|⟨_,C⟩;have hr:=RM.mono le (λ_ _ _=>rfl) (hs.hp.row id _ o hc ho);simp only[RM]at hr|-;let⟨a,ad,m',e1,e2,e3,e4⟩:=hr
 refine⟨a,ad,m',e1,e2,ZyB e3 λq hq=> ?_,e4⟩;let⟨q',g1,g2⟩:=ZIR e3 hj
 rw[hq]at g1;cases g1;simp only[RV]at g2|-;exact .inr ⟨new,g2,trivial,trivial,rfl⟩;exact RM.mono le (λ_ _ _=>rfl) (hs.hp.row id sm o C ho);have J:=(Xaf.1 C).1;rw[Xal,I,List.length_singleton]at J;have e:id=hp.length:=oM;subst e;rw[Xaw (by rw[I];exact Xae _),I,Xbi]at C;cases C;rw[new]at ho;cases ho;rfl;have lt: ∀ {id:Nat} {sm:SM},live sm=true->(hp.set c (.cell (cs.set j (.ref hp.length 0 0 none)) b)++ [SM.row ct [] true])[id]? =some sm->(φ++ [none])[id]? =some (some a)->φ[id]? =some (some a)/\ ∃U,hp[id]? =some U/\live U=true:=by intro id sm hl R h5;have hid:id<hp.length:=(by rcases Xa8 id hp.length with h|h;exact h;have J:=(Xaf.1 R).1;rw[Xal,I,List.length_singleton]at J;have e:id=hp.length:=oM;subst e;rw[new]at h5;cases h5);rw[Xan (by rw[I];exact hid)]at R;rw[ext id hid]at h5;refine⟨h5, ?_⟩;rcases old hid R with⟨rfl,rfl⟩|⟨_,R⟩;exact⟨_,hc,rfl⟩;exact⟨_,R,hl⟩
 let⟨g1,m1,g2,g3⟩:=lt h3 R h5
 let⟨g4,m2,g5,g6⟩:=lt h4 h2 h6
 exact hs.hp.inj id aa m1 m2 a ab g2 g5 g3 g6 g1 g4
def ZaB {c a b k} j (C:List SM) (I:CodeOK P h F c a tm hp λe tm' hp'=>e= .normal/\Ent F tm' hp' j C) (J:CodeOK P h F c b j C k):CodeOK P h F c (.seq a b) tm hp k:=
 Zac (I.mono λe tm' hp' ⟨he,hE⟩=>by subst he;exact J.ent hE)
def Zcq {c b k} (ha:CodeOK P h F c b tm hp λe tm1 hp1=> ∃j C,Ent F tm1 hp1 j C/\k e j C):CodeOK P h F c b tm hp k:=
 ⟨λφ st R hs=>by(let⟨e,I,φ',tm',hp',h1,U,h3,j,C,h4,h5⟩:=ha.out φ st R hs);(let⟨J,g1,g2⟩:=h4.out φ' I (U.len R) h3);exact⟨e,I,J,j,C,h1,U.trans g1,g2,h5⟩⟩
def Zwi (hT:TysOK P T) {f fn Vs Q} (hf:P.funcs[f]? =some fn)
 (hw: ∀base,CodeOK P h hp.length ⟨f,base,fn.ntmps⟩ (bodyOf fn) (ZcQ 0 Vs) hp (ZjR T fn.results.toList Q))
 (j:h.ok f=true:=by kernel_rfl) (U:fn.body=some (bodyOf fn):=by kernel_rfl) (hn:Vs.length<=fn.ntmps:=by exact Xam (by kernel_rfl)):OpenOK P h f Vs hp Q:=by
 refine⟨λφ H qs C J=> ?_⟩;let⟨e,I,φ',tm',hp',h1,h2,R,h4⟩:=(hw H.length).out φ ⟨enterT 0 qs,H⟩ (by rw[C.len];exact Xae _) ⟨Zft J,C⟩
 let⟨v,V,h5,h6,h7⟩:=ZoY hT R h4
 refine⟨v,I.hp,φ',V,hp', ?_,h2.le (by rw[C.len];exact Xae _),R.hp,h6,h7⟩;refine ZuP j hf U (by rw[<-J.len];exact hn) ?_;grind
def ZkD {op:Op} {c:Call} {f:FuncId} {V W:SV} {k:SV->List SM->Prop} (ho:op= .call c) (j:c.callee= .value (.func f)) (C:evL tm c.args.toList=some [V,W]) (I:h.opn f=false) (J:h.imp f=false) (R:h.mem f=false) (he:ZbS hp 40 V λv=>ZbS hp 40 W λw=>PureOK P h f [v,w] λY=>match ZzN Y with|true=>k Y hp|false=>False):opT P h T op tm hp k:=by subst ho;simp[opT,Zhd,C,j,ZbY,I,J,R,ZDV,Zdj];exact he
def ZcD {x:SM}:nth (hp++ [x]) hp.length=some x:=by rw[ZaA,Xaw (Xae _),Xbi];rfl
def Zoe {x y:SM}:(hp++ [x]).set hp.length y=hp++ [y]:=by rw[List.set_append_right _ _ (Xae _),Xbi];rfl
end
def ZAl {ct:CT} (N:Nat) (l:List ct.D) (V:SV) (hp:List SM) (j:Bool):Prop:=V= .ref 0 0 N none/\hp=[.row ct l true]/\j=false
def ZlZ {ct:CT} {N:Nat} {l:List ct.D} {V:SV} {hp:List SM} (hE:Ent 0 (ZcQ 0 (Zer V)) hp [(0, .ref 0 0 N none)] [.row ct l true]) (j:(Zer V).length=1) (C:Zcd V=true):ZwP (ZAl N l) V hp:=
 ⟨.ref 0 0 N none,[.row ct l true],hE,⟨j,C,ZsQ⟩,rfl,rfl,rfl⟩
def ZB3 {F:Nat} {tm:TM} {hp:List SM} {i:Nat} {ct:CT} {l:List ct.D} {b:Bool} (h:hp[i]? =some (.row ct l b)):Ent F tm hp tm (hp.set i (.row ct l false)):=by
 have old: ∀ {id:Nat} {sm:SM},(hp.set i (.row ct l false))[id]? =some sm->(id=i/\sm= .row ct l false)\/hp[id]? =some sm:=λ{id sm} hsm=>by grind
 refine⟨λφ st _ j=>⟨φ,Fr.refl F φ,j.tm,by rw[Xap];exact j.hp.len,λid sm o hsm ho=> ?_,λid C sm U a I h1 h2 h3 h4 h5 h6=> ?_⟩⟩;rcases old hsm with⟨rfl,rfl⟩|hsm;have J:=j.hp.row id _ o h ho;cases o with|none=>simp[RM]at J|-;exact J|some a=>simp only[RM]at J|-;grind
 exact j.hp.row id sm o hsm ho;have R: ∀ {id:Nat} {sm:SM},live sm=true->(hp.set i (.row ct l false))[id]? =some sm-> ∃x,hp[id]? =some x/\live x=true:=λ{id sm} hl hsm=>by rcases old hsm with⟨rfl,rfl⟩|hsm;exact⟨_,h,rfl⟩;exact⟨_,hsm,hl⟩
 let⟨x,g1,g2⟩:=R h3 h1
 let⟨y,g3,g4⟩:=R h4 h2
 exact j.hp.inj id C x y a I g1 g3 g2 g4 h5 h6
def ZIS {hp:List SM} {n:Nat} {t:CT} {x:t.D} {r:Nat} {k:SV->Prop} (j:k (.box t x r)):ZbS hp (n+2) (.box t x r) k:=j
end Go.Tx
namespace Go.Proofs.YtpdhpbldangmbaaGreatDoor
open Go.Am Go.Tx Ne Dv Go.Lib La
def Zvs {n:Ne.Net} {k:Nat}:(fL n k).length=k:=by rw[fL,Xar,XaX]
def Zt0 {n:Ne.Net} {k:Nat}:(tL n k).length=k:=by rw[tL,Xar,XaX]
def Ztj {n:Ne.Net} {k:Nat}:(bL n k).length=k:=by rw[bL,Xar,XaX]
def Zm7 {n:Ne.Net} {k:Nat}:(cL n k).length=k:=by rw[cL,Xar,XaX]
def ZHm {n:Ne.Net} {m k:Nat} (h:k<m):(fL n m)[k]? =some ((fBr n k:Nat):Int):=by rw[fL,XaD,Xa9 h];rfl
def ZGZ {n:Ne.Net} {m k:Nat} (h:k<m):(tL n m)[k]? =some ((tBr n k:Nat):Int):=by rw[tL,XaD,Xa9 h];rfl
def ZJc {n:Ne.Net} {m k:Nat} (h:k<m):(bL n m)[k]? =some (ZbE (bBr n k)):=by rw[bL,XaD,Xa9 h];rfl
def ZIG {n:Ne.Net} {m k:Nat} (h:k<m):(cL n m)[k]? =some (ZbE (-sBr n k)):=by rw[cL,XaD,Xa9 h];rfl
def ZFt {n:Ne.Net} {k:Nat}:fL n (k+1)=fL n k++ [((fBr n k:Nat):Int)]:=by rw[fL,XbP,Xbb];rfl
def ZFG {n:Ne.Net} {k:Nat}:tL n (k+1)=tL n k++ [((tBr n k:Nat):Int)]:=by rw[tL,XbP,Xbb];rfl
def ZHj {n:Ne.Net} {k:Nat}:bL n (k+1)=bL n k++ [ZbE (bBr n k)]:=by rw[bL,XbP,Xbb];rfl
def ZGX {n:Ne.Net} {k:Nat}:cL n (k+1)=cL n k++ [ZbE (-sBr n k)]:=by rw[cL,XbP,Xbb];rfl
def ZB9 {n:Ne.Net} {i:Nat}:frL n (i+1)=frL n i++(if hdB n i=true then[]else[(i:Int)]):=by grind [frL,XbP,hdB]
def ZIo {n:Ne.Net}: ∀ {i:Nat},(frL n i).length<=i:=λ{i}=>by grind [List.length_filter_le,hdB,List.range,XaX,frL,Xar]
def mdL (n:Ne.Net) (b k j:Nat) (inv:SV):List SV:=[.v (.l IC) (Zb6 n), .v (.l IC) (ZbD n), .ref b 0 k none, .ref (b+1) 0 k none, .ref (b+2) 0 k none, .ref (b+3) 0 k none, .ref (b+4) 0 j none,inv]
def mdR (n:Ne.Net) (k j:Nat):List SM:=[.row IC (fL n k) true, .row IC (tL n k) true, .row qct (bL n k) true, .row qct (cL n k) true, .row IC (frL n j) true]
def hM0 (n:Ne.Net) (inv:SV):List SM:= .cell (mdL n 1 n.brs.length (nF n) inv) true::mdR n n.brs.length (Zab n)
def ZKm (n:Ne.Net) (inv:List (List qct.D)):mCT.D:=((Zb6 n,ZbD n),(sub (fL n n.brs.length) 0 n.brs.length,(sub (tL n n.brs.length) 0 n.brs.length,(sub (bL n n.brs.length) 0 n.brs.length,(sub (cL n n.brs.length) 0 n.brs.length,(sub (frL n (Zab n)) 0 (nF n),inv))))))
def ZxV (n:Ne.Net) (inv:List (List qct.D)):ZKm n inv=ZGG n inv:=by rw[ZKm,ZaY Zvs,ZaY Zt0,ZaY Ztj,ZaY Zm7,ZaY (Zho n)];rfl
def ZtG {n:Ne.Net} {ex:List SM} {k:SV->Prop} (j:k (.box mCT (ZGG n []) 0)):ZbS (hM0 n .nils++ex) 40 (.ptr 0 0 0) k:=by rw[<-ZxV]at j;exact⟨rfl,Xbf ((Xag _).trans Zvs.symm),Xbf ((Xag _).trans Zt0.symm),Xbf ((Xag _).trans Ztj.symm),Xbf ((Xag _).trans Zm7.symm),Xbf ((Xag _).trans (Zho n).symm),mCT,ZKm n [],rfl,j⟩
def hG (n:Ne.Net) (f:Mx) (ex:List SM):List SM:=hM0 n .nils++(.many (.l qct) (Zax 7 (ZbR (nF n) (nF n) f)) true::(ZaP qct (ZbR (nF n) (nF n) f)++ex))
section
variable {n:Ne.Net} {f:Mx} {ex:List SM} {a:Nat}
def Ztd:(hG n f ex).length=7+nF n+ex.length:=by rw[hG,Xal,Xao,Xal,Zal,ZaG];show 6+(nF n+ex.length+1)=_;omega
theorem ZfG (j:a<nF n):nth (hG n f ex) (a+7)=some (.row qct (Za7 (nF n) (f a)) true):=by
 show nth (ZaP qct (ZbR (nF n) (nF n) f)++ex) a=_;have h:a<(ZbR (nF n) (nF n) f).length:=by rw[ZaG];exact j
 rw[ZaA,Xan (by rw[Zal];exact h),Zb3 h,ZcB]
def ZJA {u:Nat->Rat} (j:a<nF n):(hG n f ex).set (a+7) (.row qct (Za7 (nF n) u) true)=hG n (λx=>if x=a then u else f x) ex:=by show hM0 n .nils++(.many (.l qct) (Zax 7 (ZbR (nF n) (nF n) f)) true::((ZaP qct (ZbR (nF n) (nF n) f)++ex).set a (.row qct (Za7 (nF n) u) true)))=_;rw[List.set_append_left _ _ (by rw[Zal];exact(by rw[ZaG];exact j)),ZfU,Zt6 j,hG,Zuq]
def ZCz {c:SM}:nth (hG n f [c]) (7+nF n)=some c:=by rw[show 7+nF n=(ZaP qct (ZbR (nF n) (nF n) f)).length+7 by rw[Zal,ZaG];omega];exact ZcD
def ZAA {c:SM}:hG n f []++ [c]=hG n f [c]:=by rw[hG,hG,Xa7,Xa5,Xa7,Xba]
end
abbrev bM:CT:= .l (.l .b)
def ZLz {n:Nat} {T:List (List Bool)} (hT:Sq n T) {i k:Nat} (hi:i<n) (I:k<n): ∃r,T[(i:Int).toNat]? =some r/\r[(k:Int).toNat]? =some (gt T i k):=by obtain⟨r,j,C,J⟩:=hT.row hi;refine⟨r,by rw[Xab];exact j, ?_⟩;rw[Xab,gt,C,XaB,Xac (by omega)];rfl
def vNk (T:List (List Bool)) (n i many k:Nat) (a:Int):TM:=[(0, .v bM T),(3, .ref 0 0 i none),(4,nt many),(5,nt i),(6, .v IC a),(9,nt n),(10,nt i),(13,nt i),(14,nt k)]
def ZMo (T:List (List Bool)) (n:Nat) (hT:Sq n T) (hn:n<=1000) (i many:Nat) (hi:i<n) (acc:List Nat) (J:acc.length=i):LoopOK prog Zai 0 ⟨48,0,44⟩ (ZaN Tryz.f48 8) (vNk T n i many 0 (-1)) [.row IC (acc.map Int.ofNat) true]
 (λe tm hp=>e= .exit 2/\Ent 0 tm hp [(0, .v bM T),(3, .ref 0 0 i none),(4,nt many),(5,nt i),(6, .v IC (atF T acc i i 0 (-1))),(9,nt n),(10,nt i)] [.row IC (acc.map Int.ofNat) true]):=by refine Zaq Zaa rfl (λt=>vNk T n i many t.1 t.2) (λ_=> [.row IC (acc.map Int.ofNat) true]) (λt=>t.1<=i/\atF T acc i (i-t.1) t.1 t.2=atF T acc i i 0 (-1)) (λt=>i-t.1) ?_ (0,-1) ⟨Xak _,rfl⟩ Zaj;rintro⟨k,a⟩ ⟨hk,he⟩;simp only at hk he;cases R:decide ((k:Int)<(i:Int))with|false=>have I:k=i:=fO R;have ea:a=atF T acc i i 0 (-1):=(by rw[<-he,I,Xbi];rfl);refine axT ?_;exact⟨rfl,Zah ⟨rfl,rfl,rfl,rfl,congrArg (λx=>some (SV.v IC x)) ea,rfl,rfl,trivial⟩⟩|true=>have j:k<i:=tO R;obtain⟨r,gr,gc⟩:=ZLz hT hi (Nat.lt_trans j hi);have C:atF T acc i (i-k) k a=atF T acc i (i-(k+1)) (k+1) (if(gt T i k&&decide (a<0))=true then(acc.getD k 0:Nat)else a):=(by rw[show i-k=(i-(k+1))+1 by omega,atF]);refine axT ?_;cases U:gt T i k with|false=>rw[U]at gc C;rw[C]at he;refine axT ?_;exact⟨(k+1,a),⟨j,he⟩,XaJ j (XaA k),eK⟩|true=>rw[U]at gc C;cases h3:decide (a<0)with|false=>rw[h3]at C;rw[C]at he;refine axT ?_;exact⟨(k+1,a),⟨j,he⟩,XaJ j (XaA k),eK⟩|true=>rw[h3]at C;rw[C]at he;have ga:(acc.map Int.ofNat)[0+(k:Int).toNat]? =some ((acc.getD k 0:Nat):Int):=(by rw[Xab,Xag,XaD,XaB,Xac oM];rfl);refine axT ?_;exact⟨(k+1,((acc.getD k 0:Nat):Int)),⟨j,he⟩,XaJ j (XaA k),eK⟩
def vNm (T:List (List Bool)) (n i j many:Nat):TM:=[(0, .v bM T),(3, .ref 0 0 j none),(4,nt many),(9,nt n),(10,nt i)]
def ZMw (T:List (List Bool)) (n:Nat) (hT:Sq n T) (hn:n<=1000):LoopOK prog Zai 0 ⟨48,0,44⟩ (ZaN Tryz.f48 4) (vNm T n 0 0 0) [.row IC ([]:List Int) true]
 (λe tm hp=>e= .exit 0/\Ent 0 tm hp [(3, .ref 0 0 (ZbB T n).length none)] [.row IC ((ZbB T n).map Int.ofNat) true]):=by
 refine Zcc rfl (λt=>vNm T n t.1 t.1 t.2.1) (λt=> [.row IC (t.2.2.map Int.ofNat) true]) (λt=>t.1<=n/\t.2.1<=t.1/\t.2.2.length=t.1/\ZwX T (n-t.1) t.1 t.2.1 t.2.2=ZbB T n) (λt=>n-t.1) ?_ (0,0,[]) ⟨Xak _,Xae _,rfl,rfl⟩ Zaj;rintro⟨i,many,acc⟩ ⟨hi,hm,j,he⟩;simp only at hi hm j he;cases h1:decide ((i:Int)<(n:Int))with
 |false=>have R:i=n:=fO h1;have U:acc=ZbB T n:=(by rw[<-he,R,Xbi];rfl);refine Zad Zaa ?_;refine axT ?_;refine⟨rfl, ?_⟩;rw[<-U,j];exact eK
 |true=>
  have C:i<n:=tO h1;have wm:=cI (ZbA (k:=many) oM);have hz:(i+1)*8<=140737488355328:=oM;have I:i=(acc.map Int.ofNat).length:=(by rw[Xar,j]);have J:ZwX T (n-i) i many acc=if atF T acc i i 0 (-1)<0 then ZwX T (n-(i+1)) (i+1) (many+1) (acc++ [many])else ZwX T (n-(i+1)) (i+1) many (acc++ [(atF T acc i i 0 (-1)).toNat]):=by rw[show n-i=(n-(i+1))+1 by omega,ZwX]
  have ha:=ZMo T n hT hn i many C acc j;generalize U:atF T acc i i 0 (-1)=a;rw[U]at J ha;refine Zac (Zad Zaa ?_);refine auG ?_;refine Zac (Zad Zaa ?_);refine axT ?_;cases h2:decide (a<0)with|true=>rw[if_pos (dT h2)]at J;rw[J]at he;refine ZaB (vNm T n i (i+1) (many+1)) [.row IC ((acc++ [many]).map Int.ofNat) true] (Zao rfl ?_) (Zad Zaa ?_);refine Zac (Zad Zaa ?_);refine auG ?_;refine Zac (Zad Zaa ?_);refine auG ?_;refine Zac (Zac (Zad Zaa ?_));refine auG ?_;refine Zao rfl (ZaH ?_);refine(ha.ent (eK)).mono ?_;rintro _ tm hp ⟨rfl,hE⟩;refine CodeOK.ent ?_ hE;refine Zac (Zad Zaa ?_);refine axT ?_;refine Zcq (Zad Zaa ?_);refine auH ?_;refine Zag rfl (ZbX rfl rfl rfl rfl rfl rfl rfl rfl rfl rfl rfl I hz ?_);refine Zaf rfl rfl ?_;refine auN ?_;exact⟨vNm T n i (i+1) (many+1),[.row IC ((acc++ [many]).map Int.ofNat) true],Zbz [2] rfl ⟨by rw[Xbb];rfl,trivial⟩ ⟨rfl,rfl,wm,rfl,rfl,trivial⟩,rfl,Zaj⟩;skip;refine auG ?_;exact⟨(i+1,many+1,acc++ [many]),⟨C,Nat.succ_le_succ hm,by show(acc++ [many]).length=i+1;rw[Xal,j];rfl,he⟩,XaJ C (XaA i),eK⟩|false=>have aa:0<=a:=fO h2;have ab:((a.toNat:Nat):Int)=a:=Int.toNat_of_nonneg aa;rw[if_neg (dF h2)]at J;rw[J]at he;refine ZaB (vNm T n i (i+1) many) [.row IC ((acc++ [a.toNat]).map Int.ofNat) true] (Zao rfl ?_) (Zad Zaa ?_);refine Zac (Zad Zaa ?_);refine auG ?_;refine Zac (Zad Zaa ?_);refine auG ?_;refine Zac (Zac (Zad Zaa ?_));refine auG ?_;refine Zao rfl (ZaH ?_);refine(ha.ent (eK)).mono ?_;rintro _ tm hp ⟨rfl,hE⟩;refine CodeOK.ent ?_ hE;refine Zac (Zad Zaa ?_);refine axT ?_;refine Zcq (CodeOK.ent (Zad Zaa ?_) (Zah (tm':=(6, .v IC a)::vNm T n i i many) ⟨rfl,rfl,rfl,rfl,rfl,rfl,trivial⟩));refine auH ?_;refine Zag rfl (ZbX rfl rfl rfl rfl rfl rfl rfl rfl rfl rfl rfl I hz ?_);refine Zaf rfl rfl ?_;refine auN ?_;exact⟨vNm T n i (i+1) many,[.row IC ((acc++ [a.toNat]).map Int.ofNat) true],Zbz [2] rfl ⟨by rw[Xbb];exact congrArg (λz=>some (SM.row IC (acc.map Int.ofNat++ [z]) true)) ab.symm,trivial⟩ ⟨rfl,rfl,rfl,rfl,rfl,trivial⟩,rfl,Zaj⟩;skip;refine auG ?_;exact⟨(i+1,many,acc++ [a.toNat]),⟨C,by show many<=i+1;omega,by show(acc++ [a.toNat]).length=i+1;rw[Xal,j];rfl,he⟩,XaJ C (XaA i),eK⟩
def Zpb (T:List (List Bool)) (n:Nat) (hT:Sq n T) (hn:n<=1000):PureOK prog Zai 48 [.v bM T] (λV=>V= .v (.l IC) ((ZbB T n).map Int.ofNat)):=by
 refine Zb8 (code:=bodyOf Tryz.f48) Zaa kR rfl func48 kR (Xam kR) ?_;show CodeOK prog Zai 0 ⟨48,0,44⟩ (bodyOf Tryz.f48) [(0, .v bM T)] [] (ZjR tys Tryz.f48.results.toList λV hp=>ZbS hp 40 V λV=>V= .v (.l IC) ((ZbB T n).map Int.ofNat));have hl:=hT.1;refine Zac (Zad Zaa ?_);refine auG ?_;refine Zac (Zad Zaa ?_);refine auG ?_;refine Zac (Zad Zaa ?_);refine auG ?_;refine Zac (Zac (Zad Zaa ?_));refine auG ?_;refine Zao rfl (ZaH ?_);refine((ZMw T n hT hn).ent ?_).mono ?_;refine Ent.trans (tm1:=(3, .ref 0 0 0 none)::[(0, .v bM T),(4,nt 0),(9,nt n),(10,nt 0)]) (hp1:=[.row IC ([]:List Int) true]) (Zfu (k:=3) (ct:=IC) (Xak _) rfl ⟨rfl,rfl,congrArg (λx:Nat=>some (nt x)) hl,rfl,trivial⟩) ?_;exact Zah ⟨rfl,rfl,rfl,rfl,rfl,trivial⟩;rintro _ tm hp ⟨rfl,hE⟩;refine CodeOK.ent ?_ hE;refine Zac (Zad Zaa ?_);refine auG ?_;refine Zad Zaa ?_;have j:((ZbB T n).map Int.ofNat).length=(ZbB T n).length:=Xar _;have C:ZbS [SM.row IC ((ZbB T n).map Int.ofNat) true] 40 (.ref 0 0 (ZbB T n).length none) (λV=>V= .v (.l IC) ((ZbB T n).map Int.ofNat)):=by refine ZbV rfl (Xbf ((Xag _).trans j.symm)) ?_;rw[ZaY j]
 exact C
def hJ (T:List (List Bool)) (ex:List SM):List SM:= .many (.l .b) (Zax 1 T) true::(ZaP .b T++ex)
section
variable {n:Nat} {T:List (List Bool)} {ex:List SM}
def Zk5 (hT:Sq n T) {i:Nat} (hi:i<n):nth (hJ T ex) (i+1)=some (.row .b (T.getD i []) true):=by
 let⟨r,C,j,I⟩:=hT.row hi
 have hl:i<T.length:=by rw[hT.1];exact hi
 show nth (ZaP .b T++ex) i=_;rw[ZaA,Xan (by rw[Zal];exact hl),Zb3 hl,j];grind
def ZBn (hT:Sq n T) {i:Nat} (hi:i<n):(Zax 1 T)[0+(i:Int).toNat]? =some (.ref (i+1) 0 n none):=by
 let⟨r,j,I,C⟩:=hT.row hi
 have hl:i<T.length:=by rw[hT.1];exact hi
 rw[Xac hl]at j;rw[Xab,Xag,ZbF hl,Xbp j,C]
def Zzm (hT:Sq n T) {i k:Nat} (hi:i<n) (C:k<n):(T.getD i [])[0+(k:Int).toNat]? =some (gt T i k):=by
 let⟨r,I,j,J⟩:=hT.row hi
 rw[Xab,Xag,gt,j,XaB,Xac oM];rfl
def ZxW (hT:Sq n T) {i k:Nat} {v:Bool} (hi:i<n):(hJ T ex).set (i+1) (.row .b ((T.getD i []).set (0+(k:Int).toNat) v) true)=hJ (Zmi T i k v) ex:=by
 let⟨r,j,C,I⟩:=hT.row hi
 have hl:i<T.length:=by rw[hT.1];exact hi
 rw[Xac hl]at j;rw[Xab,Xag,C];show SM.many (.l .b) (Zax 1 T) true::(ZaP .b T++ex).set i (.row .b (r.set k v) true)=_;rw[List.set_append_left _ _ (by rw[Zal];exact hl),ZfU,hJ,Zmi,C,ZmE hl (by rw[Xap,(Xbp j)])]
end
def vW (n m i j:Nat):TM:=[(0,nt n),(7, .ref 0 0 n none),(11,nt m),(60,nt n),(61,nt m),(12,nt i),(64,nt n),(65,nt i),(68,nt n),(69,nt j)]
def jnK (n:Nat) (hn:n<=1000) (m i:Nat) (hm:m<n) (hi:i<n) (T0:List (List Bool)) (U:Sq n T0):LoopOK prog Zai 0 ⟨46,0,107⟩ (ZaN Tryz.f46 21) (vW n m i 0) (hJ T0 [])
 (λe tm hp=>e= .exit 8/\Ent 0 tm hp [(0,nt n),(7, .ref 0 0 n none),(11,nt m),(60,nt n),(61,nt m),(64,nt n),(65,nt i)] (hJ (wK m i n 0 T0) [])):=by refine Zaq Zaa rfl (λ(t:Nat×List (List Bool))=>vW n m i t.1) (λt=>hJ t.2 []) (λt=>t.1<=n/\Sq n t.2/\wK m i (n-t.1) t.1 t.2=wK m i n 0 T0) (λt=>n-t.1) ?_ (0,T0) ⟨Xak _,U,rfl⟩ Zaj;rintro⟨k,T⟩ ⟨hk,hT,he⟩;simp only at hk hT he;cases h1:decide ((k:Int)<(n:Int))with|false=>have aa:k=n:=fO h1;have eT:T=wK m i n 0 T0:=(by rw[<-he,aa,Xbi];rfl);refine axT ?_;exact⟨rfl,Ent.eqs (by rw[eT]) (eK)⟩|true=>have j:k<n:=tO h1;have hs:wK m i (n-k) k T=wK m i (n-(k+1)) (k+1) (Zmi T i k (gt T i k||(gt T i m&&gt T m k))):=(by rw[show n-k=(n-(k+1))+1 by omega,wK]);rw[hs]at he;have ad:=ZBn hT hi;have ae:=ZBn hT hm;have ri:=λex=>Zk5 (ex:=ex) hT hi;have rm:=λex=>Zk5 (ex:=ex) hT hm;have J:=Zzm hT hi j;have R:=Zzm hT hi hm;have ab:=Zzm hT hm j;have C:=λv=>ZxW (ex:=[]) (k:=k) (v:=v) hT hi;have I:=λv=>hT.set hi k v;refine axT ?_;cases h2:gt T i k with|true=>rw[h2]at J he;refine ZAs (ri _) ?_;exact⟨(k+1,Zmi T i k true),⟨j,I true,he⟩,XaJ j (XaA k),Ent.eqs (C true) (eK)⟩|false=>rw[h2]at J he;cases h3:gt T i m with|false=>rw[h3]at R he;refine ZAs (ri _) ?_;exact⟨(k+1,Zmi T i k false),⟨j,I false,he⟩,XaJ j (XaA k),Ent.eqs (C false) (eK)⟩|true=>rw[h3]at R he;generalize ev:gt T m k=v;rw[ev]at ab he;refine ZAW (ri _) (rm _) ?_;exact⟨(k+1,Zmi T i k v),⟨j,I v,he⟩,XaJ j (XaA k),Ent.eqs (C v) (eK)⟩
def vWi (n m i:Nat):TM:=[(0,nt n),(7, .ref 0 0 n none),(11,nt m),(60,nt n),(61,nt m),(64,nt n),(65,nt i)]
def vWm (n m:Nat):TM:=[(0,nt n),(7, .ref 0 0 n none),(60,nt n),(61,nt m)]
def jnI (n:Nat) (hn:n<=1000) (m:Nat) (hm:m<n) (T0:List (List Bool)) (C:Sq n T0):LoopOK prog Zai 0 ⟨46,0,107⟩ (ZaN Tryz.f46 18) (vWi n m 0) (hJ T0 [])
 (λe tm hp=>e= .exit 6/\Ent 0 tm hp [(0,nt n),(7, .ref 0 0 n none),(60,nt n),(61,nt m)] (hJ (wI n m n 0 T0) [])):=by refine Zcc rfl (λt=>vWi n m t.1) (λt=>hJ t.2 []) (λt=>t.1<=n/\Sq n t.2/\wI n m (n-t.1) t.1 t.2=wI n m n 0 T0) (λt=>n-t.1) ?_ (0,T0) ⟨Xak _,C,rfl⟩ Zaj;rintro⟨i,T⟩ ⟨hi,hT,he⟩;simp only at hi hT he;cases J:decide ((i:Int)<(n:Int))with|false=>have I:i=n:=fO J;have R:T=wI n m n 0 T0:=(by rw[<-he,I,Xbi];rfl);refine Zad Zaa ?_;refine axT ?_;exact⟨rfl,Ent.eqs (by rw[R]) (eK)⟩|true=>have j:i<n:=tO J;have U:wI n m (n-i) i T=wI n m (n-(i+1)) (i+1) (wK m i n 0 T):=(by rw[show n-i=(n-(i+1))+1 by omega,wI]);rw[U]at he;refine Zac (Zad Zaa ?_);refine auG ?_;refine Zac (Zad Zaa ?_);refine axT ?_;refine ZaB (vWi n m i) (hJ (wK m i n 0 T) []) (Zao rfl ?_) (Zad Zaa ?_);refine Zac (Zad Zaa ?_);refine auG ?_;refine Zac (Zad Zaa ?_);refine auG ?_;refine Zao rfl (ZaH ?_);refine((jnK n hn m i hm j T hT).ent (eK)).mono ?_;rintro _ tm hp ⟨rfl,hE⟩;exact⟨rfl,hE⟩;skip;refine auG ?_;exact⟨(i+1,wK m i n 0 T),⟨j,ZCZ j n 0 hT,he⟩,XaJ j (XaA i),eK⟩
def jnM (n:Nat) (hn:n<=1000) (T0:List (List Bool)) (C:Sq n T0):LoopOK prog Zai 0 ⟨46,0,107⟩ (ZaN Tryz.f46 15) (vWm n 0) (hJ T0 [])
 (λe tm hp=>e= .exit 4/\Ent 0 tm hp [(7, .ref 0 0 n none)] (hJ (wM n n 0 T0) [])):=by refine Zcc rfl (λt=>vWm n t.1) (λt=>hJ t.2 []) (λt=>t.1<=n/\Sq n t.2/\wM n (n-t.1) t.1 t.2=wM n n 0 T0) (λt=>n-t.1) ?_ (0,T0) ⟨Xak _,C,rfl⟩ Zaj;rintro⟨m,T⟩ ⟨hm,hT,he⟩;simp only at hm hT he;cases J:decide ((m:Int)<(n:Int))with|false=>have I:m=n:=fO J;have R:T=wM n n 0 T0:=(by rw[<-he,I,Xbi];rfl);refine Zad Zaa ?_;refine axT ?_;exact⟨rfl,Ent.eqs (by rw[R]) (eK)⟩|true=>have j:m<n:=tO J;have U:wM n (n-m) m T=wM n (n-(m+1)) (m+1) (wI n m n 0 T):=(by rw[show n-m=(n-(m+1))+1 by omega,wM]);rw[U]at he;refine Zac (Zad Zaa ?_);refine auG ?_;refine Zac (Zad Zaa ?_);refine axT ?_;refine ZaB (vWm n m) (hJ (wI n m n 0 T) []) (Zao rfl ?_) (Zad Zaa ?_);refine Zac (Zad Zaa ?_);refine auG ?_;refine Zac (Zad Zaa ?_);refine auG ?_;refine Zao rfl (ZaH ?_);refine((jnI n hn m j T hT).ent (eK)).mono ?_;rintro _ tm hp ⟨rfl,hE⟩;exact⟨rfl,hE⟩;skip;refine auG ?_;exact⟨(m+1,wI n m n 0 T),⟨j,ZDO n 0 oM hT,he⟩,XaJ j (XaA m),eK⟩
def Zwb (n i:Nat):List SV:=(List.range n).map λa=>if a<i then .ref (a+1) 0 n none else .nils
def Zfx {n i:Nat}:(Zwb n i).length=n:=by rw[Zwb,Xar,XaX]
def Zod {n i a:Nat} (j:a<n):(Zwb n i)[a]? =some (if a<i then SV.ref (a+1) 0 n none else .nils):=by rw[Zwb,XaD,Xa9 j];rfl
def Zyq {n:Nat}:Zwb n 0=List.replicate n .nils:=by apply XaR;intro a;by_cases j:a<n;rw[Zod j,XaZ,if_pos j,if_neg (XaS a)];rw[Xat (by rw[Zfx];omega),Xat (by rw[XaE];omega)]
def ZBi {n i:Nat} (hi:i<n):(Zwb n i).set i (.ref (i+1) 0 n none)=Zwb n (i+1):=by apply XaR;intro a;by_cases j:a<n;rw[Zod j];by_cases e:i=a;subst e;rw[XaN (by rw[Zfx];exact j),if_pos (XaA i)];rw[XaL e,Zod j];by_cases h:a<i;rw[if_pos h,if_pos (by omega)];rw[if_neg h,if_neg (by omega)];rw[Xat (by rw[Xap,Zfx];omega),Xat (by rw[Zfx];omega)]
def hR (n i:Nat):List SM:= .many (.l .b) (Zwb n i) true::(List.range i).map λa=>SM.row .b (Zgf n a) true
def ZJ6 {n i:Nat}:(hR n i).length=i+1:=by rw[hR,Xao,Xar,XaX]
def ZHh {n:Nat}:hR n n=hJ ((List.range n).map (Zgf n)) []:=by
 have C:Zax 1 ((List.range n).map (Zgf n))=Zwb n n:=by apply XaR;intro a;by_cases j:a<n;rw[Zod j,ZbF (by rw[Xar,XaX];exact j),if_pos j,List.getElem_map,List.getElem_range,Zgf,Xap,XaE];rw[Xat (by rw[Zaw,Xar,XaX];omega),Xat (by rw[Zfx];omega)]
 rw[hR,hJ,C,ZaP,XbG,XaQ];rfl
end Go.Proofs.YtpdhpbldangmbaaGreatDoor
