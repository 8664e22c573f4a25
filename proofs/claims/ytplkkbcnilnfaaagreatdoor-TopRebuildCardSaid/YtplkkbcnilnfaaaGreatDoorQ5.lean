/- The operations of large.Rat on rational numbers. -/
import Derived.Test.YtplkkbcnilnfaaaGreatDoorT9
import Derived.Test.YtplkkbcnilnfaaaGreatDoorLg
set_option linter.all false
set_option maxHeartbeats 16000000
set_option maxRecDepth 100000
open Go.Proofs.Tryz
open Go.IntKind(i64)
namespace Go.Proofs.YtplkkbcnilnfaaaGreatDoor
open Go.Am Go.Tx Dv Go.Lib
def szQ (q:Rat) (k:Nat):Prop:=ln q.num<=k/\ln (q.den:Int)<=k
def Zse (p q:Rat):Rat.divInt (p.num*q.den+q.num*p.den) (p.den*q.den)=p+q:=by rw[Rat.add_def',<-Int.natCast_mul,Rat.divInt_ofNat]
def Zr4 (p q:Rat):Rat.divInt (p.num*q.num) (p.den*q.den)=p*q:=by rw[Rat.mul_def',<-Int.natCast_mul,Rat.divInt_ofNat]
def ZAs (p q:Rat):Rat.divInt (p.num*q.den) (p.den*q.num)=p/q:=by
 rw[Rat.div_def,Rat.inv_def];conv=>rhs;rw[<-Rat.num_divInt_den p]
 rw[Rat.divInt_mul_divInt]
def ZHT (p q:Rat):Int:=(p.num*q.den-q.num*p.den).sign
def Zdw (q:Rat):0<(q.den:Int):=by have:=q.den_pos;omega
def ZGC (v:Int):sg (decide (v<0)) ((v.natAbs:Nat):Int)=v:=by by_cases h:v<0;rw[decide_eq_true h];simp only[sg];omega;rw[decide_eq_false h];simp only[sg];omega
def ZlM (p q:Rat) {k:Nat} (C:k<=100000000) (hp:szQ p k) (j:szQ q k):PureOK prog Zaj 66 [QR p,QR q] (λV=>V=QR (p+q)):=by obtain⟨p1,I⟩:=hp;obtain⟨J,R⟩:=j;have U:=ZdL p.num q.den;have l2:=ZdL q.num p.den;have l3:=ZdL p.den q.den;have l4:=ZBj (p.num*q.den) (q.num*p.den);refine Zad Zab func66 ?_;refine Xab rfl ?_;refine Xab rfl ?_;refine(Zlm p.num q.den (by omega) (by omega)).mono ?_;rintro _ rfl;refine Xab rfl ?_;refine Xab rfl ?_;refine(Zlm q.num p.den (by omega) (by omega)).mono ?_;rintro _ rfl;refine(Zzu (p.num*q.den) (q.num*p.den) (by omega) (by omega)).mono ?_;rintro _ rfl;refine Xab rfl ?_;refine Xab rfl ?_;refine(Zlm p.den q.den (by omega) (by omega)).mono ?_;rintro _ rfl;refine(ZmH (p.num*q.den+q.num*p.den) (p.den*q.den) (by have:=Int.mul_pos (Zdw p) (Zdw q);omega) (by omega) (by omega)).mono ?_;rintro _ rfl;rw[Zse];refine Xab rfl ?_;exact⟨rfl,rfl⟩
def Zr6 (p q:Rat) {k:Nat} (C:k<=100000000) (hp:szQ p k) (j:szQ q k):PureOK prog Zaj 62 [QR p,QR q] (λV=>V=QR (p*q)):=by obtain⟨p1,I⟩:=hp;obtain⟨J,R⟩:=j;have U:=ZdL p.num q.num;have l3:=ZdL p.den q.den;refine Zad Zab func62 ?_;refine Xab rfl ?_;refine Xab rfl ?_;refine(Zlm p.num q.num (by omega) (by omega)).mono ?_;rintro _ rfl;refine Xab rfl ?_;refine Xab rfl ?_;refine(Zlm p.den q.den (by omega) (by omega)).mono ?_;rintro _ rfl;refine(ZmH (p.num*q.num) (p.den*q.den) (by have:=Int.mul_pos (Zdw p) (Zdw q);omega) (by omega) (by omega)).mono ?_;rintro _ rfl;rw[Zr4];refine Xab rfl ?_;exact⟨rfl,rfl⟩
def ZFy (p q:Rat) {k:Nat} (J:k<=100000000) (hp:szQ p k) (j:szQ q k) (C:q≠0):PureOK prog Zaj 118 [QR p,QR q] (λV=>V=QR (p/q)):=by obtain⟨p1,R⟩:=hp;obtain⟨U,q2⟩:=j;have l1:=ZdL p.num q.den;have l3:=ZdL p.den q.num;have I:q.num≠0:=λh=>C (Rat.num_eq_zero.1 h);refine Zad Zab func118 ?_;refine Xab rfl ?_;refine Xab rfl ?_;refine(Zlm p.num q.den (by omega) (by omega)).mono ?_;rintro _ rfl;refine Xab rfl ?_;refine Xab rfl ?_;refine(Zlm p.den q.num (by omega) (by omega)).mono ?_;rintro _ rfl;refine(ZmH (p.num*q.den) (p.den*q.num) (Int.mul_ne_zero (by have:=Zdw p;omega) I) (by omega) (by omega)).mono ?_;rintro _ rfl;rw[ZAs];refine Xab rfl ?_;exact⟨rfl,rfl⟩
def ZvW (q:Rat) {k:Nat} (C:k<=100000000) (j:szQ q k):PureOK prog Zaj 74 [QR q] (λV=>V=QR (-q)):=ZHa q.num q.den (XaK j.1 (by omega))
def Zl4 {q:Rat} {k:Nat} (j:szQ q k):szQ (-q) k:=by obtain⟨C,I⟩:=j;refine⟨?_,I⟩;show ln (-q.num)<=k;rw[ZsH];exact C
def Zph (p q:Rat) {k:Nat} (j:k<=100000000) (hp:szQ p k) (C:szQ q k):PureOK prog Zaj 65 [QR p,QR q] (λV=>V=QR (p-q)):=by refine Zad Zab func65 ?_;refine Xab rfl ?_;refine Xab rfl ?_;refine(ZvW q j C).mono ?_;rintro _ rfl;refine(ZlM p (-q) j hp (Zl4 C)).mono ?_;rintro _ rfl;rw[<-Rat.sub_eq_add_neg];refine Xab rfl ?_;exact⟨rfl,rfl⟩
def ZF4 (p q:Rat) {k:Nat} (C:k<=100000000) (hp:szQ p k) (j:szQ q k):PureOK prog Zaj 48 [QR p,QR q] (λV=>V= .v (.i .i64) (ZHT p q)):=by obtain⟨p1,I⟩:=hp;obtain⟨J,R⟩:=j;have U:=ZdL p.num q.den;have l2:=ZdL q.num p.den;refine Zad Zab func48 ?_;refine Xab rfl ?_;refine Xab rfl ?_;refine(Zlm p.num q.den (by omega) (by omega)).mono ?_;rintro _ rfl;refine Xab rfl ?_;refine Xab rfl ?_;refine(Zlm q.num p.den (by omega) (by omega)).mono ?_;rintro _ rfl;refine(ZHU (p.num*q.den) (q.num*p.den) (by omega) (by omega)).mono ?_;rintro _ rfl;rfl
def ZBL (n d:Int) (j: -9223372036854775808<=n) (C:n<9223372036854775808) (I: -9223372036854775808<=d) (J:d<9223372036854775808) (hd:d≠0):PureOK prog Zaj 61 [.v (.i .i64) n, .v (.i .i64) d] (λV=>V=QR (Rat.divInt n d)):=by have R:ln n<=2:=Zfn (by omega);have U:ln d<=2:=Zfn (by omega);refine Zad Zab func61 ?_;refine(ZBc n j C).mono ?_;rintro _ rfl;refine(ZBc d I J).mono ?_;rintro _ rfl;refine(ZmH n d hd (by omega) (by omega)).mono ?_;rintro _ rfl;refine Xab rfl ?_;exact⟨rfl,rfl⟩
def ZyZ (s:List UInt8) (c:UInt8):PureOK prog Zaj 108 [.v .s s, .v .s [c]] (λV=>V= .v (.i .i64) (Zi0 s c 0)):=by refine⟨λqs j=> ?_⟩;simp only[RL,RV,RR,Xb3,and_true]at j;obtain⟨_,_,rfl,rfl,_,_,rfl,rfl,rfl⟩:=j;refine⟨.int .i64 (Zi0 s c 0),_, ?_, ?_,rfl⟩;show(indexG [.str ⟨s.toArray⟩, .str ⟨[c].toArray⟩]).bind (λv=>exp ZaP [] v)=_;rfl;simp only[RV,RR]
def ZGq (s:List UInt8) (c:UInt8): -1<=Zi0 s c 0/\Zi0 s c 0<s.length:=by
 have h: ∀ (l:List UInt8) (i:Nat),-1<=Zi0 l c i/\Zi0 l c i<i+l.length\/Zi0 l c i= -1:=by intro l;induction l with|nil=>intro i;right;rfl|cons b l j=>intro i;rw[Zi0];cases Nat.beq b.toNat c.toNat with|true=>left;simp only[Xaq];omega|false=>simp only;rcases j (i+1)with h|h;left;simp only[Xaq];omega;right;exact h
 rcases h s 0 with h|h<;>omega
def ZFG (s:List UInt8) (c:UInt8) (hl:s.length<=9223372036854775806):PureOK prog Zaj 88 [.v .s s, .v .s [c]] (λV=>V= .tup [.v .s (Zte s c).1, .v .s (Zte s c).2.1, .v .b (Zte s c).2.2]):=by
 refine Zad Zab func88 ?_;have hi:=ZGq s c;refine(ZyZ s c).mono ?_;rintro _ rfl;obtain⟨k,I⟩: ∃k,Zi0 s c 0=k:=⟨_,rfl⟩;have j:Zte s c=match decide (0<=k)with|true=>(s.take k.toNat,s.drop (k.toNat+1),true)|false=>(s,[],false):=by rw[<-I];rfl
 rw[I]at hi|-;refine Xab (λh=> ?_) (λh=> ?_);have C:decide (0<=k)=true:=h;have R:0<=k:=of_decide_eq_true C;have J:i64.wrap (k+1)=k+1:=Zat (by omega) (by omega);refine Xab (show 0<=k/\k<=(s.length:Int)from⟨R,by omega⟩) ?_;refine Xab (by show 0<=i64.wrap (k+1)/\i64.wrap (k+1)<=(s.length:Int);rw[J];omega) ?_;have U:List.drop (i64.wrap (k+1)).toNat (List.take s.length s)=s.drop (k.toNat+1):=by rw[J,Xa3,show(k+1).toNat=k.toNat+1 by omega]
 show SV.tup [.v .s (List.drop 0 (List.take k.toNat s)), .v .s (List.drop (i64.wrap (k+1)).toNat (List.take s.length s)), .v .b true]=_;rw[U,j,C];rfl;have C:decide (0<=k)=false:=h;rw[j,C];rfl
def ZIr (s:List UInt8) (c:UInt8) (j:s.length<=9223372036854775806):PureOK prog Zaj 70 [.v .s s, .v .s [c]] (λV=>V= .tup [.v .s (Zte s c).1, .v .s (Zte s c).2.1, .v .b (Zte s c).2.2]):=by refine Zad Zab func70 ?_;refine(ZFG s c j).mono ?_;rintro _ rfl;rfl
def ZtT (ds:List UInt8):Zq9 (45::ds) [45]=true:=by simp[Zq9];omega
def Zrb {ds:List UInt8} (h:Dg ds):Zq9 ds [45]=false:=by cases ds with|nil=>rfl|cons c r=>have j:=h c Xai;have C:c≠45:=(by rintro rfl;exact absurd j.1 (by decide));simp[Zq9,C]
def ZF2 {s:List UInt8} (h:Dg s):(wOf (dec s)).length<=s.length:=by rw[ZcY];exact Xa6 (ZoO h) (Nat.pow_le_pow_left (by decide) _)
def ZxZ (s:List UInt8) (n:Nat):dec s=dec (s.take n)*10^(s.drop n).length+dec (s.drop n):=by
 conv=>lhs;rw[<-Xa9 n s]
 exact ZqP _ _
def Zxb (neg:Bool) (ds:List UInt8):List UInt8:=match neg with|true=>45::ds|false=>ds
def ZId (neg:Bool) (t:List UInt8×Nat):TM:=[(0, .v .s t.1),(2, .ptr 0 0 0),(3, .v .b neg),(4, .ptr 1 0 0)]
def ZIC (t:List UInt8×Nat):List SM:=[.cell [.v .b false, .nils] true, .cell [.v .b false,Zby (wOf t.2)] true]
def ZFF (neg:Bool) (ds:List UInt8) (hd:Dg ds) (hl:ds.length<=300000000):PureOK prog Zaj 71 [.v .s (Zxb neg ds)] (λV=>V=IS (sg neg (dec ds:Nat))):=by
 obtain⟨s,U⟩: ∃s,Zxb neg ds=s:=⟨_,rfl⟩;have hP:Zq9 s [45]=neg:=by cases neg<;>subst U<;>first|exact ZtT ds|exact Zrb hd
 have hT:(match Zq9 s [45]with|true=>s.drop [(45:UInt8)].length|false=>s)=ds:=by rw[hP];cases neg<;>subst U<;>rfl
 rw[U];refine Zad Zab func71 ?_;refine(ZqF s [45]).mono ?_;rintro _ rfl;refine(ZpN s [45]).mono ?_;rintro _ rfl;refine Xab rfl ?_;refine Zap Zab rfl (ZId neg) ZIC (λt=>Dg t.1/\t.1.length<=ds.length/\dec ds=t.2*10^t.1.length+dec t.1/\(t.2=0\/t.1.length % 9=0)) (λt=>t.1.length) ?_ (ds,0) ?_ ?_;rintro⟨r,v⟩ ⟨h1,h2,h3,h4⟩;simp only at h1 h2 h3 h4;refine Xab (λh=> ?_) (λh=> ?_);have hr:1<=r.length:=by have j:(0:Int)<(r.length:Int):=of_decide_eq_true h;omega
 obtain⟨n,hn⟩: ∃n,n=(r.length-1) % 9+1:=⟨_,rfl⟩;have e1:i64.wrap ((r.length:Int)-1)=((r.length-1:Nat):Int):=by rw[Zat (by omega) (by omega)];omega
 have e2:i64.wrap ((i64.wrap ((r.length:Int)-1)).tmod 9+1)=(n:Int):=by rw[e1,Int.tmod_eq_emod_of_nonneg (by omega),Zat (by omega) (by omega)];omega
 have ak:n<=r.length:=by omega
 have bn:(0:Int)<=i64.wrap ((i64.wrap ((r.length:Int)-1)).tmod 9+1)/\i64.wrap ((i64.wrap ((r.length:Int)-1)).tmod 9+1)<=(r.length:Int):=by rw[e2];omega
 have al:(r.take n).length=n:=by rw[Xay];omega
 have C:Dg (r.take n):=λc hc=>h1 c (XaR hc);have aa:Dg (r.drop n):=λc hc=>h1 c (XbD hc);refine Xab (by decide) ?_;refine Xab bn ?_;have et:List.drop 0 (List.take (i64.wrap ((i64.wrap ((r.length:Int)-1)).tmod 9+1)).toNat r)=r.take n:=by rw[e2,XaV,Xac]
 have I:=ZpW (r.take n) C (by omega) (by omega);rw[<-et]at I;refine I.mono ?_;rintro _ rfl;have ab:v<=dec ds:=by have:v*1<=v*10^r.length:=Nat.mul_le_mul_left _ (Nat.one_le_pow _ _ (by decide));omega
 have an:ln (v:Int)<=300000000:=by rw[ln,XaY];exact XaK (ZbJ ab) (XaK (ZF2 hd) hl)
 have ad:=ZoO C;have ao:dec (r.take n)<1000000000:=Xa6 ad (Nat.pow_le_pow_right (by decide) (show(r.take n).length<=9 by omega));obtain⟨d,ed⟩: ∃d:Nat,dec (List.drop 0 (List.take (i64.wrap ((i64.wrap ((r.length:Int)-1)).tmod 9+1)).toNat r))=d:=⟨_,rfl⟩;have ae:dec (r.take n)=d:=by rw[<-ed,et]
 have J:i64.wrap ((dec (List.drop 0 (List.take (i64.wrap ((i64.wrap ((r.length:Int)-1)).tmod 9+1)).toNat r)):Nat):Int)=(d:Int):=by rw[ed];exact Zat (by omega) (by omega)
 refine Xab rfl ?_;refine(ZBc 1000000000 (by decide) (by decide)).mono ?_;rintro _ rfl;have l9:ln 1000000000<=2:=Zfn (by decide);have hmul:=Zlm (v:Int) 1000000000 (by omega) (by omega);rw[ZrA v]at hmul;refine hmul.mono ?_;rintro _ rfl;have R:=ZBc (d:Int) (by omega) (by omega);rw[<-J]at R;refine R.mono ?_;rintro _ rfl;rw[J];have ld:ln (d:Int)<=2:=Zfn (by omega);have lm:=ZdL (v:Int) 1000000000;refine(Zzu ((v:Int)*1000000000) (d:Int) (by omega) (by omega)).mono ?_;rintro _ rfl;refine Xab rfl ?_;refine Xab bn ?_;have af:List.drop (i64.wrap ((i64.wrap ((r.length:Int)-1)).tmod 9+1)).toNat (List.take r.length r)=r.drop n:=by rw[e2,Xa3,Xac]
 have ag:((v*1000000000+d:Nat):Int)=(v:Int)*1000000000+d:=by omega
 have c1:false=decide ((v:Int)*1000000000+(d:Int)<0):=(decide_eq_false (by omega)).symm;have c2:wOf (v*1000000000+d)=wOf ((v:Int)*1000000000+(d:Int)).natAbs:=by rw[<-ag,XaY]
 refine⟨(r.drop n,v*1000000000+d),⟨aa,by show(r.drop n).length<=_;rw[Xbo];omega, ?_, .inr ?_⟩,by show(r.drop n).length<r.length;rw[Xbo];omega, ?_⟩;show dec ds=(v*1000000000+d)*10^(r.drop n).length+dec (r.drop n);have ah:=ZxZ r n;rw[ae]at ah;rw[h3];have ai:v*10^r.length=v*1000000000*10^(r.drop n).length:=by rcases h4 with h4|h4;rw[h4];simp;have:n=9:=(by omega);rw[Xbo,this,XbX,show 1000000000=10^9 from rfl,<-Nat.pow_add,show 9+(r.length-9)=r.length by omega]
 rw[ai,Xbv];omega;show(r.drop n).length % 9=0;rw[Xbo];omega;refine ZaH rfl rfl ?_ ?_;exact⟨af.symm,⟨rfl,rfl⟩,rfl,⟨rfl,rfl⟩,trivial⟩;exact⟨⟨⟨rfl,trivial,trivial⟩,λ_=>rfl⟩,⟨⟨c1,c2,trivial⟩,λ_=>rfl⟩,trivial⟩;have hr:r=[]:=by cases r with|nil=>rfl|cons c l=>have j: ¬ (0:Int)<((c::l).length:Int):=of_decide_eq_false h;simp at j
 subst hr;have hv:dec ds=v:=by rw[h3,Zm5];simp
 have aj:decide ((0:Int)<((wOf v).length:Int))=decide (0<v):=by refine decide_eq_decide.2 ?_;have:=Zf0 (n:=v);rw[<-Xbg]at this;omega
 have fin:SV.agg [.v .b (neg&&decide ((0:Int)<((wOf v).length:Int))),Zby (wOf v)]=IS (sg neg (dec ds:Nat)):=by rw[hv,aj];show _=SV.agg [.v .b (decide (sg neg (v:Int)<0)),Zby (wOf (sg neg (v:Int)).natAbs)];rw[ZvL,XaY];have:(neg&&decide (0<v))=decide (sg neg (v:Int)<0):=(by cases neg with|true=>simp only[Bool.true_and,sg];exact decide_eq_decide.2 (by omega)|false=>simp only[XbZ,sg];exact(decide_eq_false (by omega)).symm);rw[this]
 cases neg with|true=>refine Xab (λ_=> ?_) (λj=>nomatch j);refine Xab (λ_=> ?_) (λj=>nomatch j);refine Xab rfl ?_;refine Xab (λ_=> ?_) (λj=>nomatch j);refine Xab (λ_=> ?_) (λj=>nomatch j);refine Xab (λ_=> ?_) (λj=>nomatch j);refine⟨rfl,rfl,rfl,rfl,fin⟩|false=>refine Xab (λj=>nomatch j) (λ_=> ?_);refine Xab (λj=>nomatch j) (λ_=> ?_);refine Xab (λj=>nomatch j) (λ_=> ?_);refine Xab (λj=>nomatch j) (λ_=> ?_);refine Xab (λj=>nomatch j) (λ_=> ?_);refine⟨rfl,rfl,rfl,rfl,fin⟩
 refine⟨hd,Xag _,by simp, .inl rfl⟩;refine ZaH rfl rfl ?_ ?_;exact⟨hT.symm,⟨rfl,rfl⟩,hP.symm,⟨rfl,rfl⟩,trivial⟩;exact⟨⟨⟨rfl,trivial,trivial⟩,λ_=>rfl⟩,⟨⟨rfl,Zeb,trivial⟩,λ_=>rfl⟩,trivial⟩
abbrev rs (x:List UInt8×Int):SV:= .tup [.v .s x.1, .v (.i .i64) x.2]
def ZDt (q:Rat):PureOK prog Zaj 87 [QR q] (λV=> ∃X,V= .tup [.v .s X, .v .b (ZoL q)]/\(ZoL q=true->X=Zhf q)):=by
 refine Zad Zab func87 ?_;have hN:=Zxv q.num;have hD:=Zxv (q.den:Int);obtain⟨n1,J⟩:=Zsb q.num;obtain⟨d1,d2⟩:=Zsb (q.den:Int);have ln:=ZpI (decide (q.num<0)) (wOf q.num.natAbs);have ld:=ZpI (decide ((q.den:Int)<0)) (wOf (q.den:Int).natAbs);have j:ZoL q=(Zez (wOf q.num.natAbs)&&Zez (wOf (q.den:Int).natAbs)):=by rw[n1,d1,XaY];rfl
 rw[<-n1]at J;rw[<-d1,decide_eq_false (by omega: ¬ (q.den:Int)<0)]at d2;rw[decide_eq_false (by omega: ¬ (q.den:Int)<0)]at ld hD;obtain⟨t1,e1⟩: ∃x,ZeH (decide (q.num<0)) (wOf q.num.natAbs)=x:=⟨_,rfl⟩;obtain⟨f1,g1⟩: ∃x,Zez (wOf q.num.natAbs)=x:=⟨_,rfl⟩;obtain⟨t2,e2⟩: ∃x,ZeH false (wOf (q.den:Int).natAbs)=x:=⟨_,rfl⟩;obtain⟨f2,g2⟩: ∃x,Zez (wOf (q.den:Int).natAbs)=x:=⟨_,rfl⟩;have hD:PureOK prog Zaj 107 [IS (q.den:Int)] (λV=>V= .tup [.v .s (ZeH false (wOf (q.den:Int).natAbs)), .v .b (Zez (wOf (q.den:Int).natAbs))]):=by have:=Zxv (q.den:Int);refine this.mono ?_;rintro _ rfl;rw[decide_eq_false (by omega: ¬ (q.den:Int)<0)]
 rw[e1,g1]at hN J;rw[e2,g2]at hD d2;rw[g1,g2]at j;rw[e1]at ln;rw[e2]at ld;rw[XaY]at d2;have R:Zhf q=mns (decide (q.num<0)) (decDigits q.num.natAbs++Zgy q.den):=rfl;obtain⟨m,hm⟩: ∃m,decide (q.num<0)=m:=⟨_,rfl⟩;have C:f1=true->t1=mns m (decDigits q.num.natAbs):=λh=>by rw[J h,hm]
 rw[hm]at R;rw[j];refine Xab rfl ?_;refine hN.mono ?_;rintro _ rfl;cases f1 with|false=>refine Xab (λ_=> ?_) (λh=>nomatch h);exact⟨[],rfl,λh=>nomatch h⟩|true=>have C:=C rfl;refine Xab (λh=>nomatch h) (λ_=> ?_);refine Xab rfl ?_;refine hD.mono ?_;rintro _ rfl;refine Xab (λh=> ?_) (λh=> ?_);have U:t2=[49]:=eq_of_beq h;refine⟨t1,rfl,λhf=> ?_⟩;have hf:f2=true:=hf;have I:=d2 hf;have h4:decDigits q.den=[49]:=I.symm.trans U;have h5:q.den=1:=(ZFe (ZkM q.den)).2 h4|>λh=>(by rw[Zc3]at h;exact h);rw[R,C,Zgy,decide_eq_true h5,XaN];have U: ¬t2=[49]:=λe=>(by rw[e]at h;cases h);refine Xab (by show t1.length+1<=9223372036854775807;omega) ?_;refine Xab (by show(t1++ [47]).length+t2.length<=9223372036854775807;rw[Xas];simp only[List.length_singleton];omega) ?_;refine⟨t1++ [47]++t2,rfl,λhf=> ?_⟩;have hf:f2=true:=hf;have I:=d2 hf;have h5: ¬q.den=1:=λe=>U (by rw[I,e];exact decDigits_one (by decide));rw[R,C,Zgy,decide_eq_false h5,I];cases m<;>simp[mns]
def Ztn (m:Bool) (n:Nat) (j:(decDigits n).length<=300000000):PureOK prog Zaj 71 [.v .s (mns m (decDigits n))] (λV=>V=IS (sg m (n:Int))):=by
 have h:=ZFF m (decDigits n) (ZcI n) j;rw[Zc3]at h;have e:Zxb m (decDigits n)=mns m (decDigits n):=by cases m<;>rfl
 rw[e]at h;exact h
def ZDL (q:Rat) (h:ZoL q=true):PureOK prog Zaj 46 [.v .s (Zhf q)] (λV=>V=QR q):=by
 obtain⟨J,R⟩:=Zmr.1 h;have U:=ZB6 h;have C:=ZIr (Zhf q) 47 (by omega);have j:Zte (Zhf q) 47=match decide (q.den=1)with|true=>(mns (decide (q.num<0)) (decDigits q.num.natAbs),[],false)|false=>(mns (decide (q.num<0)) (decDigits q.num.natAbs),decDigits q.den,true):=ZDQ _ _ _
 have I:=Ztn (decide (q.num<0)) q.num.natAbs (by omega);rw[ZGC]at I;have hD:=Ztn false q.den (by omega);refine Zad Zab func46 ?_;cases hd:decide (q.den=1)with|true=>rw[hd]at j;simp only at j;rw[j]at C;have J:q.den=1:=of_decide_eq_true hd;refine C.mono ?_;rintro _ rfl;refine Xab (λ_=> ?_) (λh=>nomatch h);refine I.mono ?_;rintro _ rfl;refine(ZBc 1 (by decide) (by decide)).mono ?_;rintro _ rfl;refine Xab rfl ?_;refine Xab rfl ?_;show QS q.num ((1:Nat):Int)=QS q.num (q.den:Int);rw[J]|false=>rw[hd]at j;simp only at j;rw[j]at C;refine C.mono ?_;rintro _ rfl;refine Xab (λh=>nomatch h) (λ_=> ?_);refine I.mono ?_;rintro _ rfl;refine hD.mono ?_;rintro _ rfl;refine Xab rfl ?_;refine Xab rfl ?_;rfl
end Go.Proofs.YtplkkbcnilnfaaaGreatDoor
namespace Dv
open Go Go.Lib
def dv:List Int->Int
 | []=>0
 |d::l=>d+10*dv l
end Dv
namespace Go.Proofs.YtplkkbcnilnfaaaGreatDoor
open Go.Am Go.Tx Dv Go.Lib
def dl (n:Nat):Nat:=(decDigits n).length
def ZjF {n d:Int} {k:Nat} (hd:0<d) (j:ln n<=k) (C:ln d<=k):szQ (Rat.divInt n d) k:=by obtain⟨I,J⟩:=Zh3 (n:=n) hd;constructor;rw[I];exact XaK (ZkL (Int.natAbs_ediv_le_natAbs _ _)) j;rw[J];exact XaK (ZkL (Int.natAbs_ediv_le_natAbs _ _)) C
def Zs6 {p q:Rat} {k m:Nat} (hp:szQ p k) (j:szQ q m):szQ (p+q) (k+m+1):=by rw[<-Zse];obtain⟨p1,C⟩:=hp;obtain⟨I,J⟩:=j;have R:=ZdL p.num q.den;have U:=ZdL q.num p.den;have h3:=ZdL (p.den:Int) q.den;have h4:=ZBj (p.num*q.den) (q.num*p.den);exact ZjF (Int.mul_pos (Zdw p) (Zdw q)) (by omega) (by omega)
def ZsB {p q:Rat} {k m:Nat} (hp:szQ p k) (j:szQ q m):szQ (p*q) (k+m):=by rw[<-Zr4];obtain⟨p1,C⟩:=hp;obtain⟨I,J⟩:=j;have R:=ZdL p.num q.num;have U:=ZdL (p.den:Int) q.den;exact ZjF (Int.mul_pos (Zdw p) (Zdw q)) (by omega) (by omega)
def Zci {p:Rat} {k m:Nat} (h:k<=m) (hp:szQ p k):szQ p m:=⟨XaK hp.1 h,XaK hp.2 h⟩
def ZE6 {q:Rat} (h:ZoL q=true):szQ q 208:=by
 obtain⟨C,I⟩:=Zmr.1 h;have j: ∀n:Nat,(decDigits n).length<=2000->(wOf n).length<=208:=λn J=>by have hd:=ZoO (ZcI n);rw[Zc3]at hd;exact ZcY.2 (Xa6 hd (ZIK (m:=250) (n:=26) 8 (by decide+kernel) J (by decide) rfl))
 refine⟨j _ C, ?_⟩;rw[ln,XaY];exact j _ I
def Zq5:szQ 0 1:=by constructor;rw[Rat.zero_num,ZDR];decide;rw[Rat.zero_den];exact ZEq.2 (by decide)
abbrev qct:CT:= .p (.p .b (.l (.i .u32))) (.p .b (.l (.i .u32)))
def Zbo (q:Rat):qct.D:=((decide (q.num<0),wOf q.num.natAbs),(decide ((q.den:Int)<0),wOf (q.den:Int).natAbs))
abbrev QL (ps:List Rat):SV:= .v (.l qct) (ps.map Zbo)
def ZCV {ps:List Rat} {i:Nat} (h:i<ps.length):(ps.map Zbo)[i]? =some (Zbo ps[i]):=by rw[XaC,Xad h];rfl
end Go.Proofs.YtplkkbcnilnfaaaGreatDoor
namespace Dv
open Go Go.Lib
def wid (m:List (List (List UInt8))):Nat:=match m with
 | []=>0
 |r::_=>r.length
def ZsM:List Rat->List Rat->Rat
 |p::ps,q::qs=>p*q+ZsM ps qs
 |_,_=>0
end Dv
namespace Go.Proofs.YtplkkbcnilnfaaaGreatDoor
open Go.Am Go.Tx Dv Go.Lib
def Zij (q:Rat):PureOK prog Zaj 73 [QR q] (λV=>V= .v (.i .i64) q.num.sign):=by refine Zad Zab func73 ?_;refine Xab rfl ?_;refine(Zya q.num).mono ?_;rintro _ rfl;rfl
def ZJG (S:Rat):List SM:=[.cell [.v .b false, .nils, .v .b false, .nils] true, .cell [.v .b (decide (S.num<0)),Zby (wOf S.num.natAbs), .v .b (decide ((S.den:Int)<0)),Zby (wOf (S.den:Int).natAbs)] true]
def ZAC (qs:List Rat):ZsM [] qs=0:=by cases qs<;>rfl
def Zv7 {ps qs:List Rat} {i:Nat} (j:i<ps.length) (C:i<qs.length):ZsM (ps.drop i) (qs.drop i)=ps[i]*qs[i]+ZsM (ps.drop (i+1)) (qs.drop (i+1)):=by rw[XaL j,XaL C,ZsM]
def ZI3 {α:Type}:List (List α)->Nat
 | []=>0
 |r::_=>r.length
def Zju:List Rat->Bool
 | []=>true
 |q::r=>match ZoL q with
  |true=>Zju r
  |false=>false
def ZoY {α β:Type} {g:α->β} {ps:List α} {out:List β} {i:Nat} (C:i<ps.length) (hlen:out.length=ps.length) (j:out.take i=(ps.map g).take i):(out.set i (g ps[i])).take (i+1)=(ps.map g).take (i+1):=by
 have I:i<out.length:=by omega
 have J:(out.set i (g ps[i])).take (i+1)=out.take i++ [g ps[i]]:=by rw[Xbr (by simpa using I),List.getElem_set_self,XbO (Xag _)]
 have hm:i<(ps.map g).length:=by simpa using C
 rw[J,Xbr hm,List.getElem_map,j]
def Zz5 (ps:List Rat) (hl:ps.length<=1000):PureOK prog Zaj 69 [QL ps] (λV=> ∃X,V= .tup [X, .v .b (Zju ps)]/\(Zju ps=true->X= .v (.l .s) (ps.map Zhf))):=by
 refine Zad Zab func69 ?_;have U:(ps.map Zbo).length=ps.length:=XaG _;have hg:=λi (h:i<ps.length)=>ZCV (ps:=ps) h;obtain⟨L,hL⟩: ∃l,ps.map Zbo=l:=⟨_,rfl⟩;rw[hL]at U hg;rw[show QL ps= .v (.l qct) L by rw[<-hL]];refine Xab (show 0<=(L.length:Int)/\(L.length:Int)<=(L.length:Int)/\(16:Int)*(L.length:Int)<=281474976710656/\(L.length:Int)<9223372036854775808 by omega) ?_;refine Zap Zab rfl (λ(t:Nat×List (List UInt8))=> [(4, .ref 0 0 ps.length none),(12, .v (.l qct) L),(13, .v (.i .i64) (L.length:Int)),(14, .v (.i .i64) (t.1:Int))]) (λt=> [.row .s t.2 true])
  (λt=>t.1<=ps.length/\t.2.length=ps.length/\t.2.take t.1=(ps.map Zhf).take t.1/\Zju (ps.drop t.1)=Zju ps) (λt=>ps.length-t.1) ?_ (0,List.replicate ps.length []) ?_ ?_
 rintro⟨i,out⟩ ⟨hi,hlen,C,j⟩;simp only at hi hlen C j;refine Xab (λh=> ?_) (λh=> ?_);have J:i<ps.length:=by have h':(i:Int)<(L.length:Int):=of_decide_eq_true h;omega
 have gx:L[(i:Int).toNat]? =some (Zbo ps[i]):=by rw[Xac];exact hg i J
 have I:=ZoY (g:=Zhf) J hlen C;have ho:i<out.length:=by omega
 have wi:i64.wrap ((i:Int)+1)=((i+1:Nat):Int):=Zat (by omega) (by omega);rw[XaL J,Zju]at j;obtain⟨q,hq⟩: ∃x,ps[i]=x:=⟨_,rfl⟩;rw[hq]at gx I j;refine⟨Zbo q,XaH i,gx, ?_⟩;refine Xab rfl ?_;refine Xab rfl ?_;refine(ZDt q).mono ?_;rintro _ ⟨X,rfl,hX⟩;obtain⟨f,hf⟩: ∃x,ZoL q=x:=⟨_,rfl⟩;rw[hf]at hX j|-;cases f with|false=>refine Xab (λ_=> ?_) (λh=>nomatch h);simp only at j;exact⟨_,by rw[<-j],λh=>by rw[<-j]at h;cases h⟩|true=>refine Xab (λh=>nomatch h) (λ_=> ?_);obtain rfl:=hX rfl;simp only at j;refine Xab ⟨XaH i,by show(i:Int)<((ps.length:Nat):Int);omega⟩ ?_;refine Exists.intro (out[i]) (Xab (by simp) ?_);refine⟨(i+1,out.set i (Zhf q)),⟨J,by show(out.set _ _).length=_;simpa using hlen,I,j⟩,by show ps.length-(i+1)<ps.length-i;omega, ?_⟩;have er:out.set i (Zhf q)=out.set (0+(i:Int).toNat) (Zhf q):=(by rw[Xac,Xak]);refine ZaH rfl rfl ?_ ?_;exact⟨⟨rfl,rfl,rfl⟩,rfl,rfl,wi.symm,trivial⟩;exact⟨⟨er,λ_=>rfl⟩,trivial⟩
 have R:i=ps.length:=by have h': ¬ (i:Int)<(L.length:Int):=of_decide_eq_false h;omega
 have ho:out=ps.map Zhf:=by rw[R,XaA (by omega),XaA (by simp)]at C;exact C
 have hf:Zju ps=true:=by rw[<-j,R,Xbt];rfl
 refine⟨by show 0+ps.length<=out.length;omega, ?_⟩;refine⟨_,by rw[hf],λ_=> ?_⟩;show SV.v (.l .s) (sub out 0 ps.length)=_;rw[ho,sub,XaV,XaA (by simp)];exact⟨Xap _,by simp,by simp,rfl⟩;have e1:ps.length=((L.length:Nat):Int).toNat:=by omega
 refine ZaH rfl rfl ?_ ?_;exact⟨⟨rfl,e1,e1⟩,rfl,rfl,rfl,trivial⟩;exact⟨⟨by rw[e1];rfl,λ_=>rfl⟩,trivial⟩
def ZIg (ps:List Rat):SV:=match Zju ps with
 |true=> .tup [.v (.l .s) (ps.map Zhf), .v (.i .i64) (0:Int)]
 |false=> .tup [.nils, .v (.i .i64) (2:Int)]
def ZpD (ps:List Rat) (j:ps.length<=1000):PureOK prog Zaj 44 [QL ps] (λV=>V=ZIg ps):=by unfold ZIg;refine Zad Zab func44 ?_;refine(Zz5 ps j).mono ?_;rintro _ ⟨X,rfl,hX⟩;cases hf:Zju ps with|false=>rw[hf]at hX;exact Xab (λ_=>rfl) (λh=>nomatch h)|true=>obtain rfl:=hX hf;exact Xab (λh=>nomatch h) (λ_=>rfl)
def ZJy (j:List (List Rat)):List (List (List UInt8)):=j.map λps=>ps.map Zhf
end Go.Proofs.YtplkkbcnilnfaaaGreatDoor
namespace Go.Tx
open Go.Am
section
variable {P:Program} {h:Hints} {T:TypeId->TI} {hp:List SM} {tm:TM}
def Zyi {α:Type} {a:List α} {x:α} {r:List α}:nth (a++x::r) a.length=some x:=by rw[ZaK,Xaz (Xag _),XbI];rfl
def ZDg {α:Type} {a:List α} {x y:α} {r:List α}:(a++x::r).set a.length y=a++y::r:=by rw[List.set_append_right _ _ (Xag _),XbI];rfl
variable {N:Nat} {ls:List Nat} {o:Oper} {l:List Oper} {i:Nat} {ks:List (Nat × Nat × Bool)} {kk:TM->List SM->Prop}
end
end Go.Tx
namespace Go.Proofs.YtplkkbcnilnfaaaGreatDoor
open Go.Am Go.Tx Dv Go.Lib
def ZyE (p:Nat) (xs:List (List qct.D)) (n i:Nat):List SV:=Zaz p (xs.take i)++List.replicate (n-i) .nils
def ZlE {α:Type} (y:List α): ∀ (p:Nat) (xs:List (List α)),Zaz p (xs++ [y])=Zaz p xs++ [.ref (xs.length+p) 0 y.length none]
 |p,[]=>by rw[Xbl,Zaz,Zaz,Zaz,XbG,Xak];rfl
 |p,x::r=>by rw[Xbs,Zaz,Zaz,ZlE y (p+1) r,Xbs,Xaq,show r.length+(p+1)=r.length+1+p by omega]
def ZAP {p:Nat} {xs:List (List qct.D)} {i:Nat} (hi:i<=xs.length):(ZyE p xs xs.length i).length=xs.length:=by rw[ZyE,Xas,ZaI,Xay,XaM];omega
def Zzn {p i:Nat} {xs:List (List qct.D)} (hi:i<xs.length):(ZyE p xs xs.length i).set i (.ref (i+p) 0 xs[i].length none)=ZyE p xs xs.length (i+1):=by
 have j:(Zaz p (xs.take i)).length=i:=by rw[ZaI,Xay];omega
 rw[ZyE,ZyE,List.set_append_right _ _ (by omega),j,XbI,show xs.length-i=(xs.length-(i+1))+1 by omega,List.replicate_succ,List.set_cons_zero,Xbr hi,ZlE,Xa2,Xay,XaQ (by omega)];rfl
def Zql (hp0:List SM) (xs:List (List qct.D)) (i:Nat):List SM:=hp0++(.many (.l qct) (ZyE (hp0.length+1) xs xs.length i) true::ZaU qct (xs.take i))
def ZzH {hp0:List SM} {xs:List (List qct.D)} {i:Nat} (hi:i<=xs.length):(Zql hp0 xs i).length=i+(hp0.length+1):=by rw[Zql,Xas,Xaq,Zaq,Xay];omega
def ZFM (xs:List (List qct.D)) (hp0:List SM) (hl:xs.length<=1000) (hr: ∀x∈xs,x.length<=1000) (h0: ∀x∈xs,x≠ []):OpenOK prog Zaj 117 [.v (.l (.l qct)) xs] hp0 (λV hp=>V= .ref hp0.length 0 xs.length none/\hp=hp0++(.many (.l qct) (Zaz (hp0.length+1) xs) true::ZaU qct xs)):=by
 refine ZbH (fn:=Tryz.f117) (code:=bodyOf Tryz.f117) Zab (by kernel_rfl) func117 (by kernel_rfl) (Xao (by kernel_rfl)) ?_;intro base;refine Xab (show 0<=(xs.length:Int)/\(xs.length:Int)<=(xs.length:Int)/\(24:Int)*(xs.length:Int)<=281474976710656/\(xs.length:Int)<9223372036854775808 by omega) ?_;refine Zap Zab rfl (λ(i:Nat)=> [(3, .ref hp0.length 0 xs.length none),(9, .v (.l (.l qct)) xs),(10, .v (.i .i64) (xs.length:Int)),(11, .v (.i .i64) (i:Int))]) (λi=>Zql hp0 xs i)
  (λi=>i<=xs.length) (λi=>xs.length-i) ?_ 0 (Xap _) ?_
 ·intro i hi;refine Xab (λh=> ?_) (λh=> ?_);·have j:i<xs.length:=(by have h':(i:Int)<(xs.length:Int):=of_decide_eq_true h;omega);have gx:xs[(i:Int).toNat]? =some xs[i]:=(by rw[Xac];exact Xad j);have C:=hr xs[i] (XaI j);have I:=h0 xs[i] (XaI j);have wi:i64.wrap ((i:Int)+1)=((i+1:Nat):Int):=Zat (by omega) (by omega);have ad:=ZAP (p:=hp0.length+1) (xs:=xs) (i:=i) (by omega);have J:=Zzn (p:=hp0.length+1) j;have aa:=ZzH (hp0:=hp0) (xs:=xs) (i:=i) (by omega);have ci:(0:Int)<=(i:Int)/\(i:Int)<(xs.length:Nat):=(by omega);have R:ZaU qct (xs.take i)++ [SM.row qct xs[i] true]=ZaU qct (xs.take (i+1)):=(by rw[Xbr j,ZaU,ZaU,Xby];rfl);obtain⟨row,U⟩: ∃x,xs[i]=x:=⟨_,rfl⟩;rw[U]at gx C I J R;cases row with|nil=>exact absurd rfl I|cons y r=>rw[Xaq]at C;refine auG ?_;refine auH ?_;refine Zac rfl (Xab (show(r.length+1)*64<=140737488355328 by omega) ?_);refine Zaa rfl rfl ?_;refine Zac rfl (Zav rfl rfl rfl rfl rfl (show nth (Zql hp0 xs i++_) _=some (.many (.l qct) (ZyE (hp0.length+1) xs xs.length i) true)from by rw[Zql,Xa2];exact Zyi) rfl ci ?_);refine Zaa rfl rfl ?_;refine Zac rfl (ZeN rfl rfl rfl (show nth (Zql hp0 xs i++_) _=some (.many (.l qct) (ZyE (hp0.length+1) xs xs.length i) true)from by rw[Zql,Xa2];exact Zyi) rfl rfl rfl (by omega) ?_);refine Zal rfl ?_;refine Zc2 ?_;refine⟨i+1,j,by show xs.length-(i+1)<xs.length-i;omega, ?_⟩;have e0:0+(i:Int).toNat=i:=(by rw[Xac,Xak]);refine Ent.eqs (hp0:=Zql hp0 xs (i+1)) ?_ (Zae ⟨rfl,rfl,rfl,congrArg (λx=>some (SV.v (.i .i64) x)) wi,trivial⟩);rw[Zql,Xa2,Xbs,ZDg,e0,Zql];show hp0++(_::(ZaU qct (xs.take i)++ [SM.row qct (y::r) true]))=_;rw[R];congr 2;rw[<-J,Xaq];show SM.many _ (List.set _ _ (.ref (Zql hp0 xs i).length 0 _ _)) _=_;rw[aa]
  have ab:i=xs.length:=(by have h': ¬ (i:Int)<(xs.length:Int):=of_decide_eq_false h;omega);refine⟨rfl, ?_⟩;show Zql hp0 xs i=_;rw[Zql,ZyE,ab,XbI,Xa3,List.replicate_zero,XaN]
 have R:((xs.length:Nat):Int).toNat=xs.length:=Xac _;refine Ent.eqs (hp0:=Zql hp0 xs 0) ?_ (Zae ⟨congrArg (λx=>some (SV.ref hp0.length 0 x none)) R,rfl,rfl,rfl,trivial⟩);show hp0++ [SM.many (.l qct) (List.replicate ((xs.length:Nat):Int).toNat .nils) true]=Zql hp0 xs 0;rw[R];rfl
def Za7 (W:Nat) (g:Nat->Rat):List qct.D:=(List.range W).map λj=>Zbo (g j)
def ZbE (n W:Nat) (f:Nat->Nat->Rat):List (List qct.D):=(List.range n).map λi=>Za7 W (f i)
section
variable {n W i j:Nat} {f g:Nat->Nat->Rat} {u v:Nat->Rat} {q:Rat}
def Za1:(Za7 W u).length=W:=by rw[Za7,XaG,Xbe]
def ZbR (C:j<W):(Za7 W u)[j]? =some (Zbo (u j)):=by rw[Za7,XaC,Xbf C];rfl
def Zgd (h: ∀j,j<W->u j=v j):Za7 W u=Za7 W v:=Xbd λj C=>by rw[h j (Xba.1 C)]
def Zhx (I:j<W):(Za7 W u).set j (Zbo q)=Za7 W (λb=>if b=j then q else u b):=by apply XaW;intro b;by_cases C:b<W;rw[ZbR C];by_cases e:j=b;subst e;rw[XaE (by rw[Za1];exact C),if_pos rfl];rw[XaD e,ZbR C,if_neg (λx=>e x.symm)];rw[Xax (by rw[XaB,Za1];omega),Xax (by rw[Za1];omega)]
def ZaA:(ZbE n W f).length=n:=by rw[ZbE,XaG,Xbe]
def Zko (hi:i<n):(ZbE n W f)[i]? =some (Za7 W (f i)):=by rw[ZbE,XaC,Xbf hi];rfl
def Zct (h:i<(ZbE n W f).length):(ZbE n W f)[i]=Za7 W (f i):=by simp only[ZbE,List.getElem_map,List.getElem_range]
def Zis (h: ∀i j,i<n->j<W->f i j=g i j):ZbE n W f=ZbE n W g:=Xbd λi hi=>Zgd λj C=>h i j (Xba.1 hi) C
def ZsD (hi:i<n):(ZbE n W f).set i (Za7 W u)=ZbE n W (λa=>if a=i then u else f a):=by apply XaW;intro b;by_cases j:b<n;rw[Zko j];by_cases e:i=b;subst e;rw[XaE (by rw[ZaA];exact j),if_pos rfl];rw[XaD e,Zko j,if_neg (λx=>e x.symm)];rw[Xax (by rw[XaB,ZaA];omega),Xax (by rw[ZaA];omega)]
def hpM (n W:Nat) (f:Nat->Nat->Rat) (ex:List SM):List SM:= .many (.l qct) (Zaz 1 (ZbE n W f)) true::([]++(ZaU qct (ZbE n W f)++ex))
def ZcP {ex:List SM} (h: ∀i j,i<n->j<W->f i j=g i j):hpM n W f ex=hpM n W g ex:=by rw[hpM,hpM,Zis h]
def Zdl {p:Nat} (hi:i<n):(Zaz p (ZbE n W f))[0+(i:Int).toNat]? =some (.ref (i+p) 0 W none):=by
 have h:i<(ZbE n W f).length:=by rw[ZaA];exact hi
 rw[Xac,Xak,ZcN h,Zct h,Za1]
def Ztv {p:Nat}:Zaz p (ZbE n W f)=Zaz p (ZbE n W g):=by
 have: ∀ (l m:List (List qct.D)) (p:Nat),l.map List.length=m.map List.length->Zaz p l=Zaz p m:=by
  intro l;induction l with
  |nil=>intro m p h;cases m with
   |nil=>rfl
   |cons _ _=>simp at h
  |cons x l j=>intro m p h;cases m with
   |nil=>simp at h
   |cons y m=>simp only[XaX,Xb3]at h;rw[Zaz,Zaz,h.1,j m (p+1) h.2]
 apply this;rw[ZbE,ZbE,XbE,XbE];exact Xbd λi _=>by simp only[Function.comp];rw[Za1,Za1]
def ZiB {ex:List SM} (hi:i<n):nth (hpM n W f ex) (i+1)=some (.row qct (Za7 W (f i)) true):=by
 have h:i<(ZbE n W f).length:=by rw[ZaA];exact hi
 rw[hpM,Zxk (fr:=[]) (p:=1) h rfl,Zct h]
def Zjn {ex:List SM} {e:Nat}:nth (hpM n W f ex) (n+1+e)=ex[e]? :=Zrv (by rw[XbG,ZaA];omega)
def Zb4 {ex:List SM}:(hpM n W f ex).length=n+1+ex.length:=by rw[hpM,Zl5,XbG,ZaA];omega
def Zf3 {ex:List SM} {x:SM}:hpM n W f ex++ [x]=hpM n W f (ex++ [x]):=Znz
def Znq {ex:List SM} {e:Nat} {x:SM}:(hpM n W f ex).set (n+1+e) x=hpM n W f (ex.set e x):=ZxK (by rw[XbG,ZaA];omega)
def ZGi (f:Nat->Nat->Rat) (i j:Nat) (q:Rat):Nat->Nat->Rat:=λa b=>if a=i/\b=j then q else f a b
def Zpx {ex:List SM} (hi:i<n) (I:j<W):(hpM n W f ex).set (i+1) (.row qct ((Za7 W (f i)).set j (Zbo q)) true)=hpM n W (ZGi f i j q) ex:=by
 have h:i<(ZbE n W f).length:=by rw[ZaA];exact hi
 rw[hpM,ZDx (fr:=[]) (p:=1) h rfl,Zhx I,Zj3,ZsD hi,hpM,Ztv (g:=ZGi f i j q)];have e:ZbE n W (λa=>if a=i then(λb=>if b=j then q else f i b)else f a)=ZbE n W (ZGi f i j q):=Zis λa b R U=>by unfold ZGi;by_cases C:a=i;subst C;by_cases J:b=j<;>simp[J];simp[C]
 rw[e]
def ZmQ {ex:List SM} (hex: ∀m∈ex,Zes m=[]): ∀m∈hpM n W f ex,∀id∈Zes m,id<(hpM n W f ex).length:=by intro m hm id hid;rw[Zb4];rw[hpM,Xbl]at hm;rcases Xau.1 hm with rfl|hm;have:=ZeM (by simpa only[Zes]using hid);rw[ZaA]at this;omega;rcases XaJ.1 hm with hm|hm;rw[ZaU]at hm;obtain⟨x,_,rfl⟩:=XaU.1 hm;simp[Zes]at hid;rw[hex m hm]at hid;exact absurd hid Xav
def ZEi {F:Nat} {tm tm':TM} {ex:List SM} {c:SM} (C:F<=n+1) (hex: ∀m∈ex,Zes m=[]) (j:ZEC (n+1+ex.length) tm tm'):Ent F tm (hpM n W f (ex++ [c])) tm' (hpM n W f ex):=by refine Ent.eqs Zf3.symm ?_;exact ZcL (by rw[Zb4];omega) (by rw[Zb4];exact j) (ZmQ hex)
def ZCn {F:Nat} {tm tm':TM} {ex:List SM} {y:SM} {e:Nat} (he:ex[e]? =some y) (R:Zes y=[]) (hF:F<=n+1) (U:ZyK (λj=>if j=n+1 then n+1+e else j) (n+2) tm tm'):Ent F tm (hpM n W f ex) tm' (hpM n W f [y]):=by
 have ad:=(Xae.1 he).1;have J:(hpM n W f [y]).length=n+2:=by rw[Zb4];rfl
 refine Zfv (λj=>if j=n+1 then n+1+e else j) ?_ ?_ ?_ ?_ (by rw[J];exact U) ?_;rw[J];omega;intro j C;exact if_neg (by omega);intro j C;rw[J]at C;rw[Zb4];show(if j=n+1 then n+1+e else j)<_;split<;>omega;·intro i j hi C h;rw[J]at hi C;have h:(if i=n+1 then n+1+e else i)=(if j=n+1 then n+1+e else j):=h;(repeat' split at h);all_goals omega
 intro j m hm;right;have aa:=(Xae.1 hm).1;rw[J]at aa;by_cases C:j=n+1;subst C;have h1:(hpM n W f [y])[n+1]? =some y:=by rw[<-ZaK];exact Zjn (e:=0)
 rw[h1]at hm;cases hm;refine⟨?_,λid hid=>by rw[R]at hid;exact absurd hid Xav⟩;show(hpM n W f ex)[if n+1=n+1 then n+1+e else n+1]? =_;rw[if_pos rfl,<-ZaK,Zjn,he,Zmh (p:=0) (λj C=>absurd C (Xa1 j)) y (λid hid=>by rw[R]at hid;exact absurd hid Xav)];have same: ∀I:List SM,(hpM n W f I)[j]? =(hpM n W f [])[j]? :=by intro I;have h1:hpM n W f I=hpM n W f []++I:=(by rw[hpM,hpM,Xbl,Xbl,XaN,Xbs]);rw[h1,Xam (by rw[Zb4];simp;omega)]
 have hb:=ZmQ (n:=n) (W:=W) (f:=f) (ex:=[y]) (λm hm=>by rw[Xat.1 hm];exact R) m (XaF hm);have ab: ∀id∈Zes m,id<n+1:=by intro id hid;rw[same [y]]at hm;have:=ZmQ (n:=n) (W:=W) (f:=f) (ex:=[]) (λm hm=>absurd hm Xav) m (XaF hm) id hid;rw[Zb4]at this;exact this
 refine⟨?_,λid hid=>hb id hid⟩;show(hpM n W f ex)[if j=n+1 then n+1+e else j]? =_;rw[if_neg C,same ex,<-same [y],hm,Zmh (p:=n+1) (λj C=>if_neg (by omega)) m ab]
end
def cxR:Cx:=⟨103,0,174⟩
def ZH3 {q:Rat} (h:decide (q.num.sign=0)=true):q=0:=Rat.num_eq_zero.1 (Int.sign_eq_zero_iff_zero.1 (of_decide_eq_true h))
def ZJI {q:Rat} (h:decide (q.num.sign=0)=false):q≠0:=λe=>by subst e;cases h
def Zmj {W k:Nat} {u:Nat->Rat} (h:k<W):(Za7 W u)[0+(k:Int).toNat]? =some (Zbo (u k)):=by rw[Xac,Xak];exact ZbR h
def vA (n j m k q:Nat):TM:=[(0, .ref 0 0 n none),(1,nt j),(6, .ref (n+1) 0 m none),(7,nt k),(8,nt m),(9,nt q)]
def ZIQ (n W j m k:Nat) (f:Nat->Nat->Rat) (ex:List SM) (hn:n<=1000) (hm:m<=n) (hk:k<W):
 LoopOK prog Zaj 0 cxR (Za6 Tryz.f103 8) (vA n j m k m) (hpM n W f ex)
 (λe tm hp=>e= .exit 2/\ ∃q,m<=q/\q<=n/\(∀i,m<=i->i<q->f i k=0)/\(q<n->f q k≠0)/\tm=vA n j m k q/\hp=hpM n W f ex):=by refine LoopOK.through (k:=λe tm hp=>e= .exit 2/\ ∃q,m<=q/\q<=n/\(∀i,m<=i->i<q->f i k=0)/\(q<n->f q k≠0)/\Ent 0 tm hp (vA n j m k q) (hpM n W f ex)) ?_ (by rintro e tm hp ⟨rfl,q,h1,U,h3,h4,h5⟩;exact⟨_,_,h5,rfl,q,h1,U,h3,h4,rfl,rfl⟩);refine Zap Zab rfl (vA n j m k) (λ_=>hpM n W f ex) (λq=>m<=q/\q<=n/\ ∀i,m<=i->i<q->f i k=0) (λq=>n-q) ?_ m ⟨Xag _,hm,λi h1 U=>absurd U (by omega)⟩ Zar;rintro q ⟨h1,U,h3⟩;have hA:nth (hpM n W f ex) 0=some (.many (.l qct) (Zaz 1 (ZbE n W f)) true):=rfl;cases I:decide ((q:Int)<(n:Int))with|false=>have hq:q=n:=(by have:=of_decide_eq_false I;omega);refine auG ?_;refine brF I ?_;exact⟨rfl,q,h1,U,h3,λh=>absurd h (by omega),Zae ⟨rfl,rfl,rfl,rfl,rfl,rfl,trivial⟩⟩|true=>have R:q<n:=(by have:=of_decide_eq_true I;omega);have cq:=cin R;have ck:=cin hk;have aa:=Zdl (W:=W) (f:=f) (p:=1) R;have C:=ZiB (W:=W) (f:=f) (ex:=ex) R;have J:=Zmj (u:=f q) hk;have hS:=Zij (f q k);cases hz:decide ((f q k).num.sign=0)with|true=>refine auH ?_;refine ZaX rfl rfl rfl I (Zav rfl rfl rfl rfl rfl hA rfl cq ?_);refine Zaa rfl rfl ?_;refine ZaX rfl rfl rfl I (ZaG rfl rfl hA aa rfl ?_);refine Zaa rfl rfl ?_;refine Zfu I ?_;refine ZaX rfl rfl rfl I (Zam rfl rfl rfl rfl rfl C rfl ck ?_);refine Zaa rfl rfl ?_;refine ZaX rfl rfl rfl I (Zau (V:=QR (f q k)) rfl rfl C J rfl ?_);refine Zaa rfl rfl ?_;refine auN ?_;refine brT hz ?_;refine⟨q+1,⟨by omega,R,λi g1 g2=> ?_⟩,by show n-(q+1)<n-q;omega, ?_⟩;by_cases e:i=q;rw[e];exact ZH3 hz;exact h3 i g1 (by omega);exact Zae ⟨rfl,rfl,rfl,rfl,rfl,congrArg (λx=>some (SV.v (.i .i64) x)) (Zbd (by omega)),trivial⟩|false=>refine auH ?_;refine ZaX rfl rfl rfl I (Zav rfl rfl rfl rfl rfl hA rfl cq ?_);refine Zaa rfl rfl ?_;refine ZaX rfl rfl rfl I (ZaG rfl rfl hA aa rfl ?_);refine Zaa rfl rfl ?_;refine Zfu I ?_;refine ZaX rfl rfl rfl I (Zam rfl rfl rfl rfl rfl C rfl ck ?_);refine Zaa rfl rfl ?_;refine ZaX rfl rfl rfl I (Zau (V:=QR (f q k)) rfl rfl C J rfl ?_);refine Zaa rfl rfl ?_;refine auN ?_;refine brF hz ?_;exact⟨rfl,q,h1,U,h3,λ_=>ZJI hz,Zae ⟨rfl,rfl,rfl,rfl,rfl,rfl,trivial⟩⟩
abbrev cQ (d:Rat):SM:= .cell (Zbr (QR d)) true
def fB (f:Nat->Nat->Rat) (m:Nat) (d:Rat) (j:Nat):Nat->Nat->Rat:=λa b=>if a=m/\b<j then f a b/d else f a b
def vB (n C m k j:Nat):TM:=[(0, .ref 0 0 n none),(1,nt C),(6, .ref (n+1) 0 m none),(7,nt k),(8,nt m),(10, .ptr (n+2) 0 0),(11,nt j)]
def ZIV (n W I m k K:Nat) (f:Nat->Nat->Rat) (d:Rat) (pv:SM) (hn:n<=1000) (hW:W<=1000) (hm:m<n) (hk:k<=W) (hK:K<=100000000) (hd:d≠0) (sd:szQ d K) (sf: ∀j,j<W->szQ (f m j) K) (h0: ∀j,j<k->f m j=0):
 LoopOK prog Zaj 0 cxR (Za6 Tryz.f103 14) (vB n I m k k) (hpM n W f [pv,cQ d])
 (λe tm hp=>e= .exit 4/\tm=vB n I m k W/\hp=hpM n W (fB f m d W) [pv,cQ d]):=by refine LoopOK.through (k:=λe tm hp=>e= .exit 4/\Ent 0 tm hp (vB n I m k W) (hpM n W (fB f m d W) [pv,cQ d])) ?_ (by rintro e tm hp ⟨rfl,h5⟩;exact⟨_,_,h5,rfl,rfl,rfl⟩);refine Zap Zab rfl (vB n I m k) (λj=>hpM n W (fB f m d j) [pv,cQ d]) (λj=>k<=j/\j<=W) (λj=>W-j) ?_ k ⟨Xag _,hk⟩ (Ent.eqs (ZcP λa b _ _=>by unfold fB;by_cases h:a=m/\b<k;rw[if_pos h,h.1,h0 b h.2];grind;rw[if_neg h]) Zar);rintro j ⟨U,h2⟩;have hA:nth (hpM n W (fB f m d j) [pv,cQ d]) 0=some (.many (.l qct) (Zaz 1 (ZbE n W (fB f m d j))) true):=rfl;have cm:=cin hm;have aa:=Zdl (W:=W) (f:=fB f m d j) (p:=1) hm;cases hc:decide ((j:Int)<(W:Int))with|false=>have hj:j=W:=(by have:=of_decide_eq_false hc;omega);refine auH ?_;refine Zac rfl (Zav rfl rfl rfl rfl rfl hA rfl cm ?_);refine Zaa rfl rfl ?_;refine Zac rfl (ZaG rfl rfl hA aa rfl ?_);refine Zaa rfl rfl ?_;refine auN ?_;refine brF hc ?_;subst hj;exact⟨rfl,Zae ⟨rfl,rfl,rfl,rfl,rfl,rfl,rfl,trivial⟩⟩|true=>have R:j<W:=(by have:=of_decide_eq_true hc;omega);have cj:=cin R;have J:=ZiB (W:=W) (f:=fB f m d j) (ex:=[pv,cQ d]) hm;have hv:fB f m d j m j=f m j:=if_neg λh=>absurd h.2 (Nat.lt_irrefl j);have C:=Zmj (u:=fB f m d j m) R;rw[hv]at C;have ab:nth (hpM n W (fB f m d j) [pv,cQ d]) (n+2)=some (cQ d):=Zjn (e:=1);have hD:=ZFy (f m j) d hK (sf j R) sd hd;refine auH ?_;refine Zac rfl (Zav rfl rfl rfl rfl rfl hA rfl cm ?_);refine Zaa rfl rfl ?_;refine Zac rfl (ZaG rfl rfl hA aa rfl ?_);refine Zaa rfl rfl ?_;refine auN ?_;refine brT hc ?_;refine auH ?_;refine Zac rfl (Zav rfl rfl rfl rfl rfl hA rfl cm ?_);refine Zaa rfl rfl ?_;refine Zac rfl (ZaG rfl rfl hA aa rfl ?_);refine Zaa rfl rfl ?_;refine auM ?_;refine Zac rfl (Zav rfl rfl rfl rfl rfl hA rfl cm ?_);refine Zaa rfl rfl ?_;refine Zac rfl (ZaG rfl rfl hA aa rfl ?_);refine Zaa rfl rfl ?_;refine ZfJ ?_;refine Zac rfl (Zam rfl rfl rfl rfl rfl J rfl cj ?_);refine Zaa rfl rfl ?_;refine Zac rfl (Zau (V:=QR (f m j)) rfl rfl J C rfl ?_);refine Zaa rfl rfl ?_;refine Zac rfl (ZaZ (V:=QR d) rfl rfl ab rfl rfl ?_);refine Zaa rfl rfl ?_;refine Zac rfl ((hD).mono ?_);rintro _ rfl;refine Zaa rfl rfl ?_;refine Zac rfl (Zam rfl rfl rfl rfl rfl J rfl cj ?_);refine Zaa rfl rfl ?_;refine Zac rfl (Za8 (z:=Zbo (f m j/d)) rfl rfl rfl J rfl C rfl rfl rfl ?_);refine Zal rfl ?_;refine Zc2 ?_;refine⟨j+1,⟨by omega,R⟩,by show W-(j+1)<W-j;omega, ?_⟩;refine Ent.eqs (hp0:=hpM n W (fB f m d (j+1)) [pv,cQ d]) ?_ (Zae ⟨rfl,rfl,rfl,rfl,rfl,rfl,congrArg (λx=>some (SV.v (.i .i64) x)) (Zbd (by omega)),trivial⟩);have e0:0+(j:Int).toNat=j:=(by rw[Xac,Xak]);rw[e0];refine(Zpx hm R).trans (ZcP λa b _ _=> ?_);unfold ZGi fB;by_cases U:a=m;by_cases h2:b=j;rw[if_pos ⟨U,h2⟩,if_pos ⟨U,by omega⟩,U,h2];rw[if_neg λh=>h2 h.2];by_cases h3:b<j;rw[if_pos ⟨U,h3⟩,if_pos ⟨U,by omega⟩];rw[if_neg λh=>h3 h.2,if_neg λh=>h3 (by omega)];rw[if_neg λh=>U h.1,if_neg λh=>U h.1,if_neg λh=>U h.1]
def fC (f g:Nat->Nat->Rat) (i j:Nat):Nat->Nat->Rat:=λa b=>if a<i\/(a=i/\b<j)then g a b else f a b
def vC (n C m k i j:Nat):TM:=[(0, .ref 0 0 n none),(1,nt C),(6, .ref (n+1) 0 m none),(7,nt k),(8,nt m),(12,nt i),(13, .ptr (n+3) 0 0),(14,nt j),(100,nt n),(101,nt i)]
def ZIj (n W U m k i K:Nat) (f g:Nat->Nat->Rat) (d:SM) (pv:SM) (hn:n<=1000) (hW:W<=1000) (hm:m<n) (hi:i<n) (al:i≠m) (hk:k<W) (hK:K<=50000000) (sf: ∀a j,a<n->j<W->szQ (f a j) K)
 (h0: ∀j,j<k->f m j=0) (ai: ∀j,j<W->g m j=f m j) (hg: ∀j,j<W->g i j=f i j-f i k*f m j):
 LoopOK prog Zaj 0 cxR (Za6 Tryz.f103 23) (vC n U m k i k) (hpM n W (fC f g i 0) [pv,d,cQ (f i k)])
 (λe tm hp=>e= .exit 8/\tm=vC n U m k i W/\hp=hpM n W (fC f g (i+1) 0) [pv,d,cQ (f i k)]):=by
 obtain⟨c,ec⟩: ∃x,f i k=x:=⟨_,rfl⟩;rw[ec]at hg|-;have sc:szQ c K:=by rw[<-ec];exact sf i k hi hk
 have ag:hpM n W (fC f g i W) [pv,d,cQ c]=hpM n W (fC f g (i+1) 0) [pv,d,cQ c]:=ZcP λa b _ hb=>by unfold fC;by_cases h1:a<i;rw[if_pos (.inl h1),if_pos (.inl (by omega))];by_cases h2:a=i;rw[if_pos (.inr ⟨h2,hb⟩),if_pos (.inl (by omega))];rw[if_neg (by omega),if_neg (by omega)]
 have ad:hpM n W (fC f g i 0) [pv,d,cQ c]=hpM n W (fC f g i k) [pv,d,cQ c]:=ZcP λa b _ hb=>by unfold fC;by_cases h1:a<i;rw[if_pos (.inl h1),if_pos (.inl h1)];rw[if_neg (by omega)];by_cases h2:a=i/\b<k;rw[if_pos (.inr h2),h2.1,hg b hb,h0 b h2.2];grind;rw[if_neg (by omega)]
 refine LoopOK.through (k:=λe tm hp=>e= .exit 8/\Ent 0 tm hp (vC n U m k i W) (hpM n W (fC f g i W) [pv,d,cQ c])) ?_ (by rintro e tm hp ⟨rfl,h5⟩;exact⟨_,_,h5,rfl,rfl,ag⟩);refine Zap Zab rfl (vC n U m k i) (λj=>hpM n W (fC f g i j) [pv,d,cQ c]) (λj=>k<=j/\j<=W) (λj=>W-j) ?_ k ⟨Xag _,by omega⟩ (Ent.eqs ad Zar);rintro j ⟨h1,h2⟩;obtain⟨F,eF⟩: ∃x,fC f g i j=x:=⟨_,rfl⟩;have hA:nth (hpM n W F [pv,d,cQ c]) 0=some (.many (.l qct) (Zaz 1 (ZbE n W F)) true):=rfl;have cm:=cin hm;have ci:=cin hi;have ae:=Zdl (W:=W) (f:=F) (p:=1) hi;have ab:=Zdl (W:=W) (f:=F) (p:=1) hm;have Fn: ∀V,V=hpM n W (fC f g i j) [pv,d,cQ c]->V=hpM n W F [pv,d,cQ c]:=λV h=>by rw[<-eF];exact h
 rw[eF];cases hc:decide ((j:Int)<(W:Int))with
 |false=>have hj:j=W:=(by have:=of_decide_eq_false hc;omega);refine auH ?_;refine Zac rfl (Zav rfl rfl rfl rfl rfl hA rfl ci ?_);refine Zaa rfl rfl ?_;refine Zac rfl (ZaG rfl rfl hA ae rfl ?_);refine Zaa rfl rfl ?_;refine auN ?_;refine brF hc ?_;subst hj;rw[eF];exact⟨rfl,Zae ⟨rfl,rfl,rfl,rfl,rfl,rfl,rfl,rfl,rfl,rfl,trivial⟩⟩
 |true=>
  have J:j<W:=(by have:=of_decide_eq_true hc;omega);have cj:=cin J;have aa:=ZiB (W:=W) (f:=F) (ex:=[pv,d,cQ c]) hi;have I:=ZiB (W:=W) (f:=F) (ex:=[pv,d,cQ c]) hm;have hv:F i j=f i j:=(by rw[<-eF];exact if_neg (by omega));have aj:F m j=f m j:=(by rw[<-eF];show(if _ then _ else _)=_;split;exact ai j J;rfl);have R:=Zmj (u:=F i) J;have C:=Zmj (u:=F m) J;rw[hv]at R;rw[aj]at C;have ak:nth (hpM n W F [pv,d,cQ c]) (n+3)=some (cQ c):=Zjn (e:=2);have hS:=Zij (f m j);have af:=hg j J;obtain⟨y,ey⟩: ∃x,f m j=x:=⟨_,rfl⟩;obtain⟨x,ex⟩: ∃x,f i j=x:=⟨_,rfl⟩;have sx:szQ x K:=(by rw[<-ex];exact sf i j hi J);have sy:szQ y K:=(by rw[<-ey];exact sf m j hm J);rw[ey]at C hS af;rw[ex]at R af;have hMul:=Zr6 c y (k:=K) (by omega) sc sy;have hSub:=Zph x (c*y) (k:=K+K) (by omega) (Zci (by omega) sx) (ZsB sc sy);have next: ∀a b,a<n->b<W->(if a=i/\b=j then g i j else F a b)=fC f g i (j+1) a b:=λa b _ _=>by rw[<-eF];unfold fC;by_cases h1:a=i/\b=j;rw[if_pos h1,if_pos (.inr (by omega)),h1.1,h1.2];rw[if_neg h1];by_cases h2:a<i\/(a=i/\b<j);rw[if_pos h2,if_pos (by omega)];rw[if_neg h2,if_neg (by omega)]
  refine auH ?_;refine Zac rfl (Zav rfl rfl rfl rfl rfl hA rfl ci ?_);refine Zaa rfl rfl ?_;refine Zac rfl (ZaG rfl rfl hA ae rfl ?_);refine Zaa rfl rfl ?_;refine auN ?_;refine brT hc ?_;cases hz:decide (y.num.sign=0)with|true=>have ah:(!decide (y.num.sign=0))=false:=(by rw[hz];rfl);have y0:=ZH3 hz;refine auH ?_;refine Zac rfl (Zav rfl rfl rfl rfl rfl hA rfl cm ?_);refine Zaa rfl rfl ?_;refine Zac rfl (ZaG rfl rfl hA ab rfl ?_);refine Zaa rfl rfl ?_;refine ZfJ ?_;refine Zac rfl (Zam rfl rfl rfl rfl rfl I rfl cj ?_);refine Zaa rfl rfl ?_;refine Zac rfl (Zau (V:=QR y) rfl rfl I C rfl ?_);refine Zaa rfl rfl ?_;refine auN ?_;refine Xab (λh=>by first|(cases h;done)|exact(nf h ah).elim) (λ_=> ?_);refine⟨j+1,⟨by omega,J⟩,by show W-(j+1)<W-j;omega, ?_⟩;refine Ent.eqs (hp0:=hpM n W (fC f g i (j+1)) [pv,d,cQ c]) ?_ (Zae ⟨rfl,rfl,rfl,rfl,rfl,rfl,rfl,congrArg (λx=>some (SV.v (.i .i64) x)) (Zbd (by omega)),rfl,rfl,trivial⟩);refine ZcP λa b ha hb=> ?_;rw[<-next a b ha hb];split;rename_i h;rw[h.1,h.2,af,y0,hv,ex];grind;rfl|false=>have ah:(!decide (y.num.sign=0))=true:=(by rw[hz];rfl);refine auH ?_;refine Zac rfl (Zav rfl rfl rfl rfl rfl hA rfl cm ?_);refine Zaa rfl rfl ?_;refine Zac rfl (ZaG rfl rfl hA ab rfl ?_);refine Zaa rfl rfl ?_;refine ZfJ ?_;refine Zac rfl (Zam rfl rfl rfl rfl rfl I rfl cj ?_);refine Zaa rfl rfl ?_;refine Zac rfl (Zau (V:=QR y) rfl rfl I C rfl ?_);refine Zaa rfl rfl ?_;refine auN ?_;refine Xab (λ_=> ?_) (λh=>by first|(cases h;done)|exact(nf ah h).elim);refine auH ?_;refine Zac rfl (Zav rfl rfl rfl rfl rfl hA rfl ci ?_);refine Zaa rfl rfl ?_;refine Zac rfl (ZaG rfl rfl hA ae rfl ?_);refine Zaa rfl rfl ?_;refine auM ?_;refine Zac rfl (Zav rfl rfl rfl rfl rfl hA rfl ci ?_);refine Zaa rfl rfl ?_;refine Zac rfl (ZaG rfl rfl hA ae rfl ?_);refine Zaa rfl rfl ?_;refine ZfJ ?_;refine Zac rfl (Zam rfl rfl rfl rfl rfl aa rfl cj ?_);refine Zaa rfl rfl ?_;refine Zac rfl (Zau (V:=QR x) rfl rfl aa R rfl ?_);refine Zaa rfl rfl ?_;refine Zac rfl (ZaZ (V:=QR c) rfl rfl ak rfl rfl ?_);refine Zaa rfl rfl ?_;refine auM ?_;refine Zac rfl (Zav rfl rfl rfl rfl rfl hA rfl cm ?_);refine Zaa rfl rfl ?_;refine Zac rfl (ZaG rfl rfl hA ab rfl ?_);refine Zaa rfl rfl ?_;refine ZfJ ?_;refine Zac rfl (Zam rfl rfl rfl rfl rfl I rfl cj ?_);refine Zaa rfl rfl ?_;refine Zac rfl (Zau (V:=QR y) rfl rfl I C rfl ?_);refine Zaa rfl rfl ?_;refine auM ?_;refine Zac rfl (Zam rfl rfl rfl rfl rfl aa rfl cj ?_);refine Zaa rfl rfl ?_;refine Zac rfl (Za8 (z:=Zbo (x-c*y)) rfl rfl rfl aa rfl R rfl rfl rfl ?_);refine Zal rfl ?_;refine Zc2 ?_;refine⟨j+1,⟨by omega,J⟩,by show W-(j+1)<W-j;omega, ?_⟩;refine Ent.eqs (hp0:=hpM n W (fC f g i (j+1)) [pv,d,cQ c]) ?_ (Zae ⟨rfl,rfl,rfl,rfl,rfl,rfl,rfl,congrArg (λx=>some (SV.v (.i .i64) x)) (Zbd (by omega)),rfl,rfl,trivial⟩);have e0:0+(j:Int).toNat=j:=(by rw[Xac,Xak]);rw[e0];refine(Zpx hi J).trans (ZcP λa b ha hb=> ?_);rw[<-next a b ha hb,af];rfl
def vD (n j m k i:Nat):TM:=[(0, .ref 0 0 n none),(1,nt j),(6, .ref (n+1) 0 m none),(7,nt k),(8,nt m),(100,nt n),(101,nt i)]
def ZIB (n W aa m k K:Nat) (f g:Nat->Nat->Rat) (d:SM) (pv:SM) (hn:n<=1000) (hW:W<=1000) (hm:m<n) (hk:k<W) (hK:K<=50000000) (sf: ∀a j,a<n->j<W->szQ (f a j) K) (ak:Zes pv=[]) (al:Zes d=[])
 (h0: ∀j,j<k->f m j=0) (ag: ∀j,j<W->g m j=f m j) (hg: ∀i j,i<n->i≠m->j<W->g i j=f i j-f i k*f m j):
 LoopOK prog Zaj 0 cxR (Za6 Tryz.f103 18) (vD n aa m k 0) (hpM n W f [pv,d])
 (λe tm hp=>e= .exit 6/\tm=vD n aa m k n/\hp=hpM n W g [pv,d]):=by
 have ad:hpM n W f [pv,d]=hpM n W (fC f g 0 0) [pv,d]:=ZcP λa b _ _=>(if_neg (by omega)).symm;have ah:hpM n W (fC f g n 0) [pv,d]=hpM n W g [pv,d]:=ZcP λa b ha _=>if_pos (.inl ha);refine LoopOK.through (k:=λe tm hp=>e= .exit 6/\Ent 0 tm hp (vD n aa m k n) (hpM n W (fC f g n 0) [pv,d])) ?_ (by rintro e tm hp ⟨rfl,h5⟩;exact⟨_,_,h5,rfl,rfl,ah⟩);refine Zap Zab rfl (vD n aa m k) (λi=>hpM n W (fC f g i 0) [pv,d]) (λi=>i<=n) (λi=>n-i) ?_ 0 (Xap _) (Ent.eqs ad Zar);intro i hi;cases hc:decide ((i:Int)<(n:Int))with
 |false=>have an:i=n:=(by have:=of_decide_eq_false hc;omega);refine auG ?_;refine brF hc ?_;subst an;exact⟨rfl,Zae ⟨rfl,rfl,rfl,rfl,rfl,rfl,rfl,trivial⟩⟩
 |true=>
  have U:i<n:=(by have:=of_decide_eq_true hc;omega);have same:(∀j,j<W->g i j=f i j)->hpM n W (fC f g i 0) [pv,d]=hpM n W (fC f g (i+1) 0) [pv,d]:=λh=>ZcP λa b _ hb=>(by unfold fC;by_cases h1:a<i;rw[if_pos (.inl h1),if_pos (.inl (by omega))];rw[if_neg (by omega)];by_cases h2:a=i;rw[if_pos (.inl (by omega)),h2,h b hb];rw[if_neg (by omega)]);have C:=λab=>ZIj n W aa m k i K f g d pv hn hW hm U ab hk hK sf h0 ag (λj hj=>hg i j U ab hj);obtain⟨F,eF⟩: ∃x,fC f g i 0=x:=⟨_,rfl⟩;have hv:F i k=f i k:=(by rw[<-eF];exact if_neg (by omega));rw[eF]at same C|-;have hA:nth (hpM n W F [pv,d]) 0=some (.many (.l qct) (Zaz 1 (ZbE n W F)) true):=rfl;have ci:=cin U;have ck:=cin hk;have ae:=Zdl (W:=W) (f:=F) (p:=1) U;have R:=ZiB (W:=W) (f:=F) (ex:=[pv,d]) U;have J:=Zmj (u:=F i) hk;rw[hv]at J;have hS:=Zij (f i k);refine auG ?_;refine brT hc ?_;refine auG ?_;cases I:decide ((i:Int)=(m:Int))with
  |true=>have ab:i=m:=(by have:=of_decide_eq_true I;omega);refine auG ?_;refine brT rfl ?_;refine⟨i+1,U,by show n-(i+1)<n-i;omega, ?_⟩;exact Ent.eqs (same λj hj=>by rw[ab];exact ag j hj) (Zae ⟨rfl,rfl,rfl,rfl,rfl,rfl,congrArg (λx=>some (SV.v (.i .i64) x)) (Zbd (by omega)),trivial⟩)
  |false=>
   have ab:i≠m:=(by have:=of_decide_eq_false I;omega);have C:=C ab;have ai:=λj hj=>hg i j U ab hj;obtain⟨c,ec⟩: ∃x,f i k=x:=⟨_,rfl⟩;rw[ec]at J hS ai C;cases hz:decide (c.num.sign=0)with
   |true=>have c0:=ZH3 hz;refine auH ?_;refine ZaX rfl rfl rfl I (Zav rfl rfl rfl rfl rfl hA rfl ci ?_);refine Zaa rfl rfl ?_;refine ZaX rfl rfl rfl I (ZaG rfl rfl hA ae rfl ?_);refine Zaa rfl rfl ?_;refine Zfu I ?_;refine ZaX rfl rfl rfl I (Zam rfl rfl rfl rfl rfl R rfl ck ?_);refine Zaa rfl rfl ?_;refine ZaX rfl rfl rfl I (Zau (V:=QR c) rfl rfl R J rfl ?_);refine Zaa rfl rfl ?_;refine auN ?_;refine brT hz ?_;refine⟨i+1,U,by show n-(i+1)<n-i;omega, ?_⟩;exact Ent.eqs (same λj hj=>by rw[ai j hj,c0];grind) (Zae ⟨rfl,rfl,rfl,rfl,rfl,rfl,congrArg (λx=>some (SV.v (.i .i64) x)) (Zbd (by omega)),trivial⟩)
   |false=>
    have af: ∀c:SM,nth (hpM n W F ([pv,d]++ [c])) (hpM n W F [pv,d]).length=some c:=λc=>by rw[Zb4];exact Zjn (e:=2)
    refine auH ?_;refine ZaX rfl rfl rfl I (Zav rfl rfl rfl rfl rfl hA rfl ci ?_);refine Zaa rfl rfl ?_;refine ZaX rfl rfl rfl I (ZaG rfl rfl hA ae rfl ?_);refine Zaa rfl rfl ?_;refine Zfu I ?_;refine ZaX rfl rfl rfl I (Zam rfl rfl rfl rfl rfl R rfl ck ?_);refine Zaa rfl rfl ?_;refine ZaX rfl rfl rfl I (Zau (V:=QR c) rfl rfl R J rfl ?_);refine Zaa rfl rfl ?_;refine auN ?_;refine brF hz ?_;refine auH ?_;refine Zac rfl (Zav rfl rfl rfl rfl rfl hA rfl ci ?_);refine Zaa rfl rfl ?_;refine Zac rfl (ZaG rfl rfl hA ae rfl ?_);refine Zaa rfl rfl ?_;refine ZfJ ?_;refine Zac rfl (Zam rfl rfl rfl rfl rfl R rfl ck ?_);refine Zaa rfl rfl ?_;refine Zac rfl (Zau (V:=QR c) rfl rfl R J rfl ?_);refine Zaa rfl rfl ?_;refine ZIU ?_;refine ZcW Zf3 ?_;refine Zac rfl (Zay rfl rfl rfl (af _) rfl rfl rfl rfl ?_);refine Zal rfl ?_;refine Zc2 ?_;refine auG ?_;have ao:(hpM n W F [pv,d]).length=n+3:=Zb4;have aj: ∀x y:SM,(hpM n W F ([pv,d]++ [x])).set (hpM n W F [pv,d]).length y=hpM n W F [pv,d,y]:=λx y=>by rw[Zb4];exact Znq (e:=2)
    refine(C.ent ?_).mono ?_;exact Ent.eqs (aj _ _) (Zae ⟨rfl,rfl,rfl,rfl,rfl,rfl,congrArg (λx=>some (SV.ptr x 0 0)) ao,rfl,rfl,rfl,trivial⟩);rintro _ _ _ ⟨rfl,rfl,rfl⟩;refine⟨i+1,U,by show n-(i+1)<n-i;omega, ?_⟩;refine ZEi (ex:=[pv,d]) (Xap _) (λx hx=> ?_) ⟨rfl,ZaQ (by omega),rfl,ZaJ,rfl,ZaQ (by show n+1<n+1+2;omega),rfl,ZaJ,rfl,ZaJ,rfl,ZaJ,congrArg (λx=>some (SV.v (.i .i64) x)) (Zbd (by omega)),ZaJ,trivial⟩;rcases Xau.1 hx with rfl|hx;exact ak;rw[Xat.1 hx];exact al
end Go.Proofs.YtplkkbcnilnfaaaGreatDoor
