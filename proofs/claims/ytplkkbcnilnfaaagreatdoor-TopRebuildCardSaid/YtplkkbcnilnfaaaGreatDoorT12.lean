/- large.divWords: the loop that guesses a digit of the quotient. -/
import Derived.Test.YtplkkbcnilnfaaaGreatDoorTxA
set_option linter.all false
set_option maxHeartbeats 16000000
set_option maxRecDepth 100000
open Go.IntKind(i64 u64)
namespace Go.Proofs.YtplkkbcnilnfaaaGreatDoor
open Go.Am Go.Tx Dv
def dB (a b:List Int) (n m s:Nat) (k:Int):TM:=[(0,Zby a),(1,Zby b),(4, .ref 2 0 (m-n+1) none),(8, .v (.i .i64) (s:Int)),(9, .ref 0 0 (m+1) none),(10, .ref 1 0 n (some (n+1))),(11, .v (.i .i64) (n:Int)),(12, .v (.i .i64) k)]
def dH (u V q:List Int):List SM:=[.row (.i .u32) u true, .row (.i .u32) V true, .row (.i .u32) q true]
def gC (a b:List Int) (n m s j:Nat) (top:Int) (t:Int×Int):TM:=[(13, .v (.i .u64) top),(14, .v (.i .u64) t.1),(15, .v (.i .u64) t.2)]++dB a b n m s (j:Int)
def nf {b:Bool} (h:b=true) (j:b=false):False:=by rw[h]at j;cases j
def ZvF (a b u V q:List Int) (n m s j:Nat) (top D U P U' V' v1 v2 u2:Int) (hn:2<=n) (hm:m<=1000000000) (hj:j+n<=m) (a6:n<=m) (hu:u.length=m+1) (hV:V.length=n+1)
 (ag:V[n-1]? =some v1) (au:V[n-2]? =some v2) (av:u[j+n-2]? =some u2) (hP:0<P) (eD:D=(v1*4294967296+v2)*P+V') (J:0<=V') (ae:V'<P) (b1:2147483648<=v1) (aw:v1<4294967296) (b2:0<=v2) (ah:v2<4294967296)
 (eU:U=(top*4294967296+u2)*P+U') (af:0<=U') (ai:U'<P) (c0:0<=u2) (c1:u2<4294967296) (ax:0<=top) (ht:top<(v1+1)*4294967296) (ay:U<D*4294967296):
 LoopOK Tryz.prog Zaj 0 ⟨114,0,275⟩ (Za6 Tryz.f114 15) (gC a b n m s j top (top/v1,top % v1)) (dH u V q)
 (λe tm hp=>e= .exit 2/\ ∃g rest:Int,(0<=g/\g<4294967296/\U<g*D+D/\g*D-D<=U)/\Ent 0 tm hp (gC a b n m s j top (g,rest)) (dH u V q)):=by
 have hD:0<D:=by have h1:0<(v1*4294967296+v2)*P:=Int.mul_pos (by omega) hP;omega
 have aj:0<=U:=by have h1:0<=(top*4294967296+u2)*P:=XbL (by omega) (by omega);omega
 have hq:=Xbi U D;have a7:=Int.emod_nonneg U (show D≠0 by omega);have a8:=Int.emod_lt_of_pos U hD;have ak:(U/D)*D<=U:=by rw[Int.mul_comm];omega
 have az:0<=U/D:=Int.ediv_nonneg aj (by omega);have up: ∀g:Int,U/D<=g->U<g*D+D:=λg hg=>by have:=Xa0 hg (show 0<=D by omega);rw[Int.mul_comm (U/D) D]at this;omega
 refine Zap Zab rfl (gC a b n m s j top) (λ_=>dH u V q)
  (λt=>0<=t.1/\t.1<=4294967297/\t.1*v1+t.2=top/\0<=t.2/\t.2<4294967296/\U/D<=t.1) (λt=>t.1.toNat) ?_ (top/v1,top % v1) ?_ Zar
 ·rintro⟨g,rest⟩ ⟨R,a1,ab,al,an,ao⟩;simp only at R a1 ab al an ao;have e2:i64.wrap ((n:Int)-2)=((n-2:Nat):Int):=(by rw[Zat (by omega) (by omega)];omega);have e1:i64.wrap ((n:Int)-1)=((n-1:Nat):Int):=(by rw[Zat (by omega) (by omega)];omega);have e3:i64.wrap (i64.wrap ((j:Int)+(n:Int))-2)=((j+n-2:Nat):Int):=(by rw[Zat (x:=(j:Int)+(n:Int)) (by omega) (by omega),Zat (by omega) (by omega)];omega);have w1:u64.wrap v1=v1:=Zas (by omega) (by omega);have nxt: ∀ (aa:4294967296<=g\/(g<4294967296/\rest*4294967296+u2<g*v2)),1<=g/\U/D<=g-1/\(g-1)*v1+(rest+v1)=top:=by intro aa;have h3:U/D<g:=(by rcases aa with h|⟨_,h⟩;have:U/D<4294967296:=Int.ediv_lt_of_lt_mul hD (by rw[Int.mul_comm];exact ay);omega;exact ZtY hP eD J hD eU ai R ab h ak);refine⟨by omega,by omega, ?_⟩;rw[<-ab];grind
  have hE: ∀g:Int,u64.wrap (g-1)=g-1\/True:=λ_=> .inr trivial
  cases I:decide (4294967296<=g)with|true=>have aq:4294967296<=g:=of_decide_eq_true I;refine Zbi (Zbi (Zbx rfl ?_));(iterate 3 refine ZfJ ?_);(iterate 20 refine ZHb I ?_);refine Zxq I ?_;refine Zeo ?_;refine brT rfl ?_;obtain⟨k1,k2,k3⟩:=nxt (.inl aq);have f1:u64.wrap (g-1)=g-1:=Zas (by omega) (by omega);have f2:u64.wrap (rest+u64.wrap v1)=rest+v1:=(by rw[w1];exact Zas (by omega) (by omega));refine Xab ⟨by rw[e1];omega,by rw[e1];show((n-1:Nat):Int)<(n:Int);omega⟩ ?_;refine Exists.intro v1 (Xab (by show V[0+(i64.wrap ((n:Int)-1)).toNat]? =some v1;rw[e1,Xak,Xac];exact ag) ?_);refine Xab (λh3=> ?_) (λh3=> ?_);have h4:4294967296<=u64.wrap (rest+u64.wrap v1):=of_decide_eq_true h3;rw[f2]at h4;have C:g-1<4294967296:=(by rcases Int.lt_or_le (g-1) 4294967296 with h5|h5;exact h5;have h6:=Xa0 h5 (show 0<=v1 by omega);have h7:(v1+1)*4294967296=4294967296*v1+4294967296:=(by grind);omega);refine⟨rfl,g-1,rest+v1,⟨by omega,C,up _ k2,ZnO hP eD J ae b2 (by omega) eU af (by omega) C (ZkY k3 h4 (by omega) C b2 ah c0)⟩, ?_⟩;refine ZaH rfl rfl ?_ ?_;exact⟨rfl,f1.symm,f2.symm,rfl,rfl,⟨rfl,rfl,rfl⟩,rfl,⟨rfl,rfl,rfl⟩,⟨rfl,rfl,rfl⟩,rfl,rfl,trivial⟩;exact⟨⟨rfl,λ_=>rfl⟩,⟨rfl,λ_=>rfl⟩,⟨rfl,λ_=>rfl⟩,trivial⟩;have h4: ¬4294967296<=u64.wrap (rest+u64.wrap v1):=of_decide_eq_false h3;rw[f2]at h4;refine⟨(g-1,rest+v1),⟨by show 0<=g-1;omega,by show g-1<=_;omega,k3,by show 0<=rest+v1;omega,by show rest+v1<_;omega,k2⟩,by show(g-1).toNat<g.toNat;omega, ?_⟩;refine ZaH rfl rfl ?_ ?_;exact⟨rfl,f1.symm,f2.symm,rfl,rfl,⟨rfl,rfl,rfl⟩,rfl,⟨rfl,rfl,rfl⟩,⟨rfl,rfl,rfl⟩,rfl,rfl,trivial⟩;exact⟨⟨rfl,λ_=>rfl⟩,⟨rfl,λ_=>rfl⟩,⟨rfl,λ_=>rfl⟩,trivial⟩|false=>have aq: ¬4294967296<=g:=of_decide_eq_false I;refine Zbi (Zbi (Zbx rfl ?_));(iterate 3 refine ZfJ ?_);(iterate 4 refine Zfu I ?_);refine ZcD rfl rfl rfl I (λ_=>rfl) ⟨by rw[e2];omega,by rw[e2];show((n-2:Nat):Int)<(n:Int);omega⟩ rfl rfl ?_;refine ZBp (x:=v2) rfl rfl rfl I (λ_=>rfl) (by show V[0+(i64.wrap ((n:Int)-2)).toNat]? =some v2;rw[e2,Xak,Xac];exact au) rfl rfl ?_;(iterate 3 refine Zfu I ?_);refine ZcD rfl rfl rfl I (λ_=>rfl) (by decide) rfl rfl ?_;(iterate 5 refine Zfu I ?_);refine ZcD rfl rfl rfl I (λ_=>rfl) ⟨by rw[e3];omega,by rw[e3];show((j+n-2:Nat):Int)<((m+1:Nat):Int);omega⟩ rfl rfl ?_;refine ZBp (x:=u2) rfl rfl rfl I (λ_=>rfl) (by show u[0+(i64.wrap (i64.wrap ((j:Int)+(n:Int))-2)).toNat]? =some u2;rw[e3,Xak,Xac];exact av) rfl rfl ?_;(iterate 3 refine Zfu I ?_);refine ZxA I ?_;refine Zeo ?_;have p1:0<=g*v2:=XbL R b2;have p2:g*v2<=4294967295*4294967295:=Int.mul_le_mul (by omega) (by omega) b2 (by omega);have em:u64.wrap (g*u64.wrap v2)=g*v2:=(by rw[Zas (x:=v2) (by omega) (by omega)];exact Zas (by omega) (by omega));have eo:=ZjP al an c0 c1;refine Xab (λh2=> ?_) (λh2=> ?_);have ad:u64.wrap ((BitVec.ofInt u64.bits (u64.wrap (rest*2^min (Int.toNat 32) u64.bits))|||BitVec.ofInt u64.bits (u64.wrap u2)).toNat:Int)<u64.wrap (g*u64.wrap v2):=of_decide_eq_true h2;rw[eo,em]at ad;obtain⟨k1,k2,k3⟩:=nxt (.inr ⟨by omega,ad⟩);have f1:u64.wrap (g-1)=g-1:=Zas (by omega) (by omega);have f2:u64.wrap (rest+u64.wrap v1)=rest+v1:=(by rw[w1];exact Zas (by omega) (by omega));refine Xab ⟨by rw[e1];omega,by rw[e1];show((n-1:Nat):Int)<(n:Int);omega⟩ ?_;refine Exists.intro v1 (Xab (by show V[0+(i64.wrap ((n:Int)-1)).toNat]? =some v1;rw[e1,Xak,Xac];exact ag) ?_);refine Xab (λh3=> ?_) (λh3=> ?_);have h4:4294967296<=u64.wrap (rest+u64.wrap v1):=of_decide_eq_true h3;rw[f2]at h4;have C:g-1<4294967296:=(by rcases Int.lt_or_le (g-1) 4294967296 with h5|h5;exact h5;have h6:=Xa0 h5 (show 0<=v1 by omega);have h7:(v1+1)*4294967296=4294967296*v1+4294967296:=(by grind);omega);refine⟨rfl,g-1,rest+v1,⟨by omega,C,up _ k2,ZnO hP eD J ae b2 (by omega) eU af (by omega) C (ZkY k3 h4 (by omega) C b2 ah c0)⟩, ?_⟩;refine ZaH rfl rfl ?_ ?_;exact⟨rfl,f1.symm,f2.symm,rfl,rfl,⟨rfl,rfl,rfl⟩,rfl,⟨rfl,rfl,rfl⟩,⟨rfl,rfl,rfl⟩,rfl,rfl,trivial⟩;exact⟨⟨rfl,λ_=>rfl⟩,⟨rfl,λ_=>rfl⟩,⟨rfl,λ_=>rfl⟩,trivial⟩;have h4: ¬4294967296<=u64.wrap (rest+u64.wrap v1):=of_decide_eq_false h3;rw[f2]at h4;refine⟨(g-1,rest+v1),⟨by show 0<=g-1;omega,by show g-1<=_;omega,k3,by show 0<=rest+v1;omega,by show rest+v1<_;omega,k2⟩,by show(g-1).toNat<g.toNat;omega, ?_⟩;refine ZaH rfl rfl ?_ ?_;exact⟨rfl,f1.symm,f2.symm,rfl,rfl,⟨rfl,rfl,rfl⟩,rfl,⟨rfl,rfl,rfl⟩,⟨rfl,rfl,rfl⟩,rfl,rfl,trivial⟩;exact⟨⟨rfl,λ_=>rfl⟩,⟨rfl,λ_=>rfl⟩,⟨rfl,λ_=>rfl⟩,trivial⟩;have ad: ¬u64.wrap ((BitVec.ofInt u64.bits (u64.wrap (rest*2^min (Int.toNat 32) u64.bits))|||BitVec.ofInt u64.bits (u64.wrap u2)).toNat:Int)<u64.wrap (g*u64.wrap v2):=of_decide_eq_false h2;rw[eo,em]at ad;refine⟨rfl,g,rest,⟨R,by omega,up _ ao,ZnO hP eD J ae b2 (by omega) eU af R (by omega) (Zur ab (by omega))⟩, ?_⟩;refine ZaH rfl rfl ?_ ?_;exact⟨rfl,rfl,rfl,rfl,rfl,⟨rfl,rfl,rfl⟩,rfl,⟨rfl,rfl,rfl⟩,⟨rfl,rfl,rfl⟩,rfl,rfl,trivial⟩;exact⟨⟨rfl,λ_=>rfl⟩,⟨rfl,λ_=>rfl⟩,⟨rfl,λ_=>rfl⟩,trivial⟩
 have ar:=Xbi top v1;rw[Int.mul_comm v1]at ar;refine⟨Int.ediv_nonneg ax (by omega), ?_,by show top/v1*v1+top % v1=top;omega,Int.emod_nonneg _ (by omega),Int.lt_trans (Int.emod_lt_of_pos top (show 0<v1 by omega)) aw, ?_⟩;show top/v1<=4294967297;have:top/v1<4294967298:=Int.ediv_lt_of_lt_mul (by omega) (by omega);omega;exact ZyR hP eD J b2 eU ai c1 (by omega) az ak
variable {bb:Bool}
def ZaM {α:Type} {l:List α} {n:Nat} (h:l.length=n):sub l 0 n=l:=by rw[sub,XaV,XaA (by omega)]
abbrev nt (k:Nat):SV:= .v (.i .i64) (k:Int)
def cin {i n:Nat} (h:i<n):(0:Int)<=(i:Int)/\(i:Int)<((n:Nat):Int):=by omega
def Zbd {k:Nat} (h:k<1000000):i64.wrap ((k:Int)+1)=((k+1:Nat):Int):=Zat (by omega) (by omega)
end Go.Proofs.YtplkkbcnilnfaaaGreatDoor
namespace Ne
abbrev Txt:=List UInt8
abbrev Item:=Txt×(List Txt×(Bool×Bool))
abbrev Sw:=Txt×(Txt×(Txt×(Bool×Bool)))
abbrev Br:=Txt×(Txt×(Txt×(Int×(Int×(Int×(Int×(Int×Int)))))))
abbrev Ge:=Txt×(Txt×(Int×(Int×Int)))
abbrev Lo:=Txt×(Txt×Int)
abbrev Sto:=Txt×(Txt×(Int×(Int×Int)))
structure Net where
 nodes:List Txt
 sws:List Sw
 brs:List Br
 gens:List Ge
 loads:List Lo
 stores:List Sto
def ZBQ (c:UInt8):Bool:=decide (65<=c.toNat)&&decide (c.toNat<=90)
def Zwp (c:UInt8):Bool:=decide (48<=c.toNat)&&decide (c.toNat<=57)
def Zcf:Txt->Bool
 | []=>false
 |c::r=>Nat.ble (r.length+1) 8&&(ZBQ c&&r.all λc=>ZBQ c||Zwp c)
def inR (n lo hi:Int):Bool:=decide (lo<=n)&&decide (n<=hi)
def Zm1 (b:Br):Bool:= !(inR b.2.2.2.1 1 10000&&inR b.2.2.2.2.1 500 1500&&inR b.2.2.2.2.2.1 (-1000) 1000&&inR b.2.2.2.2.2.2.1 0 100000&&inR b.2.2.2.2.2.2.2.1 b.2.2.2.2.2.2.1 100000&&inR b.2.2.2.2.2.2.2.2 0 200000)
def swI (s:Sw):Item:=(s.1,[s.2.1,s.2.2.1],true,false)
def brI (b:Br):Item:=(b.1,[b.2.1,b.2.2.1],true,Zm1 b)
def geI (g:Ge):Item:=(g.1,[g.2.1],false, !(inR g.2.2.1 0 100000)|| !(inR g.2.2.2.1 g.2.2.1 100000)|| !(inR g.2.2.2.2 0 100000))
def loI (d:Lo):Item:=(d.1,[d.2.1],false, !(inR d.2.2 0 100000))
def stI (s:Sto):Item:=(s.1,[s.2.1],false, !(inR s.2.2.1 0 100000)|| !(inR s.2.2.2.1 0 100000)|| !(inR s.2.2.2.2 0 100000))
def noI (s:Txt):Item:=(s,[],false,false)
def ZHL (n:Net):List Item:=n.sws.map swI++(n.brs.map brI++(n.gens.map geI++(n.loads.map loI++n.stores.map stI)))
def ZdF (s:Txt):List Txt->Bool
 | []=>false
 |k::r=>bif s==k then true else ZdF s r
def ZeE (nodes met:List Txt) (it:Item):Int:=
 bif !Zcf it.1 then 5 else bif ZdF it.1 met then 7 else bif it.2.1.all λs=>ZdF s nodes then
  (bif it.2.2.1&&(it.2.1.getD 0 []==it.2.1.getD 1 [])then 3 else bif it.2.2.2 then 4 else 0)else 6
def Zbt (nodes:List Txt):List Txt->List Item->Int
 |_,[]=>0
 |met,it::r=>match decide (ZeE nodes met it=0)with
  |true=>Zbt nodes (met++ [it.1]) r
  |false=>ZeE nodes met it
def big (n:Net):Bool:=decide (24<n.nodes.length)||(decide (32<n.sws.length)||(decide (24<n.brs.length)||(decide (10<n.gens.length)||(decide (12<n.loads.length)||decide (4<n.stores.length)))))
def ZdW (n:Net):Int:=bif big n then 2 else Zbt n.nodes [] (n.nodes.map noI++ZHL n)
def Zfa (e f:Int):Int:=match decide (e=0)with
 |true=>f
 |false=>e
def Zdg (s:Txt):List Txt->Nat->Int
 | [],_=> -1
 |k::r,i=>bif s==k then(i:Int)else Zdg s r (i+1)
def ZpO (s:Txt): ∀ (l:List Txt) (i:Nat),ZdF s l=decide (0<=Zdg s l i)
 | [],_=>rfl
 |k::r,i=>by rw[ZdF,Zdg];cases s==k with|true=>simp|false=>simp only[cond_false];exact ZpO s r (i+1)
def ZoW (nodes:List Txt): ∀ (l r:List Item) (met:List Txt),Zbt nodes met (l++r)=Zfa (Zbt nodes met l) (Zbt nodes (met++l.map (·.1)) r)
 | [],r,met=>by simp[Zbt,Zfa]
 |it::l,r,met=>by rw[Xbs,Zbt,Zbt];cases h:decide (ZeE nodes met it=0)with|true=>simp only[];rw[ZoW nodes l r,XaX,Xa2];rfl|false=>simp only[];rw[Zfa,h]
end Ne
namespace Go.Proofs.YtplkkbcnilnfaaaGreatDoor
variable {bb:Bool}
open Go.Am Go.Tx Ne
def ZdK (l:List Txt) (s:Txt) (U:l.length<=1000):PureOK Tryz.prog (Zbw bb) 30 [.v (.l .s) l, .v .s s] (λV=>V= .v (.i .i64) (Zdg s l 0)):=by refine Zad Zab Tryz.func30 ?_;refine auG ?_;refine auG ?_;refine Zap Zab rfl (λ(i:Nat)=> [(0, .v (.l .s) l),(1, .v .s s),(7,nt l.length),(8,nt i)]) (λ_=> []) (λi=>i<=l.length/\Zdg s l 0=Zdg s (l.drop i) i) (λi=>l.length-i) ?_ 0 ⟨Xap _,rfl⟩ (Zae ⟨rfl,rfl,rfl,rfl,trivial⟩);rintro i ⟨hi,he⟩;cases I:decide ((i:Int)<(l.length:Int))with|false=>have e:i=l.length:=(by have:=of_decide_eq_false I;omega);refine auG ?_;refine brF I ?_;refine auG ?_;exact congrArg (λx=>SV.v (.i .i64) x) (by rw[he,e,Xbt];rfl)|true=>have j:i<l.length:=(by have:=of_decide_eq_true I;omega);have R:l[(i:Int).toNat]? =some l[i]:=(by rw[Xac];exact Xad j);have C:Zdg s (l.drop i) i=bif s==l[i]then(i:Int)else Zdg s (l.drop (i+1)) (i+1):=(by rw[XaL j,Zdg]);obtain⟨x,ex⟩: ∃x,l[i]=x:=⟨_,rfl⟩;rw[ex]at R C;refine auG ?_;refine brT I ?_;refine auG ?_;cases J:(s==x)with|true=>rw[J]at C;refine auG ?_;refine brT J ?_;refine auG ?_;refine Za2 ?_;(repeat (first|refine ZaL ?_|refine ZaN ?_|refine ZaE ?_));exact congrArg (λx=>SV.v (.i .i64) x) (he.trans C).symm|false=>rw[J]at C;refine auG ?_;refine brF J ?_;refine auG ?_;refine⟨i+1,⟨j,he.trans C⟩,by show l.length-(i+1)<l.length-i;omega, ?_⟩;exact Zae ⟨rfl,rfl,rfl,congrArg (λx=>some (SV.v (.i .i64) x)) (Zbd (by omega)),trivial⟩
def ZGg (s:Txt) (l:List Txt):decide ((0:Int)<=Zdg s l 0)=ZdF s l:=(ZpO s l 0).symm
def ZdG (l:List Txt) (s:Txt) (j:l.length<=1000):PureOK Tryz.prog (Zbw bb) 14 [.v (.l .s) l, .v .s s] (λV=>V= .v .b (ZdF s l)):=by refine Zad Zab Tryz.func14 ?_;have h:=ZdK (bb:=bb) l s j;refine auG ?_;refine auG ?_;exact congrArg (λx=>SV.v .b x) (ZGg s l)
def ZEs (n lo hi:Int):(!inR n lo hi)=(decide (n<lo)||decide (hi<n)):=by unfold inR;rw[Bool.eq_iff_iff];simp only[XbJ,Bool.and_eq_false_iff,decide_eq_false_iff_not,Xb2,decide_eq_true_eq];omega
def ZB9 (n lo hi:Int):PureOK Tryz.prog (Zbw bb) 36 [.v (.i .i64) n, .v (.i .i64) lo, .v (.i .i64) hi] (λV=>V= .v .b (!inR n lo hi)):=by refine Zad Zab Tryz.func36 ?_;rw[ZEs];refine auG ?_;cases j:decide (n<lo)with|true=>refine auG ?_;rfl|false=>refine auG ?_;rfl
def Zc1 (n:Int):PureOK Tryz.prog (Zbw bb) 37 [.v (.i .i64) n] (λV=>V= .v .b (inR n 0 100000)):=by refine Zad Zab Tryz.func37 ?_;have h:=ZB9 (bb:=bb) n 0 100000;refine auG ?_;refine auG ?_;exact congrArg (λx=>SV.v .b x) (Bool.not_not _)
def brV (b:Br):SV:= .agg [.v .s b.1, .v .s b.2.1, .v .s b.2.2.1, .v (.i .i64) b.2.2.2.1, .v (.i .i64) b.2.2.2.2.1, .v (.i .i64) b.2.2.2.2.2.1, .v (.i .i64) b.2.2.2.2.2.2.1, .v (.i .i64) b.2.2.2.2.2.2.2.1, .v (.i .i64) b.2.2.2.2.2.2.2.2]
def ZJx (_:Bool) (b:Br):PureOK Tryz.prog (Zbw bb) 23 [brV b] (λV=>V= .v (.i .i64) (bif Zm1 b then(4:Int)else 0)):=by
 have c:=ZB9 (bb:=bb);have j:=c b.2.2.2.1 1 10000;have C:=c b.2.2.2.2.1 500 1500;have c3:=c b.2.2.2.2.2.1 (-1000) 1000;have c4:=c b.2.2.2.2.2.2.1 0 100000;have c5:=c b.2.2.2.2.2.2.2.1 b.2.2.2.2.2.2.1 100000;have I:=c b.2.2.2.2.2.2.2.2 0 200000;unfold Zm1;generalize inR b.2.2.2.1 1 10000=i1 at*;generalize inR b.2.2.2.2.1 500 1500=i2 at*;generalize inR b.2.2.2.2.2.1 (-1000) 1000=i3 at*;generalize inR b.2.2.2.2.2.2.1 0 100000=i4 at*;generalize inR b.2.2.2.2.2.2.2.1 b.2.2.2.2.2.2.1 100000=i5 at*;generalize inR b.2.2.2.2.2.2.2.2 0 200000=i6 at*;refine Zad Zab Tryz.func23 ?_;all_goals
  cases i1
  rotate_left
  cases i2
  rotate_left
  cases i3
  rotate_left
  cases i4
  rotate_left
  cases i5
  rotate_left
  cases i6
  all_goals
   refine axT ?_
   rfl
def ZCN (a b:List Txt) (hl:a.length<=1000):PureOK Tryz.prog Zaj 6 [.v (.l .s) a, .v (.l .s) b] (λV=>V= .v .b (decide (a=b))):=by refine Zad Zab Tryz.func6 ?_;cases J:decide ((a.length:Int)=(b.length:Int))with|false=>have U:(!decide ((a.length:Int)=(b.length:Int)))=true:=(by rw[J];rfl);have aa:a≠b:=λe=>of_decide_eq_false J (by rw[e]);refine auG ?_;refine auG ?_;refine brT U ?_;refine auG ?_;exact congrArg (λx=>SV.v .b x) (decide_eq_false aa).symm|true=>have U:(!decide ((a.length:Int)=(b.length:Int)))=false:=(by rw[J];rfl);have hlen:a.length=b.length:=(by have:=of_decide_eq_true J;omega);refine auG ?_;refine auG ?_;refine brF U ?_;refine auG ?_;refine Zap Zab rfl (λ(i:Nat)=> [(0, .v (.l .s) a),(1, .v (.l .s) b),(12,nt a.length),(13,nt i)]) (λ_=> []) (λi=>i<=a.length/\a.take i=b.take i) (λi=>a.length-i) ?_ 0 ⟨Xap _,rfl⟩ (Zae ⟨rfl,rfl,rfl,rfl,trivial⟩);rintro i ⟨hi,he⟩;cases R:decide ((i:Int)<(a.length:Int))with|false=>have e:i=a.length:=(by have:=of_decide_eq_false R;omega);have ab:a=b:=(by rw[e,Xa3,hlen,Xa3]at he;exact he);refine auG ?_;refine brF R ?_;refine auG ?_;exact congrArg (λx=>SV.v .b x) (decide_eq_true ab).symm|true=>have j:i<a.length:=(by have:=of_decide_eq_true R;omega);have C:i<b.length:=(by omega);have ga:a[(i:Int).toNat]? =some a[i]:=(by rw[Xac];exact Xad j);have gb:b[(i:Int).toNat]? =some b[i]:=(by rw[Xac];exact Xad C);have ta:a.take (i+1)=a.take i++ [a[i]]:=(by rw[List.take_add_one,Xad j];rfl);have tb:b.take (i+1)=b.take i++ [b[i]]:=(by rw[List.take_add_one,Xad C];rfl);have hd:a[i]≠b[i]->a≠b:=λhn e=>hn (by subst e;rfl);obtain⟨x,ex⟩: ∃x,a[i]=x:=⟨_,rfl⟩;obtain⟨y,ey⟩: ∃y,b[i]=y:=⟨_,rfl⟩;rw[ex]at ga ta hd;rw[ey]at gb tb hd;refine auG ?_;refine brT R ?_;refine auG ?_;cases I:(x==y)with|true=>have hb:(!(x==y))=false:=(by rw[I];rfl);refine auG ?_;refine brF hb ?_;refine auG ?_;refine⟨i+1,⟨j,by rw[ta,tb,he,eq_of_beq I]⟩,by show a.length-(i+1)<a.length-i;omega, ?_⟩;exact Zae ⟨rfl,rfl,rfl,congrArg (λx=>some (SV.v (.i .i64) x)) (Zbd (by omega)),trivial⟩|false=>have hb:(!(x==y))=true:=(by rw[I];rfl);refine auG ?_;refine brT hb ?_;refine auG ?_;refine Za2 ?_;(repeat (first|refine ZaL ?_|refine ZaN ?_|refine ZaE ?_));exact congrArg (λx=>SV.v .b x) (decide_eq_false (hd λe=>by rw[e]at I;simp at I)).symm
end Go.Proofs.YtplkkbcnilnfaaaGreatDoor
namespace Go.Tx
open Go.Am
def ZfK {F:Nat} {hp:List SM} {tm r:TM} {k:Nat} {ct:CT} (j:F<=hp.length) (C:Zck k tm=some .nils) (I:ZGy tm r):Ent F tm hp ((k, .ref hp.length 0 0 none)::r) (hp++ [.row ct [] true]):=
 Ztk j C (λi V hi h=>by have e:Nat.beq i k=false:=Bool.eq_false_iff.2 λe=>hi (Xar e);simp only[Zck,e]at h;exact ZmB I h) (by rw[Zck,Nat.beq_refl];rfl)
def ZGX (n:Nat):List SM->Bool
 | []=>true
 |m::r=>ZuT n (Zes m)&&ZGX n r
def ZHE (n:Nat):TM->Bool
 | []=>true
 |v::r=>ZuT n (ZdI v.2)&&ZHE n r
def ZHC:List Nat->Bool
 | []=>true
 |i::r=> !r.contains i&&ZHC r
def Zwj (f:Nat->Nat) (hp:List SM):List Nat->List SM->Prop
 | [],[]=>True
 |i::is,m::ms=>nth hp i=some (rnM f m)/\Zwj f hp is ms
 |_,_=>False
def ZvV (f:Nat->Nat) (tm:TM):TM->Prop
 | []=>True
 |(i,V)::r=>Zck i tm=some (rnV f V)/\ZvV f tm r
def ZxJ: ∀ {l:List Nat},ZHC l=true->l.Nodup
 | [],_=>List.nodup_nil
 |i::r,h=>by simp only[ZHC,Xah,XbJ]at h;refine List.nodup_cons.2 ⟨λhm=> ?_,ZxJ h.2⟩;rw[List.contains_iff_mem.2 hm]at h;cases h.1
def Zxe {n:Nat}: ∀ {ms:List SM} {j:Nat} {m:SM},ZGX n ms=true->ms[j]? =some m-> ∀id∈Zes m,id<n
 |m::_,0,_,h,e=>by cases e;simp only[ZGX,Xah]at h;exact λid hi=>ZfQ h.1 hi
 |_::r,j+1,_,h,e=>by simp only[ZGX,Xah]at h;exact Zxe (ms:=r) h.2 e
 | [],_,_,_,e=>by simp at e
def Zpt {f:Nat->Nat} {hp:List SM}: ∀ {is:List Nat} {ms:List SM},Zwj f hp is ms->is.length=ms.length/\ ∀ (j:Nat) (x:SM),ms[j]? =some x-> ∃i,is[j]? =some i/\nth hp i=some (rnM f x)
 | [],[],_=>⟨rfl,λj x h=>by simp at h⟩
 | [],_::_,h=>h.elim
 |_::_,[],h=>h.elim
 |i::is,m::ms,⟨I,J⟩=>by obtain⟨g1,g2⟩:=Zpt J;refine⟨by simp[g1],λj x C=> ?_⟩;cases j with|zero=>cases C;exact⟨i,rfl,I⟩|succ j=>exact g2 j x C
def Zxr {f:Nat->Nat} {n:Nat} {tm:TM}: ∀ {tm':TM},ZHE n tm'=true->ZvV f tm tm'->ZyK f n tm tm'
 | [],_,_=>trivial
 |(i,V)::r,h,⟨j,C⟩=>by simp only[ZHE,Xah]at h;exact⟨j,λid hi=>ZfQ h.1 hi,Zxr h.2 C⟩
def ZIq (F:Nat) (is:List Nat):Bool:=(List.range F).all λj=>Nat.beq (is.getD j 0) j
def Zbk {F:Nat} {tm tm':TM} {hp:List SM} (is:List Nat) {ms:List SM} (hc:(ZHC is&&ZGX ms.length ms&&ZHE ms.length tm'&&(ZIq F is&&Nat.ble F ms.length))=true) (hk:Zwj (λj=>is.getD j 0) hp is ms) (R:ZvV (λj=>is.getD j 0) tm tm'):Ent F tm hp tm' ms:=by
 simp only[Xah]at hc;obtain⟨⟨⟨c1,c2⟩,c3⟩,c4,c5⟩:=hc;obtain⟨hl,U⟩:=Zpt hk;have aa:=ZxJ c1;have C: ∀j,j<ms.length-> ∃x i,ms[j]? =some x/\is[j]? =some i/\is.getD j 0=i/\nth hp i=some (rnM (λj=>is.getD j 0) x):=λj J=>by obtain⟨i,g1,g2⟩:=U j ms[j] (Xad J);exact⟨ms[j],i,Xad J,g1,by rw[Xan,g1];rfl,g2⟩
 refine Zfv (λj=>is.getD j 0) (Xao c5) (λj J=>Xar (Xaw.1 c4 j (Xba.2 J))) (λj J=> ?_) (λa b ha hb I=> ?_) (Zxr c3 R) λj x hx=> ?_;obtain⟨x,i,_,_,g3,g4⟩:=C j J;show is.getD j 0<_;rw[g3];exact Zje g4;obtain⟨_,i,_,g2,g3,_⟩:=C a ha;obtain⟨_,i',_,ab,ad,_⟩:=C b hb;have I:is.getD a 0=is.getD b 0:=I;rw[g3,ad]at I;subst I;exact ZnS aa g2 ab;obtain⟨J,_⟩:=Xae.1 hx;obtain⟨y,i,g1,_,g3,g4⟩:=C j J;rw[g1]at hx;cases hx;refine .inr ⟨?_,Zxe c2 g1⟩;show hp[is.getD j 0]? =_;rw[g3,<-ZaK,g4]
def Zp5 {P:Program} {h:Hints} {T:TypeId->TI} {tm:TM} {hp:List SM} {op:Op} {c:Call} {f:FuncId} {V:SV} {k:SV->List SM->Prop} (j:op= .call c) (C:c.callee= .value (.func f)) (I:evL tm c.args.toList=some [V]) (J:h.opn f=false) (R:h.imp f=true) (he:ZdB hp 40 V λv=>ImpOK P h f [v] λW U sf=>k (shS hp.length W) ((match sf with|true=>hp|false=>frzT hp (ZdX hp [V]))++Zt2 hp.length U)):opT P h T op tm hp k:=by subst j;simp only[opT,ZfU,I,C,evS,Zb1,J,R,ZyL,Zds];exact he
def okW:SV->Bool
 | .v _ _| .nilp| .nils| .nilf| .nili| .ref _ _ _ _| .ptr _ _ _=>true
 |_=>false
def idW:SV->List Nat
 | .ref id _ _ _=> [id]
 | .ptr id _ _=> [id]
 |_=> []
def ZHG:SM->List Nat
 | .cell cs _=>cs.flatMap idW
 | .many _ j _=>j.flatMap idW
 |_=> []
def ZIh:SM->Bool
 | .row _ _ _| .dead=>true
 | .cell cs _=>cs.all okW
 | .many _ j _=>j.all okW
 | .set _| .im _ _=>false
structure ImpW (Vs:List SV) (hp:List SM):Prop where
 ok: ∀V∈Vs,okW V=true
 row: ∀ (j:Nat) (m:SM),hp[j]? =some m->ZIh m=true/\(live m=true->j∈Vs.flatMap idW\/ ∃r∈Vs.flatMap idW,∃x,hp[r]? =some x/\j∈ZHG x)
 root: ∀j∈Vs.flatMap idW,∃m,hp[j]? =some m/\live m=true
 ref: ∀ (j:Nat) (m:SM),hp[j]? =some m-> ∀i∈ZHG m,∃x,hp[i]? =some x/\live x=true
def ZyB (Q:SV->List SM->Bool->Prop) (V:SV) (hp:List SM):Prop:=
 ∃V' hp',Ent 0 (Zch 0 (ZbS V)) hp (Zch 0 (ZbS V')) hp'/\((ZbS V).length=(ZbS V').length/\ZbB V=ZbB V'/\ImpW (ZbS V') hp')/\Q V' hp' false
section
variable {φ:Ph} {H:List Mem} {hp:List SM}
def ZkN {q:PV} (h:ZcF q=true) (ids:List Nat):ren ids q=q:=by cases q<;>simp only[ZcF]at h<;>first|rfl|(cases h;done)
def ZCh {V:SV} {q:PV} (hv:okW V=true) (C:RV φ V q):ZbA q=true/\(∀i,i∈Zb8 q<-> ∃id∈idW V,φ[id]? =some (some i))/\ ∀ids base,RV (φ.map (Option.map λa=>base+pos a ids)) V (sh base (ren ids q))/\ZbA (ren ids q)=true:=by
 have none_: ∀W:SV,idW W=[]-> ∀i,i∈([]:List Nat)<-> ∃id∈idW W,φ[id]? =some (some i):=λW h i=>by rw[h];exact⟨λh=>absurd h Xav,λ⟨_,h,_⟩=>absurd h Xav⟩
 have at_: ∀ {id a:Nat},φ[id]? =some (some a)-> ∀i,i∈ [a]<-> ∃x∈ [id],φ[x]? =some (some i):=λ{id a} h i=>by constructor;intro e;rw[Xat.1 e];exact⟨id,Xat.2 rfl,h⟩;rintro⟨x,U,J⟩;rw[Xat.1 U,h]at J;rw[<-Xbc (Xbc J)];exact Xat.2 rfl
 cases V<;>first|(cases hv;done)|skip
 case v t x=>
  have hp:ZcF q=true:=by simp only[RV]at C;exact C.plain q (by simp)
  obtain⟨_,J,R,h4⟩:=Zb9 hp
  refine⟨J,λi=>by rw[h4];exact none_ _ rfl i,λids base=> ?_⟩
  rw[ZkN hp,R]
  exact⟨by simpa only[RV]using C,J⟩
 case nilp=>simp only[RV]at C;subst C;exact⟨rfl,none_ _ rfl,λids base=>⟨by simp only[RV];rfl,rfl⟩⟩
 case nils=>simp only[RV]at C;subst C;exact⟨rfl,none_ _ rfl,λids base=>⟨by simp only[RV];rfl,rfl⟩⟩
 case nilf=>simp only[RV]at C;subst C;exact⟨rfl,none_ _ rfl,λids base=>⟨by simp only[RV];rfl,rfl⟩⟩
 case nili=>simp only[RV]at C;subst C;exact⟨rfl,none_ _ rfl,λids base=>⟨by simp only[RV];rfl,rfl⟩⟩
 case ref id j n m=>
  simp only[RV]at C
  rcases C with⟨a,I,rfl⟩|⟨I,rfl,J⟩
  ·refine⟨rfl,at_ I,λids base=>⟨?_,rfl⟩⟩
   simp only[RV]
   exact .inl ⟨base+pos a ids,by rw[XaC,I];rfl,rfl⟩
  ·refine⟨rfl,λi=>⟨λh=>absurd h Xav, ?_⟩,λids base=>⟨?_,rfl⟩⟩
   ·rintro⟨x,U,R⟩
    rw[Xat.1 U,I]at R
    cases R
   ·simp only[RV]
    exact .inr ⟨by rw[XaC,I];rfl,rfl,J⟩
 case ptr id i r=>
  simp only[RV]at C
  obtain⟨a,I,rfl⟩:=C
  refine⟨rfl,at_ I,λids base=>⟨?_,rfl⟩⟩
  simp only[RV]
  exact⟨base+pos a ids,by rw[XaC,I];rfl,rfl⟩
def ZjE: ∀ {l:List SV} {qs:List PV},(∀V∈l,okW V=true)->RL φ l qs->(∀q∈qs,ZbA q=true)/\(∀i,i∈qs.flatMap Zb8<-> ∃id∈l.flatMap idW,φ[id]? =some (some i))/\ ∀ids base,RL (φ.map (Option.map λa=>base+pos a ids)) l (qs.map λq=>sh base (ren ids q))/\ ∀q∈qs,ZbA (ren ids q)=true
 | [],qs,_,h=>by simp only[RL]at h;subst h;simp[RL]
 |V::l,qs,j,C=>by simp only[RL]at C;obtain⟨q,r,rfl,I,J⟩:=C;obtain⟨g1,g2,g3⟩:=ZCh (j V Xai) I;obtain⟨f1,f2,f3⟩:=ZjE (λV h=>j V (Xaj _ h)) J;refine⟨λx hx=> ?_,λi=> ?_,λids base=>⟨?_,λx hx=> ?_⟩⟩;rcases Xau.1 hx with rfl|hx;exact g1;exact f1 x hx;rw[Xa7,Xa7,XaJ,g2 i,f2 i];constructor;rintro(⟨x,hx,h⟩|⟨x,hx,h⟩);exact⟨x,Xa8 _ hx,h⟩;exact⟨x,XaT _ hx,h⟩;rintro⟨x,hx,h⟩;exact(XaJ.1 hx).imp (λhx=>⟨x,hx,h⟩) (λhx=>⟨x,hx,h⟩);simp only[XaX,RL];exact⟨_,_,rfl,(g3 ids base).1,(f3 ids base).1⟩;rcases Xau.1 hx with rfl|hx;exact(g3 ids base).2;exact(f3 ids base).2 x hx
def Zsv: ∀ {j:List SV} {es:List (List PV)},(∀V∈j,okW V=true)->All2 (λV c=> ∃q,c=[q]/\RV φ V q) j es-> ∃qs,es=qs.map (λq=> [q])/\RL φ j qs
 | [],[],_,_=>⟨[],rfl,by simp only[RL]⟩
 |V::j,c::es,C,⟨⟨q,e,I⟩,J⟩=>by obtain⟨qs,R,U⟩:=Zsv (λV h=>C V (Xaj _ h)) J;exact⟨q::qs,by rw[e,R];rfl,by simp only[RL];exact⟨_,_,rfl,I,U⟩⟩
def Zw7: ∀ {j:List SV} {qs:List PV},RL φ j qs->All2 (λV c=> ∃q,c=[q]/\RV φ V q) j (qs.map λq=> [q])
 | [],qs,h=>by simp only[RL]at h;subst h;trivial
 |V::j,qs,h=>by simp only[RL]at h;obtain⟨q,r,rfl,C,I⟩:=h;exact⟨⟨q,rfl,C⟩,Zw7 I⟩
def ZAj {L:Nat->Option Mem} {i:Nat} {m:SM} (hm:ZIh m=true) (hl:live m=true) (J:RM φ L (some i) m): ∃es z b,L i=some (.row es z b)/\(∀c∈es,∀q∈c,ZbA q=true)/\(∀a,a∈es.flatMap (λc=>c.flatMap Zb8)<-> ∃id∈ZHG m,φ[id]? =some (some a))/\
 ∀ids base (L':Nat->Option Mem),L' (base+pos i ids)=some (.row (es.map λc=>c.map λq=>sh base (ren ids q)) z b)->RM (φ.map (Option.map λa=>base+pos a ids)) L' (some (base+pos i ids)) m/\ ∀c∈es,∀q∈c,ZbA (ren ids q)=true:=by
 cases m with
 |row t l b=>simp only[RM]at J;obtain⟨es,I,h1,R,h3⟩:=J;have hp:=RRs.plain R;refine⟨es,t.w,I,h1,λc C q j=>(Zb9 (hp c C q j)).2.1,λa=>⟨λh=> ?_,λ⟨_,h,_⟩=>absurd h Xav⟩,λids base L' U=>⟨?_,λc C q j=> ?_⟩⟩;obtain⟨c,C,h⟩:=XaZ.1 h;obtain⟨q,j,h⟩:=XaZ.1 h;rw[(Zb9 (hp c C q j)).2.2.2]at h;exact absurd h Xav;simp only[RM];have e:(es.map λc=>c.map λq=>sh base (ren ids q))=es:=(by(conv=>rhs;rw[<-List.map_id es]);refine Xbd λc C=> ?_;(conv=>rhs;rw[id,<-List.map_id c]);exact Xbd λq j=>by rw[ZkN (hp c C q j),(Zb9 (hp c C q j)).2.2.1];rfl);rw[e]at U;exact⟨es,I,U,R,h3⟩;rw[ZkN (hp c C q j)];exact(Zb9 (hp c C q j)).2.1
 |cell cs b=>simp only[RM]at J;obtain⟨a,aa,I,h0,h1,R,h3⟩:=J;cases h0;obtain⟨g1,g2,g3⟩:=ZjE (λV h=>Xaw.1 hm V h) R;refine⟨[aa],_,I,h1,λc C q j=>by rw[Xat.1 C]at j;exact g1 q j,λa=> ?_,λids base L' U=>⟨?_,λc C q j=>by rw[Xat.1 C]at j;exact(g3 ids base).2 q j⟩⟩;rw[Xa7,List.flatMap_nil,XaN];exact g2 a;simp only[RM];refine⟨_,_,I,rfl, ?_,(g3 ids base).1,h3⟩;rw[U,XaG];rfl
 |many ct ab b=>
  simp only[RM]at J;obtain⟨es,I,h1,R,h3⟩:=J;obtain⟨qs,rfl,h4⟩:=Zsv (λV h=>Xaw.1 hm V h) R;obtain⟨g1,g2,g3⟩:=ZjE (λV h=>Xaw.1 hm V h) h4;have one: ∀c∈qs.map (λq=> [q]),∀q∈c,q∈qs:=λc C q j=>by obtain⟨x,hx,rfl⟩:=XaU.1 C;rw[Xat.1 j];exact hx
  refine⟨_,1,I,h1,λc C q j=>g1 q (one c C q j),λa=> ?_,λids base L' U=>⟨?_,λc C q j=>(g3 ids base).2 q (one c C q j)⟩⟩;(·have e:(qs.map λq=> [q]).flatMap (λc=>c.flatMap Zb8)=qs.flatMap Zb8:=(by rw[List.flatMap_map];congr 1;funext q;rw[Xa7,List.flatMap_nil,XaN]);rw[e];exact g2 a);simp only[RM];refine⟨_,I,U, ?_,h3⟩;have:=Zw7 (g3 ids base).1;rw[XbE]at this|-;exact this
 |_=>first|(cases hl;done)|(cases hm;done)
def Zos: ∀ {xs ids:List Nat},(∀x∈xs,x∈ids)->xs.foldl Zb6 ids=ids
 | [],_,_=>rfl
 |x::r,ids,h=>by have e:Zb6 ids x=ids:=(by unfold Zb6;rw[if_pos (List.contains_iff_mem.2 (h x Xai))]);rw[List.foldl_cons,e];exact Zos λy j=>h y (Xaj _ j)
def Zsx {xs ids:List Nat} (j:ids.Nodup) (i:Nat):i∈xs.foldl Zb6 ids<->i∈ids\/i∈xs:=
 ⟨Zqs,λh=>h.elim ((Zcv xs ids j).2.1 i) ((Zcv xs ids j).2.2 i)⟩
def Zpp {q:PV} (h:Zgw q=true):Zb8 q=[]/\ ∀ids,ZbA q=true->ren ids q=q:=by
 have one: ∀cs:List PV,(cs.all λc=>match c with| .ref _ _ _ _| .ptr _ _ _| .map _| .agg _| .tup _| .func _ _ _=>false|_=>true)=true->cs.flatMap Zcz=[]/\ ∀ids,cs.map (Zlo ids)=cs:=by intro cs;induction cs with|nil=>intro _;exact⟨rfl,λ_=>rfl⟩|cons c r j=>intro h;rw[XbM,Xah]at h;obtain⟨g1,g2⟩:=j h.2;rw[Xa7,g1];cases c<;>first|(cases h.1;done)|exact⟨rfl,λids=>by rw[XaX,g2];rfl⟩
 cases q<;>first
  |(cases h;done)
  |exact⟨rfl,λ_ _=>rfl⟩
  |skip
 case func f a c=>
  simp only[Zgw,Xah,XbS]at h
  obtain⟨rfl,rfl⟩:=h
  exact⟨rfl,λ_ _=>rfl⟩
 case agg cs=>
  obtain⟨g1,g2⟩:=one cs h
  exact⟨g1,λids _=>by rw[ren,g2]⟩
def Zvx {es:List (List PV)} {z:Nat} {b:Bool} (I: ∀c∈es,∀q∈c,ZbA q=true) (ids:List Nat):(∀a,a∈ZmR (.row es z b)<->a∈es.flatMap λc=>c.flatMap Zb8)/\okM (.row es z b)=true/\Zns ids (.row es z b)= .row (es.map λc=>c.map (ren ids)) z b:=by
 cases hf:Zgz (.row es z b)with
 |true=>
  have J: ∀c∈es,∀q∈c,Zgw q=true:=λc j q C=>Xaw.1 (Xaw.1 hf c j) q C
  refine⟨λa=> ?_,by simp only[okM,hf,cond_true], ?_⟩;rw[Zfx hf];constructor;intro h;exact absurd h Xav;intro h;obtain⟨c,j,h⟩:=XaZ.1 h;obtain⟨q,C,h⟩:=XaZ.1 h;rw[(Zpp (J c j q C)).1]at h;exact h;·simp only[Zns,hf,cond_true];congr 1;(conv=>lhs;rw[<-List.map_id es]);refine Xbd λc j=> ?_;(conv=>lhs;rw[id,<-List.map_id c]);exact Xbd λq C=>((Zpp (J c j q C)).2 ids (I c j q C)).symm
 |false=>refine⟨λa=>by simp only[ZmR,hf,cond_false], ?_,by simp only[Zns,hf,cond_false]⟩;simp only[okM,hf,cond_false,Xaw];exact I
def ZzG {P:Program} {h:Hints} {f:FuncId} {qs:List PV} {v:PV} {V:SV} {Q:SV->List SM->Bool->Prop} (bl:(lim P h).rn f qs []=some (v,H)) (hh:RH φ hp (λa=>H[a]?)) (hv:RV φ V v) (hk:ZyB Q V hp) (base:Nat):
 ∃v rows sf φ V hp az,Zdj (lim P h) f qs base=some (v,rows,sf)/\RV φ V v/\RH φ hp (λa=>if base<=a then rows[a-base]? else none)/\(az=true->sf=true)/\Q V hp az:=by
 obtain⟨V',hp',a1,⟨hlen,al,hW⟩,hQ⟩:=hk;obtain⟨ab,a6,a7⟩:=ZrQ hv;obtain⟨ψ,_,hs⟩:=a1.out φ ⟨enterT 0 (Zbg v),H⟩ (Xap _) ⟨Zd2 ab,hh⟩;have bm:RL ψ (ZbS V') (Zbg v):=by refine Zk8 (by rw[<-hlen];exact ab.len) λi W hW=> ?_;obtain⟨q,C,I⟩:=hs.tm i W (by have:=ZiF (ZbS V') 0 i;rw[Xak]at this;rw[this];exact hW);have J:=Zgb (Zbg v) 0 i;rw[Xak]at J;exact⟨q,by rw[<-J];exact C,I⟩
 have aa:=hs.hp;obtain⟨a8,ba,ae⟩:=ZjE hW.ok bm;have ai:((enterT 0 (Zbg v)).flatMap λx=>Zb8 x.2)=(Zbg v).flatMap Zb8:=by have:=ZbD (Zbg v) 0;(conv=>rhs;rw[<-this]);rw[List.flatMap_map]
 have an: ∀x∈enterT 0 (Zbg v),x.2∈Zbg v:=λx hx=>by have:=Xbu (f:=λy:Nat×PV=>y.2) hx;rwa[ZbD]at this
 have ao: ∀ (j i:Nat) (m:SM),hp'[j]? =some m->live m=true->ψ[j]? =some (some i)->_:=λj i m C I J=>ZAj (hW.row j m C).1 I (aa.row _ _ _ C J)
 obtain⟨af,e0⟩: ∃ids,ZFD (enterT 0 (Zbg v))=ids:=⟨_,rfl⟩;have aj: ∀i,i∈af<-> ∃j∈(ZbS V').flatMap idW,ψ[j]? =some (some i):=λi=>by rw[<-ba i,<-e0,ZFD,ai,Zsx List.nodup_nil];exact⟨λh=>h.elim (λh=>absurd h Xav) id, .inr⟩
 have bb:af.Nodup:=by rw[<-e0];exact(Zcv _ [] List.nodup_nil).1
 have aq: ∀ (j i:Nat) (m:SM),hp'[j]? =some m->live m=true->ψ[j]? =some (some i)-> ∀a,a∈ZmE H i<-> ∃id∈ZHG m,ψ[id]? =some (some a):=λj i m C I J a=>by obtain⟨es,z,b,g1,g2,g3,_⟩:=ao j i m C I J;rw[Znp,g1,Zk6,(Zvx g2 []).1 a];exact g3 a
 obtain⟨ids,e1⟩: ∃ids,Zdf H af=ids:=⟨_,rfl⟩;have R: ∀i,i∈ids<-> ∃j m,hp'[j]? =some m/\live m=true/\ψ[j]? =some (some i):=λi=>by rw[<-e1,Zdf,Zsx bb];constructor;rintro(h|h);obtain⟨j,C,I⟩:=(aj i).1 h;obtain⟨m,J,U⟩:=hW.root j C;exact⟨j,m,J,U,I⟩;obtain⟨k,hk,h⟩:=XaZ.1 h;obtain⟨r,C,I⟩:=(aj k).1 hk;obtain⟨m,J,U⟩:=hW.root r C;obtain⟨j,h5,h6⟩:=(aq r k m J U I i).1 h;obtain⟨x,h7,h8⟩:=hW.ref r m J j h5;exact⟨j,x,h7,h8,h6⟩;rintro⟨j,m,C,I,J⟩;rcases(hW.row j m C).2 I with h|⟨r,hr,x,U,h5⟩;exact .inl ((aj i).2 ⟨j,h,J⟩);obtain⟨y,h6,h7⟩:=hW.root r hr;rw[U]at h6;cases h6;have bn:=(Xae.1 U).1;obtain⟨o,ho⟩: ∃o,ψ[r]? =some o:=⟨_,Xad (by rw[aa.len];exact bn)⟩;cases o with|none=>(have ak:=aa.row _ _ _ U ho;cases x with|cell cs b=>simp only[RM]at ak;obtain⟨_,_,_,h,_⟩:=ak;cases h|many ct bo b=>simp only[RM]at ak;subst ak;exact absurd h5 Xav|_=>exact absurd h5 Xav)|some k=>exact .inr (XaZ.2 ⟨k,(aj k).2 ⟨r,hr,ho⟩,(aq r k x U h7 ho i).2 ⟨j,h5,J⟩⟩)
 have bc: ∀i∈ids,∀a∈ZmE H i,a∈ids:=λi hi a ha=>by obtain⟨j,m,C,I,J⟩:=(R i).1 hi;obtain⟨k,U,h5⟩:=(aq j i m C I J a).1 ha;obtain⟨x,h6,h7⟩:=hW.ref j m C k U;exact(R a).2 ⟨k,x,h6,h7,h5⟩
 have ag:Zdf H ids=ids:=Zos λx hx=>by obtain⟨i,hi,h⟩:=XaZ.1 hx;exact bc i hi x h
 obtain⟨g,hg⟩: ∃g:Nat->Option Mem,(λi=>(H[i]?).bind λm=>if(okM m&&(ZmR m).all ids.contains)=true then some (Zns ids m)else none)=g:=⟨_,rfl⟩;have ar: ∀i∈ids,∃ (j:Nat) (m:SM) (es:List (List PV)) (z:Nat) (b:Bool),hp'[j]? =some m/\live m=true/\ψ[j]? =some (some i)/\g i=some (.row (es.map λc=>c.map (ren ids)) z b)/\(∀c∈es,∀q∈c,ZbA (ren ids q)=true)/\
  ∀ (L':Nat->Option Mem),L' (base+pos i ids)=some (.row (es.map λc=>c.map λq=>sh base (ren ids q)) z b)->RM (ψ.map (Option.map λa=>base+pos a ids)) L' (some (base+pos i ids)) m:=λi hi=>by
  obtain⟨j,m,C,I,J⟩:=(R i).1 hi;obtain⟨es,z,b,g1,g2,_,g4⟩:=ao j i m C I J;obtain⟨_,k2,k3⟩:=Zvx (z:=z) (b:=b) g2 ids;refine⟨j,m,es,z,b,C,I,J, ?_,(g4 ids base (λ_=>some (.row (es.map λc=>c.map λq=>sh base (ren ids q)) z b)) rfl).2,λL' hL=>(g4 ids base L' hL).1⟩;rw[<-hg];show(H[i]?).bind _=_;have g1:H[i]? =some (.row es z b):=g1;rw[g1,Xaa,k2,Bool.true_and,if_pos ?_,k3];rw[Xaw];intro a ha;refine List.contains_iff_mem.2 (bc i hi a ?_);rw[Znp,g1,Zk6];exact ha
 obtain⟨Hc,au⟩: ∃Hc,Za4 g ids=some Hc:=by
  have: ∀l:List Nat,(∀i∈l,i∈ids)-> ∃Hc,Za4 g l=some Hc:=by intro l;induction l with|nil=>intro _;exact⟨[],rfl⟩|cons i r ih=>intro hl;obtain⟨Hr,hr⟩:=ih λx hx=>hl x (Xaj _ hx);obtain⟨_,_,es,z,b,_,_,_,U,_⟩:=ar i (hl i Xai);exact⟨_,by rw[Zbh,hr,U];rfl⟩
  exact this ids λ_ h=>h
 have av:Zer (enterT 0 (Zbg v)) H=some ⟨(enterT 0 (Zbg v)).map λx=>(x.1,ren ids x.2),Hc⟩:=by rw[ZkZ,e0,e1,ag,ag];unfold ZnV;rw[if_pos ?_,hg,au];rfl;rw[Xaw];exact λx hx=>a8 x.2 (an x hx)
 have aw:((enterT 0 (Zbg v)).map λx=>(x.1,ren ids x.2)).map (λy=>sh base y.2)=(Zbg v).map λq=>sh base (ren ids q):=by have:=ZbD (Zbg v) 0;rw[XbE];(conv=>rhs;rw[<-this]);rw[XbE];rfl
 have bf:((((enterT 0 (Zbg v)).map λx=>(x.1,ren ids x.2)).all λy=>ZbA y.2)&&Hc.all ZAV)=true:=by rw[Xah,Xaw,Xaw];refine⟨λy hy=> ?_,λm hm=> ?_⟩;obtain⟨x,hx,rfl⟩:=XaU.1 hy;exact(ae ids base).2 x.2 (an x hx);obtain⟨i,hi,C⟩:=ZjJ au m hm;obtain⟨_,_,es,z,b,_,_,_,U,h5,_⟩:=ar i hi;rw[U]at C;cases C;simp only[ZAV,Xaw];intro c hc q hq;obtain⟨c',bp,rfl⟩:=XaU.1 hc;obtain⟨q',bq,rfl⟩:=XaU.1 hq;exact h5 c' bp q' bq
 have ah:=(ae ids base).1;refine⟨Zhr v ((Zbg v).map λq=>sh base (ren ids q)),Hc.map (shM base),(((enterT 0 (Zbg v)).map λx=>(x.1,ren ids x.2)).all λy=>Zdv y.2)&&Hc.all ZnQ,ψ.map (Option.map λa=>base+pos a ids),V',hp',false, ?_, ?_,⟨by simp[aa.len], ?_, ?_⟩,by simp,hQ⟩;simp only[Zdj,bl,Xaa,av];rw[if_pos bf,aw];cases hn:ZbB V' with
  |true=>have ax:ZbB V=true:=(by rw[al,hn]);(have hp1:ZbS V'=[V']:=by cases V'<;>first|rfl|cases hn);rw[hp1]at ah;obtain⟨q,C,I⟩:=RL1 ah;rw[C,a6 ax];exact I
  |false=>
   have ax:ZbB V=false:=(by rw[al,hn]);rw[a7 ax];cases V'<;>first
    |cases hn
    |skip
   simp only[RV];exact⟨_,rfl,ah⟩
 ·intro j m o hm ho;by_cases hl:live m=true;(·rw[XaC]at ho;obtain⟨o',ad,rfl⟩:=ZyD ho;cases o' with|none=>(have hr:=aa.row _ _ _ hm ad;cases m with|cell cs b=>simp only[RM]at hr;obtain⟨_,_,_,h,_⟩:=hr;cases h|row t l b=>simp only[RM,Option.map_none]at hr|-;exact hr|many ct bo b=>simp only[RM,Option.map_none]at hr|-;exact hr|dead=>trivial|_=>exact absurd (hW.row j _ hm).1 (by simp[ZIh]))|some i=>have hi:i∈ids:=(R i).2 ⟨j,m,hm,hl,ad⟩;obtain⟨j',m',es,z,b,C,I,J,U,_,h6⟩:=ar i hi;have bs:j'=j:=(by apply Classical.byContradiction;intro ay;exact aa.inj _ _ _ _ _ ay C hm I hl J ad);subst bs;rw[C]at hm;cases hm;refine h6 _ ?_;show(if base<=base+pos i ids then(Hc.map (shM base))[base+pos i ids-base]? else none)=_;rw[if_pos (by omega),show base+pos i ids-base=pos i ids from by omega,XaC,(Zm9 au).2,ZfL hi,Xaa,U];simp only[Xal,shM,XbE];congr 2;refine Xbd λc _=> ?_;show(c.map (ren ids)).map (sh base)=_;rw[XbE];rfl);cases m with|dead=>trivial|_=>exact absurd rfl hl
 intro j j' m m' a ay hm bg hl bh ho ad;rw[XaC]at ho ad;obtain⟨o,C,I⟩:=ZyD ho;obtain⟨o',bj,bk⟩:=ZyD ad;cases o with|none=>cases I|some x=>cases o' with|none=>cases bk|some x'=>simp only[Xal,Xaf]at I bk;have e1:=ZfL ((R x).2 ⟨j,m,hm,hl,C⟩);have e2:=ZfL ((R x').2 ⟨j',m',bg,bh,bj⟩);rw[show pos x ids=pos x' ids from by omega]at e1;rw[e1]at e2;cases e2;exact aa.inj _ _ _ _ _ ay hm bg hl bh C bj
def Zbs {P:Program} {h:Hints} {T:TypeId->TI} (hT:TysOK P T) {f:FuncId} {fn:Func} {Vs:List SV} {Q:SV->List SM->Bool->Prop} (hf:P.funcs[f]? =some fn)
 (hw:CodeOK P h 0 ⟨f,0,fn.ntmps⟩ (bodyOf fn) (Zch 0 Vs) [] (ZnZ T fn.results.toList λV hp=>ZyB Q V hp))
 (j:h.ok f=true:=by kernel_rfl) (U:fn.body=some (bodyOf fn):=by kernel_rfl) (hn:Vs.length<=fn.ntmps:=by exact Xao (by kernel_rfl)):ImpOK P h f Vs Q:=by
 refine⟨λqs J base=> ?_⟩;obtain⟨e,C,φ',tm',hp',h1,h2,R,h4⟩:=hw.out [] ⟨enterT 0 qs,[]⟩ (Xap _) ⟨Zd2 J,RH.empty⟩;obtain⟨v,V,h5,h6,h7⟩:=ZnM hT R h4;have I:(lim P h).rn f qs []=some (v,C.hp):=by refine Zs8 j hf U (by rw[<-J.len];exact hn) ?_;show(exS P h (lim P h) ⟨f,0,fn.ntmps⟩ (bodyOf fn) ⟨enterT 0 qs,[]⟩).bind _=_;rw[h1,Xaa];exact h5
 exact ZzG I R.hp h6 h7 base
end
mutual
theorem ZFB (b:Nat): ∀V:SV,shS b V=rnV (λj=>b+j) V
 | .ref _ _ _ _| .ptr _ _ _| .v _ _| .nilp| .nils| .nilf| .nili| .nilmp| .box _ _ _| .cl _ _| .mp _=>rfl
 | .func f a c=>by rw[shS,rnV,shL_rn b a,shL_rn b c]
 | .agg cs=>by rw[shS,rnV,shL_rn b cs]
 | .tup vs=>by rw[shS,rnV,shL_rn b vs]
theorem shL_rn (b:Nat): ∀l:List SV,shL b l=rnL (λj=>b+j) l
 | []=>rfl
 |V::r=>by rw[shL,rnL,ZFB b V,shL_rn b r]
end
def ZFb (b:Nat) (m:SM):shH b m=rnM (λj=>b+j) m:=by cases m<;>simp only[shH,rnM,shL_rn]
def ZBl {tm tm':TM} {hp0 hp1:List SM} {b:Nat} (R:b=hp0.length) (I:ZyK (λj=>b+j) hp1.length tm tm') (C: ∀ (j:Nat) (m:SM),hp1[j]? =some m-> ∀id∈Zes m,id<hp1.length):Ent 0 tm (hp0++Zt2 b hp1) tm' hp1:=by
 have U:(hp0++Zt2 b hp1).length=b+hp1.length:=by rw[Xas,Zmq,XaG,R]
 refine Zfv (λj=>b+j) (Xap _) (λj J=>absurd J (Xa1 j)) (λj J=>by rw[U];exact Nat.add_lt_add_left J b) (λi j _ _ h=>Nat.add_left_cancel h) I λj m hm=> .inr ⟨?_,C j m hm⟩;rw[Xaz (by omega),<-R,Xbh,Zmq,XaC,hm,Xal,ZFb]
def Zwc {tm tm':TM} {C ex:List SM} (J: ∀m∈C,∀id∈Zes m,id<C.length) (I:ZyK id C.length tm tm'):Ent 0 tm (C++ex) tm' C:=by refine Zfv id (Xap _) (λ_ _=>rfl) (λj R=>by rw[Xas];exact Xa6 R (Nat.le_add_right _ _)) (λi j _ _ h=>h) I λj m hm=> ?_;have h:=J m (XaF hm);refine .inr ⟨?_,h⟩;rw[Zmh (f:=id) (p:=C.length) (λ_ _=>rfl) m h];show(C++ex)[j]? =some m;rw[Xam (Xae.1 hm).1,hm]
def Zfj {P:Program} {h:Hints} {T:TypeId->TI} {tm:TM} {hp:List SM} {op:Op} {c:Call} {f:FuncId} {V W:SV} {k:SV->List SM->Prop} (j:op= .call c) (C:c.callee= .value (.func f)) (I:evL tm c.args.toList=some [V,W]) (J:h.opn f=false) (U:h.imp f=true) (he:ZdB hp 40 V λv=>ZdB hp 40 W λw=>ImpOK P h f [v,w] λR hn sf=>k (shS hp.length R) ((match sf with|true=>hp|false=>frzT hp (ZdX hp [V,W]))++Zt2 hp.length hn)):opT P h T op tm hp k:=by subst j;simp only[opT,ZfU,I,C,evS,Zb1,J,U,ZyL,Zds];exact he
def ZkP {α:Type} {j:Nat}: ∀ {xs:List (List α)} {p:Nat},j∈(Zaz p xs).flatMap idW<->p<=j/\j<p+xs.length
 | [],p=>⟨λh=>absurd h Xav,λh=>by simp only[XbG]at h;omega⟩
 |x::r,p=>by rw[Zaz,Xa7,XaJ,ZkP,Xaq];show j∈ [p]\/_<->_;rw[Xat];omega
def Zsu {α:Type}: ∀ {xs:List (List α)} {p:Nat},(Zaz p xs).all okW=true
 | [],_=>rfl
 |x::r,p=>by rw[Zaz,XbM,Zsu];rfl
def ZAW {ct:CT} {xs:List (List ct.D)} {ex:List SM} {Vs:List SV} (hV: ∀V∈Vs,okW V=true) (U:0∈Vs.flatMap idW) (hex: ∀ (e:Nat) (m:SM),ex[e]? =some m->(∃t l b,m= .row t l b)/\xs.length+1+e∈Vs.flatMap idW) (hr: ∀j∈Vs.flatMap idW,j<xs.length+1+ex.length):
 ImpW Vs (.many (.l ct) (Zaz 1 xs) true::([]++(ZaU ct xs++ex))):=by
 have cls: ∀ (j:Nat) (m:SM),(SM.many (.l ct) (Zaz 1 xs) true::([]++(ZaU ct xs++ex)))[j]? =some m->(j=0/\m= .many (.l ct) (Zaz 1 xs) true)\/(1<=j/\j<1+xs.length/\ ∃t l b,m=SM.row t l b)\/((∃t l b,m=SM.row t l b)/\j∈Vs.flatMap idW):=λj m hm=>by cases j with|zero=>cases hm;exact .inl ⟨rfl,rfl⟩|succ j=>right;rw[XaP,Xbl]at hm;by_cases I:j<xs.length;rw[Xam (by rw[Zaq];exact I),ZcH I]at hm;cases hm;exact .inl ⟨by omega,by omega,_,_,_,rfl⟩;rw[Xaz (by rw[Zaq];omega),Zaq]at hm;obtain⟨J,R⟩:=hex _ _ hm;exact .inr ⟨J,by rw[show j+1=xs.length+1+(j-xs.length)by omega];exact R⟩
 have C: ∀j,j<xs.length+1+ex.length-> ∃m,(SM.many (.l ct) (Zaz 1 xs) true::([]++(ZaU ct xs++ex)))[j]? =some m/\live m=true:=λj I=>by have hl:j<(SM.many (.l ct) (Zaz 1 xs) true::([]++(ZaU ct xs++ex))).length:=(by simp only[Xaq,Xbl,Xas,Zaq];omega);refine⟨_,Xad hl, ?_⟩;rcases cls j _ (Xad hl)with⟨_,h⟩|⟨_,_,_,_,_,h⟩|⟨⟨_,_,_,h⟩,_⟩<;>rw[h]<;>rfl
 refine⟨hV,λj m hm=> ?_,λj I=>C j (hr j I),λj m hm i hi=> ?_⟩;rcases cls j m hm with⟨rfl,rfl⟩|⟨J,R,_,_,_,rfl⟩|⟨⟨_,_,_,rfl⟩,h⟩;exact⟨Zsu,λ_=> .inl U⟩;exact⟨rfl,λ_=> .inr ⟨0,U,_,rfl,ZkP.2 ⟨J,R⟩⟩⟩;exact⟨rfl,λ_=> .inl h⟩;rcases cls j m hm with⟨rfl,rfl⟩|⟨J,R,_,_,_,rfl⟩|⟨⟨_,_,_,rfl⟩,h⟩;have:=ZkP.1 hi;exact C i (by omega);exact absurd hi Xav;exact absurd hi Xav
def Zln {ct:CT} {l:List ct.D} {N:Nat}:ImpW [.ref 0 0 N none] [.row ct l true]:=by
 refine⟨λV I=>by rw[Xat.1 I];rfl,λj m hm=> ?_,λj C=> ?_,λj m hm i hi=> ?_⟩;match j with|0=>cases hm;exact⟨rfl,λ_=> .inl Xai⟩|_+1=>cases hm
 have C:j=0:=Xat.1 C;subst C;exact⟨_,rfl,rfl⟩;match j with|0=>cases hm;exact absurd hi Xav|_+1=>cases hm
end Go.Tx
namespace Go.Proofs.YtplkkbcnilnfaaaGreatDoor
def Zil (x:Nat×Nat) (v:Nat):Bool:=decide (x.1=v)||decide (x.2=v)
def oth (x:Nat×Nat) (v:Nat):Nat:=x.1+x.2-v
def Za3 (out:List Int) (v:Nat):Bool:=decide (out.getD v 0<0)
def Za9 (wo:Int) (at_ m:Nat):Nat->List (Nat×Nat)->List Int->List Nat->List Int×List Nat
 |_,[],out,todo=>(out,todo)
 |k,x::r,out,todo=>if(!decide ((k:Int)=wo)&&Zil x at_&&Za3 out (oth x at_))=true then Za9 wo at_ m (k+1) r (out.set (oth x at_) m) (todo++ [oth x at_])else Za9 wo at_ m (k+1) r out todo
def cnt (out:List Int):Nat:=(out.filter λx=>decide (x<0)).length
def Znn: ∀ {out:List Int} {i:Nat} (m:Nat),Za3 out i=true->cnt (out.set i m)+1=cnt out
 | [],i,m,h=>by simp[Za3]at h
 |x::r,0,m,h=>by have j:x<0:=(by simpa[Za3]using h);have C:decide ((m:Int)<0)=false:=decide_eq_false (by omega);rw[List.set_cons_zero];simp only[cnt,List.filter_cons,C,decide_eq_true j,if_true,Xaq];simp
 |x::r,i+1,m,h=>by have I:=Znn (out:=r) (i:=i) m (by simpa[Za3]using h);unfold cnt at I|-;rw[List.set_cons_succ,List.filter_cons,List.filter_cons];split<;>(try simp only[Xaq])<;>omega
def Zms {out:List Int} {i:Nat} (h:Za3 out i=true):i<out.length:=by unfold Za3 at h;by_cases hi:i<out.length;exact hi;rw[Xan,Xax (by omega)]at h;simp at h
def ZqI {wo:Int} {at_ m:Nat} {k:Nat} {l:List (Nat×Nat)} (h:k<l.length) {out:List Int} {todo:List Nat} (j:(!decide ((k:Int)=wo)&&Zil l[k] at_&&Za3 out (oth l[k] at_))=false):Za9 wo at_ m k (l.drop k) out todo=Za9 wo at_ m (k+1) (l.drop (k+1)) out todo:=by rw[XaL h,Za9,if_neg (by rw[j];simp)]
def Zrk {wo:Int} {at_ m:Nat} {k:Nat} {l:List (Nat×Nat)} (h:k<l.length) {out:List Int} {todo:List Nat} (j:(!decide ((k:Int)=wo)&&Zil l[k] at_&&Za3 out (oth l[k] at_))=true):Za9 wo at_ m k (l.drop k) out todo=Za9 wo at_ m (k+1) (l.drop (k+1)) (out.set (oth l[k] at_) m) (todo++ [oth l[k] at_]):=by rw[XaL h,Za9,if_pos j]
def okL (n:Nat) (l:List (Nat×Nat)):Prop:= ∀x∈l,x.1<n/\x.2<n
def ZeY (wo:Int) (at_ m:Nat): ∀ (l:List (Nat×Nat)) (k:Nat) (out:List Int) (todo:List Nat),(Za9 wo at_ m k l out todo).1.length=out.length
 | [],_,_,_=>rfl
 |x::r,k,out,todo=>by rw[Za9];split;rw[ZeY wo at_ m r,XaB];exact ZeY wo at_ m r _ _ _
def Zgq (wo:Int) (at_ m:Nat): ∀ (l:List (Nat×Nat)) (k:Nat) (out:List Int) (todo:List Nat),cnt (Za9 wo at_ m k l out todo).1+(Za9 wo at_ m k l out todo).2.length=cnt out+todo.length
 | [],_,_,_=>rfl
 |x::r,k,out,todo=>by rw[Za9];split;rename_i h;simp only[Xah]at h;have:=Znn m h.2;rw[Zgq wo at_ m r,Xas,Xaq,XbG];omega;exact Zgq wo at_ m r _ _ _
def ZgN (wo:Int) (at_ m n:Nat): ∀ (l:List (Nat×Nat)) (k:Nat) (out:List Int) (todo:List Nat),out.length=n->(∀v∈todo,v<n)-> ∀v∈(Za9 wo at_ m k l out todo).2,v<n
 | [],_,_,_,_,h=>h
 |x::r,k,out,todo,j,h=>by rw[Za9];split;rename_i C;simp only[Xah]at C;refine ZgN wo at_ m n r _ _ _ (by rw[XaB];exact j) ?_;intro v hv;rcases XaJ.1 hv with hv|hv;exact h v hv;rw[Xat.1 hv,<-j];exact Zms C.2;exact ZgN wo at_ m n r _ _ _ j h
def Zfd (wo:Int) (l:List (Nat×Nat)) (m:Nat):Nat->List Int->List Nat->List Int
 |0,out,_=>out
 |_+1,out,[]=>out
 |f+1,out,v::todo=>Zfd wo l m f (Za9 wo v m 0 l out todo).1 (Za9 wo v m 0 l out todo).2
def ZhE (wo:Int) (l:List (Nat×Nat)) (m:Nat): ∀ (f:Nat) (out:List Int) (todo:List Nat),(Zfd wo l m f out todo).length=out.length
 |0,_,_=>rfl
 |_+1,_,[]=>rfl
 |f+1,out,v::todo=>by rw[Zfd,ZhE wo l m f,ZeY]
def ZbZ (wo:Int) (l:List (Nat×Nat)):Nat->Nat->Nat->List Int->List Int
 |0,_,_,out=>out
 |k+1,i,m,out=>if Za3 out i=true then ZbZ wo l k (i+1) (m+1) (Zfd wo l m (cnt (out.set i m)+1) (out.set i m) [i])else ZbZ wo l k (i+1) m out
def ZeJ (wo:Int) (l:List (Nat×Nat)) (n:Nat):List Int:=ZbZ wo l n 0 0 (List.replicate n (-1))
def Zhc (wo:Int) (l:List (Nat×Nat)): ∀ (k i m:Nat) (out:List Int),(ZbZ wo l k i m out).length=out.length
 |0,_,_,_=>rfl
 |k+1,i,m,out=>by rw[ZbZ];split;rw[Zhc wo l k,ZhE,XaB];exact Zhc wo l k _ _ _
def ZeT (wo:Int) (l:List (Nat×Nat)) (n:Nat):(ZeJ wo l n).length=n:=by rw[ZeJ,Zhc,XaM]
def Nbd (m:Nat) (a b:List Int):Prop:=(∀j,0<=a.getD j 0->0<=b.getD j 0)/\((∀x∈a,x<=m)-> ∀x∈b,x<=m)
def ZvP (m:Nat) (a:List Int) (i:Nat):Nbd m a (a.set i m):=by refine⟨λj h=> ?_,λh x C=> ?_⟩;rw[Xan,List.getElem?_set]at*;split;split;exact XaH m;exact Xbw 0;exact h;rcases Xa4 C with h'|h';exact h x h';rw[h'];exact Xbw _
def Zib (wo:Int) (at_ m:Nat): ∀ (l:List (Nat×Nat)) (k:Nat) (out:List Int) (todo:List Nat),Nbd m out (Za9 wo at_ m k l out todo).1
 | [],_,_,_=>⟨λ_ h=>h,λh=>h⟩
 |x::r,k,out,todo=>by rw[Za9];split;have C:=Zib wo at_ m r (k+1) (out.set (oth x at_) m) (todo++ [oth x at_]);have I:=ZvP m out (oth x at_);exact⟨λj h=>C.1 j (I.1 j h),λh=>C.2 (I.2 h)⟩;exact Zib wo at_ m r _ _ _
def ZoS (wo:Int) (l:List (Nat×Nat)) (m:Nat): ∀ (f:Nat) (out:List Int) (todo:List Nat),Nbd m out (Zfd wo l m f out todo)
 |0,_,_=>⟨λ_ h=>h,λh=>h⟩
 |_+1,_,[]=>⟨λ_ h=>h,λh=>h⟩
 |f+1,out,v::todo=>by rw[Zfd];have C:=Zib wo v m l 0 out todo;have I:=ZoS wo l m f (Za9 wo v m 0 l out todo).1 (Za9 wo v m 0 l out todo).2;exact⟨λj h=>I.1 j (C.1 j h),λh=>I.2 (C.2 h)⟩
def Zg1 (wo:Int) (l:List (Nat×Nat)): ∀ (k i m:Nat) (out:List Int),(∀j,j<i->0<=out.getD j 0)->(∀x∈out,x<m)->m<=i->(∀j,j<i+k->0<=(ZbZ wo l k i m out).getD j 0)/\ ∀x∈ZbZ wo l k i m out,x<((i+k:Nat):Int)
 |0,i,m,out,I,J,U=>⟨I,λx C=>by have:=J x C;omega⟩
 |k+1,i,m,out,I,J,U=>by have e:i+(k+1)=i+1+k:=(by omega);rw[ZbZ,e];cases R:Za3 out i with|true=>rw[if_pos rfl];have d0:=ZvP m out i;have d1:=ZoS wo l m (cnt (out.set i m)+1) (out.set i m) [i];have hb:=d1.2 (d0.2 λx C=>by have:=J x C;omega);refine Zg1 wo l k (i+1) (m+1) _ (λj hj=>d1.1 j ?_) (λx C=>by have:=hb x C;omega) (by omega);by_cases c:j=i;subst c;rw[Xan,XaE (Zms R)];exact XaH m;exact d0.1 j (I j (by omega))|false=>rw[if_neg (by simp)];refine Zg1 wo l k (i+1) m out (λj hj=> ?_) J (by omega);by_cases c:j=i;subst c;unfold Za3 at R;have:=of_decide_eq_false R;omega;exact I j (by omega)
def ZlJ (wo:Int) (l:List (Nat×Nat)) (n:Nat): ∀x∈ZeJ wo l n,0<=x/\x<(n:Int):=by
 have h:=Zg1 wo l n 0 0 (List.replicate n (-1)) (λj I=>absurd I (Xa1 j)) (λx C=>by rw[List.eq_of_mem_replicate C];decide) (Xag 0);rw[Xak]at h;intro x C;obtain⟨j,I,rfl⟩:=List.mem_iff_getElem.1 C;refine⟨?_,h.2 _ C⟩;have J:=ZeT wo l n;have:=h.1 j (by omega);have e:(ZbZ wo l n 0 0 (List.replicate n (-1))).getD j 0=(ZeJ wo l n)[j]:=by rw[Xan,show ZbZ wo l n 0 0 (List.replicate n (-1))=ZeJ wo l n from rfl,Xad I];rfl
 rw[e]at this;exact this
end Go.Proofs.YtplkkbcnilnfaaaGreatDoor
namespace Go.Tx
open Go.Am
section
variable {P:Program} {h:Hints} {T:TypeId->TI} {hp:List SM} {tm:TM} {op:Op} {k:SV->List SM->Prop}
def ZDm {t e:TypeId} {x b:Operand} {id i n:Nat} {m:Option Nat} {ct:CT} {l:List ct.D} {bb:Bool} {I:IntKind} {v:Int} (J:op= .slice t x none (some b) none) (R:evS tm x=some (.ref id i n m)) (j:(T t).k= .slice e) (U:ZcO (T e).k=false) (hn:nth hp id=some (.row ct l bb)) (C:Nat.beq ct.w (T e).sz=true)
 (hb:evS tm b=some (.v (.i I) v)) (hj:0<=v/\v<=((m.getD n:Nat):Int)) (hk:k (.ref id (i+0) (v.toNat-0) (some (m.getD n-0))) hp):opT P h T op tm hp k:=by subst J;simp only[opT,R,ZpL,j,hn,C,ZyM,hb];generalize(T e).k=q at*;cases q<;>first|(cases U;done)|(simp only[];rw[C];exact⟨hj,hk⟩)
def ZqW {t e:TypeId} {x a:Operand} {id i n:Nat} {ct:CT} {l:List ct.D} {bb:Bool} {I:IntKind} {u:Int} (J:op= .slice t x (some a) none none) (R:evS tm x=some (.ref id i n none)) (j:(T t).k= .slice e) (U:ZcO (T e).k=false) (hn:nth hp id=some (.row ct l bb)) (C:Nat.beq ct.w (T e).sz=true)
 (ha:evS tm a=some (.v (.i I) u)) (hj:0<=u/\u<=(n:Int)) (hk:k (.ref id (i+u.toNat) (n-u.toNat) none) hp):opT P h T op tm hp k:=by subst J;simp only[opT,R,ZpL,j,hn,C,ZyM,ha];generalize(T e).k=q at*;cases q<;>first|(cases U;done)|(simp only[];rw[C];exact⟨hj,hk⟩)
def Ztx {α:Type} {l:List α} {i:Nat} {x:α} (h:nth l i=some x):l.set i x=l:=by rw[ZaK]at h;obtain⟨hi,rfl⟩:=Xae.1 h;exact List.set_getElem_self hi
def ZAJ {ct:CT} {id i n:Nat} {m:Option Nat} {l:List ct.D} {c:Call} {t e:TypeId} {ts:List TypeId} (U:op= .call c) (hc:c.callee= .builtin .clear) (ha:evL tm c.args.toList=some [.ref id i n m]) (ht:c.argTypes.toList=t::ts) (C:(T t).k= .slice e) (I:(T e).ct=some ct) (j:(ZcO (T e).k,Nat.ble 1 (T e).sz)=(false,true))
 (hn:nth hp id=some (.row ct l true)) (h1:i+n<=l.length) (hk:k (.tup []) (hp.set id (.row ct (spl l i (List.replicate n ct.z)) true))):opT P h T op tm hp k:=by simp only[Prod.mk.injEq]at j;obtain⟨J,R⟩:=j;simp only[U,opT,ZfU,ha,hc,Zti,ht,C,I,R,hn];generalize(T e).k=kk at*;cases kk<;>first|(cases J;done)|(simp only[];rw[dif_pos (Ze9 ct)];exact⟨h1,hk⟩)
end
end Go.Tx
