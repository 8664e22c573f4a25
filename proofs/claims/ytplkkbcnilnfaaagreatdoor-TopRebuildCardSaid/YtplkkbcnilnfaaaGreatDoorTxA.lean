/- A function whose first part the program logic walks and whose last part the kit's calculus does. -/
import Derived.Lib.ItoaNum
import GoSem.Op.String
import Derived.Lib.Bytealg
import Derived.Test.YtplkkbcnilnfaaaGreatDoorTxG
import Derived.Lib.LaidTab
import Derived.Lib.ItoaMem
set_option linter.all false
set_option maxHeartbeats 4000000
set_option maxRecDepth 100000
open Go.Proofs.Tryz
open Go.IntKind(i64 u32 u64)
namespace Go.Tx
open Go.Am Go.RowKit
def preC:Nat->Code->Code
 |n+1, .seq a r=>match n with
  |0=>a
  |_+1=> .seq a (preC n r)
 |_,c=>c
def Zou:Nat->Code->Code
 |n+1, .seq _ r=>match n with
  |0=>r
  |_+1=>Zou n r
 |_,c=>c
def ZtB:Nat->Code->Bool
 |n+1, .seq _ r=>match n with
  |0=>true
  |_+1=>ZtB n r
 |_,_=>false
section
variable [Laid] {P:Program} {h:Hints}
def ZBy (hS:Static P h) (I:ZbX P h) {c:Cx} {code:Code} {s C:St} {e:Ex} (J:exS P h (lim P h) c code s=some (e,C)) (j:Zbq h c.fid code=true):Hyp c s e C (λQ a w=>code.wp P Q a w):=by have R:=Zep c code s _ J;obtain⟨n,U⟩:=ZfD.ex _ _ _ _ R;exact((ZdN hS I n).2.1 _ _ _ _ _ (U n (Xag _)) j).1
def ZoU (hS:Static P h) (hP:ZbX P h) {c:Cx}: ∀ (n:Nat) (code:Code) (s:St) (e:Ex) (J:St),ZtB n code=true->exS P h (lim P h) c (preC n code) s=some (e,J)->Zbq h c.fid (preC n code)=true->
 ∀φ S w a B,Inv φ s.hp w S B->TRel φ w S c.N s.tm a->c.base<=s.hp.length-> ∀Q:Exit->Act->World->Prop,
 (∀R w' φ' S',Inv φ' J.hp w' S' B->Evo c.base B φ S w φ' S' w'->TRel φ' w' S' c.N J.tm R->(e≠ .normal->Q (conv e) R w')/\(e= .normal->(Zou n code).wp P Q R w'))->code.wp P Q a w
 |0,code,s,e,J,hi,_,_=>by cases code<;>cases hi
 |n+1,code,s,e,J,hi,hx,aa=>by intro φ S w a B hI hT hb Q hQ;cases code with|seq x r=>(cases n with|zero=>(refine wp_seq (ZBy hS hP hx aa φ S w a B hI hT hb _ ?_);intro R w' φ' S' h1 h2 h3 _;obtain⟨q1,q2⟩:=hQ R w' φ' S' h1 h2 h3;cases e with|normal=>exact q2 rfl|exit j=>exact q1 (by simp)|ret=>exact q1 (by simp))|succ n=>have C:(exS P h (lim P h) c x s).bind (ZgA (exS P h (lim P h) c (preC (n+1) r)))=some (e,J):=hx;have I:(Zbq h c.fid x&&Zbq h c.fid (preC (n+1) r))=true:=aa;rw[Xah]at I;cases h1:exS P h (lim P h) c x s with|none=>rw[h1]at C;cases C|some y=>obtain⟨e1,s1⟩:=y;rw[h1,Xaa]at C;refine wp_seq (ZBy hS hP h1 I.1 φ S w a B hI hT hb _ ?_);intro a1 w1 U S1 g1 g2 g3 g4;cases e1 with|normal=>refine ZoU hS hP (n+1) r s1 e J hi C I.2 U S1 w1 a1 B g1 g3 g4 Q ?_;intro R w' φ' S' k1 k2 k3;exact hQ R w' φ' S' k1 (g2.trans k2) k3|exit j=>simp only[ZgA,Xaf,Prod.mk.injEq]at C;obtain⟨rfl,rfl⟩:=C;exact(hQ a1 w1 U S1 g1 g2 g3).1 (by simp)|ret=>simp only[ZgA,Xaf,Prod.mk.injEq]at C;obtain⟨rfl,rfl⟩:=C;exact(hQ a1 w1 U S1 g1 g2 g3).1 (by simp))|_=>cases hi
def Zyb (hS:Static P h) (hP:ZbX P h) {T:TypeId->TI} (hT:TysOK P T) {f:FuncId} {fn:Func} {code:Code} (n:Nat) (hi:ZtB n code=true) (hf:P.funcs[f]? =some fn) (hb:fn.body=some code) {Vs:List SV} {qs:List PV} {vals:List Value}
 (hn:Vs.length<=fn.ntmps) (J:Zbq h f (preC n code)=true) {K:Ex->TM->List SM->Prop} (hw:wp P h T 0 ⟨f,0,fn.ntmps⟩ (preC n code) (Zch 0 Vs) [] K) (hr:RL [] Vs qs) {S:Nat->Prop} {w:World} (U: ∀b,S b->b<w.heap.size) (hL:Laid.ok S w) (hv:LRel w S qs vals) {R:Ending->World->Prop}
 (hQ: ∀e st tm hp aa j w' φ' S',K e tm hp->SRep aa tm hp st->Inv φ' st.hp w' S' w.heap.size->Evo 0 w.heap.size (λ_=>none) S w φ' S' w'->TRel φ' w' S' fn.ntmps st.tm j->(e≠ .normal->bodyPost P fn R (conv e) j w')/\(e= .normal->(Zou n code).wp P (bodyPost P fn R) j w')):
 Calls P f vals.toArray w R:=by
 obtain⟨e,C,φ',tm',hp',h1,_,h3,h4⟩:=Zo5 hT _ _ _ _ _ [] ⟨enterT 0 qs,[]⟩ hw (Xap _) ⟨Zd2 hr,RH.empty⟩;have I:=ZfW hv;have hlen:=VL.length I;have hq:=hr.len;refine calls_of_wp hf hb (ZoU hS hP n code _ e C hi h1 J (λ_=>none) S w _ w.heap.size (Inv.empty S w U hL) ?_ (Xag _) _ λj w' φ' S' k1 k2 k3=>hQ e C tm' hp' _ j w' φ' S' h4 h3 k1 k2 k3);refine⟨by simp;omega,rfl, ?_⟩;intro i p hp;obtain⟨_,h5⟩:=ZeO qs 0 i p hp;simp only[Nat.sub_zero]at h5;obtain⟨u,h6,h7⟩:=VL.get I h5;have hi:=(Xae.1 h6).1;refine⟨by show i<fn.ntmps;omega, ?_⟩;have:(vals.toArray++Array.replicate (fn.ntmps-vals.toArray.size) undef).getD i undef=u:=by rw[XbP,Array.getElem?_append_left (by simpa using hi)];simp[h6]
 rw[this];exact h7
end
end Go.Tx
namespace Dv
open Go Go.Lib
def ZI5:List UInt8->Nat->Nat
 | [],n=>n
 |c::s,n=>ZI5 s (10*n+(c.toNat-48))
def ZsU (n:Nat) (s:List UInt8):Nat:=ZI5 s n
def dec (s:List UInt8):Nat:=ZsU 0 s
def Dg (s:List UInt8):Prop:= ∀c∈s,48<=c.toNat/\c.toNat<=57
def Cn (s:List UInt8):Prop:=s≠ []/\Dg s/\(1<s.length->s.head?≠some 48)
def Zzs (n:Nat):ZsU n []=n:=rfl
def ZeF (n:Nat) (c:UInt8) (s:List UInt8):ZsU n (c::s)=ZsU (10*n+(c.toNat-48)) s:=by unfold ZsU;rfl
def Zm5:dec []=0:=rfl
def ZkB: ∀ (s:List UInt8) (n:Nat),ZsU n s=n*10^s.length+dec s
 | [],n=>by rw[Zzs,Zm5];simp
 |c::s,n=>by have j:dec (c::s)=ZsU (10*0+(c.toNat-48)) s:=ZeF 0 c s;rw[ZeF,ZkB s,j,ZkB s (10*0+_),Xaq,Nat.pow_succ,Xbv,Xbv];have:10*n*10^s.length=n*(10^s.length*10):=(by rw[Nat.mul_comm 10 n,XbX,Nat.mul_comm 10]);omega
def ZqP (s t:List UInt8):dec (s++t)=dec s*10^t.length+dec t:=by
 have: ∀ (s t:List UInt8) (n:Nat),ZsU n (s++t)=ZsU (ZsU n s) t:=by intro s;induction s with|nil=>intro t n;rfl|cons c s j=>intro t n;exact j t _
 rw[dec,this,ZkB];rfl
def Zhu (c:UInt8) (s:List UInt8):dec (c::s)=(c.toNat-48)*10^s.length+dec s:=by rw[show dec (c::s)=ZsU (10*0+(c.toNat-48)) s from ZeF 0 c s,ZkB];simp
def Zny (c:UInt8):dec [c]=c.toNat-48:=by rw[Zhu,Zm5];simp
def Zsi (s:List UInt8) (c:UInt8):dec (s++ [c])=dec s*10+(c.toNat-48):=by rw[ZqP,Zny];simp
def Dg.app {s t:List UInt8} (j:Dg s) (C:Dg t):Dg (s++t):=λc I=>(XaJ.1 I).elim (j c) (C c)
def Dg.left {s t:List UInt8} (h:Dg (s++t)):Dg s:=λc j=>h c (Xa8 _ j)
def Dg.right {s t:List UInt8} (h:Dg (s++t)):Dg t:=λc j=>h c (XaT _ j)
def ZoO {s:List UInt8} (h:Dg s):dec s<10^s.length:=by induction s with|nil=>rw[Zm5];simp|cons c s j=>have I:=h c Xai;have J:=j λx C=>h x (Xaj _ C);rw[Zhu,Xaq,Nat.pow_succ];have R:(c.toNat-48)*10^s.length<=9*10^s.length:=Xbx _ (by omega);omega
def ZtO {c:UInt8} (j:48<=c.toNat):UInt8.ofNat (48+(c.toNat-48))=c:=by rw[show 48+(c.toNat-48)=c.toNat by omega,UInt8.ofNat_toNat]
def Cn.ge {s:List UInt8} (h:Cn s) (C:1<s.length):10^(s.length-1)<=dec s:=by obtain⟨_,I,j⟩:=h;cases s with|nil=>simp at C|cons c s=>have j:=j C;have J:=I c Xai;have:c.toNat≠48:=λe=>j (by simp only[List.head?_cons,Xaf];exact UInt8.toNat_inj.1 (by rw[e];rfl));rw[Zhu,Xaq,Nat.add_sub_cancel];have j:1*10^s.length<=(c.toNat-48)*10^s.length:=Xbx _ (by omega);omega
def Cn.left {s:List UInt8} {c:UInt8} (h:Cn (s++ [c])) (j:s≠ []):Cn s:=by obtain⟨_,C,I⟩:=h;refine⟨j,C.left,λJ=> ?_⟩;cases s with|nil=>exact absurd rfl j|cons x s=>simpa using I (by simp)
def Cn.eq {s:List UInt8} (h:Cn s):decDigits (dec s)=s:=by
 have main: ∀ (n:Nat) (s:List UInt8),s.length=n->Cn s->decDigits (dec s)=s:=by intro n;induction n with|zero=>intro s j h;exact absurd (Xbg.1 j) h.1|succ n J=>intro s j h;obtain⟨t,c,rfl⟩: ∃t c,s=t++ [c]:=⟨s.dropLast,s.getLast h.1,(List.dropLast_concat_getLast h.1).symm⟩;have I:=h.2.1 c (by simp);by_cases C:t=[];subst C;rw[Xbl,Zny,decDigits_one (by omega),ZtO I.1];have R:=h.left C;have U:=J t (by simpa using j) R;have h3:1<=dec t:=(by cases t with|nil=>exact absurd rfl C|cons x t=>have h4:=h.2.2 (by simp);have hx:=h.2.1 x (by simp);have:x.toNat≠48:=λe=>h4 (by simp only[Xbs,List.head?_cons,Xaf];exact UInt8.toNat_inj.1 (by rw[e];rfl));rw[Zhu];have h5:1*10^t.length<=(x.toNat-48)*10^t.length:=Xbx _ (by omega);have h6:1<=10^t.length:=Nat.one_le_pow _ _ (by decide);omega);rw[Zsi,decDigits,dif_neg (by omega),show(dec t*10+(c.toNat-48))/10=dec t by omega,show(dec t*10+(c.toNat-48)) % 10=c.toNat-48 by omega,U,ZtO I.1]
 exact main _ s rfl h
def Zhy {d:Nat} (h:d<10):(UInt8.ofNat (48+d)).toNat=48+d:=by rw[UInt8.toNat_ofNat'];omega
def Zc3 (n:Nat):dec (decDigits n)=n:=by induction n using Nat.strongRecOn with|_ n j=>by_cases h:n<10;rw[decDigits_one h,Zny,Zhy h];omega;rw[decDigits,dif_neg h,Zsi,j _ (by omega),Zhy (by omega)];omega
def ZcI (n:Nat):Dg (decDigits n):=by induction n using Nat.strongRecOn with|_ n C=>by_cases h:n<10;rw[decDigits_one h];intro c j;rw[Xat.1 j,Zhy h];omega;rw[decDigits,dif_neg h];refine(C _ (by omega)).app ?_;intro c j;rw[Xat.1 j,Zhy (by omega)];omega
def Zpz (n:Nat):decDigits n≠ []:=λe=>by have:=decDigits_length n;have h:=nDigits_pos n;rw[e]at this;simp at this;omega
def ZkM (n:Nat):Cn (decDigits n):=by refine⟨Zpz n,ZcI n, ?_⟩;induction n using Nat.strongRecOn with|_ n I=>by_cases h:n<10;rw[decDigits_one h];simp;rw[decDigits,dif_neg h];intro _;by_cases C:1<(decDigits (n/10)).length;have:=I _ (by omega) C;(cases hd:decDigits (n/10)with|nil=>exact absurd hd (Zpz _)|cons x t=>rw[hd]at this;simpa using this);have j:n/10<10:=(by rcases Xa5 (n/10) 10 with h'|h';exact h';rw[decDigits_length,nDigits_big (by omega)]at C;have:=nDigits_pos (n/10/10);omega);rw[decDigits_one j];simp only[Xbs,Xbl,List.head?_cons,ne_eq,Xaf];intro e;have:=Zhy j;rw[e]at this;simp at this;omega
def Cn.inj {s t:List UInt8} (j:Cn s) (C:Cn t) (h:dec s=dec t):s=t:=by rw[<-j.eq,<-C.eq,h]
def ZIK {a b m n:Nat} (k:Nat) (h:a^m<=b^n) {x:Nat} (j:x<=m*k) (C:0<a) {y:Nat} (I:n*k=y):a^x<=b^y:=by subst I;refine XaK (Nat.pow_le_pow_right C j) ?_;rw[Nat.pow_mul,Nat.pow_mul];exact Nat.pow_le_pow_left h k
def Zgl {n k:Nat} (C:1<=k):(decDigits n).length<=k<->n<10^k:=by constructor;intro h;have h1:=ZoO (ZcI n);rw[Zc3]at h1;exact Xa6 h1 (Nat.pow_le_pow_right (by decide) h);intro h;rcases Xa5 k (decDigits n).length with h1|h1;have j:=(ZkM n).ge (by omega);rw[Zc3]at j;have:=Nat.pow_le_pow_right (show 0<10 by decide) (show k<=(decDigits n).length-1 by omega);omega;exact h1
def Wd (l:List Int):Prop:= ∀x∈l,0<=x/\x<4294967296
def wv:List Int->Int
 | []=>0
 |x::r=>x+4294967296*wv r
def ZeW: ∀ (l m:List Int),wv (l++m)=wv l+4294967296^l.length*wv m
 | [],m=>by simp[wv]
 |x::l,m=>by simp only[Xbs,wv,ZeW l m,Xaq,XbR];rw[Int.mul_add,<-Int.mul_assoc,Int.mul_comm _ 4294967296,Int.add_assoc]
def Zcb {l:List Int} {i:Nat} (h:i<l.length):wv (l.take (i+1))=wv (l.take i)+4294967296^i*l[i]:=by rw[Xbr h,ZeW];simp[wv,XaQ (XbY h)]
def ZcE {l:List Int} {i:Nat} {x:Int} (h:i<l.length):(l.set i x).take (i+1)=l.take i++ [x]:=by rw[Xbr (by simpa using h),XbO (Xag _)];simp
def Zsa {a b out:List Int} {i:Nat} {c j z:Int} (hi:i<a.length) (C:i<out.length) (I:wv (b.take (i+1))=wv (b.take i)+4294967296^i*z) (J:j=c+a[i]+z)
 (h:wv (out.take i)+4294967296^i*c=wv (a.take i)+wv (b.take i)):wv ((out.set i (j % 4294967296)).take (i+1))+4294967296^(i+1)*(j/4294967296)=wv (a.take (i+1))+wv (b.take (i+1)):=by
 rw[ZcE C,ZeW,Zcb hi,I,Xay,XaQ (XbY C),XbR];have e:j % 4294967296+4294967296*(j/4294967296)=j:=Xbi j 4294967296;have:wv [j % 4294967296]=j % 4294967296:=by simp[wv]
 rw[this,Int.mul_assoc,Int.add_assoc,<-Int.mul_add,e,J,Int.mul_add,Int.mul_add];omega
def Ztr {a b out:List Int} {i:Nat} {c j z:Int} (hi:i<a.length) (C:i<out.length) (I:wv (b.take (i+1))=wv (b.take i)+4294967296^i*z) (J:j=c+a[i]-z)
 (h:wv (out.take i)+4294967296^i*c=wv (a.take i)-wv (b.take i)):wv ((out.set i (j % 4294967296)).take (i+1))+4294967296^(i+1)*(j/4294967296)=wv (a.take (i+1))-wv (b.take (i+1)):=by
 rw[ZcE C,ZeW,Zcb hi,I,Xay,XaQ (XbY C),XbR];have e:j % 4294967296+4294967296*(j/4294967296)=j:=Xbi j 4294967296;have:wv [j % 4294967296]=j % 4294967296:=by simp[wv]
 rw[this,Int.mul_assoc,Int.add_assoc,<-Int.mul_add,e,J,Int.mul_sub,Int.mul_add];omega
def Zbu: ∀ {l:List Int},Wd l->0<=wv l/\wv l<4294967296^l.length
 | [],_=>by simp[wv]
 |x::l,h=>by have I:=h x Xai;have j:=Zbu (l:=l) λy C=>h y (Xaj _ C);rw[wv,Xaq,XbR];generalize(4294967296:Int)^l.length=p at j|-;omega
def ZvR {a b:List Int} (I:Wd a) (J:Wd b) {m:Nat} (hm:m<a.length) (hl:a.length=b.length) (hd:a.drop (m+1)=b.drop (m+1)) (h:a[m]<b[m]):wv a<wv b:=by
 have R:wv a=wv (a.take m)+4294967296^m*(a[m]+4294967296*wv (a.drop (m+1))):=by(conv=>lhs;rw[<-Xa9 m a]);rw[ZeW,Xay,XaQ (by omega),XaL hm];rfl
 have U:wv b=wv (b.take m)+4294967296^m*(b[m]+4294967296*wv (b.drop (m+1))):=by(conv=>lhs;rw[<-Xa9 m b]);rw[ZeW,Xay,XaQ (by omega),XaL (by omega)];rfl
 have b1:=Zbu (l:=a.take m) λx j=>I x (XaR j);have b2:=Zbu (l:=b.take m) λx j=>J x (XaR j);rw[Xay,XaQ (by omega)]at b1;rw[R,U,hd];generalize 4294967296*wv (b.drop (m+1))=t;have hp:(0:Int)<4294967296^m:=Xb4 (by decide);have:(4294967296:Int)^m*(a[m]+t)+4294967296^m<=4294967296^m*(b[m]+t):=by have C:=XbB (show a[m]+t+1<=b[m]+t by omega) (Xbq hp);rw[Int.mul_add,Int.mul_one]at C;exact C
 omega
def Nz (l:List Int):Prop:= ∀h:l≠ [],l.getLast h≠0
def ZsF: ∀ {l:List Int} {i:Nat} {x:Int} (h:i<l.length),wv (l.set i x)=wv l+4294967296^i*(x-l[i])
 | [],i,x,h=>by simp at h
 |y::l,0,x,_=>by simp only[List.set_cons_zero,wv,List.getElem_cons_zero,Int.pow_zero];omega
 |y::l,i+1,x,h=>by have j:=ZsF (l:=l) (i:=i) (x:=x) (by simpa using h);simp only[List.set_cons_succ,wv,List.getElem_cons_succ,j,XbR];grind
def ZiL {m n b:Nat} (j:0<b) (h:m<=n):(b:Int)^m<=(b:Int)^n:=by have:=Nat.pow_le_pow_right j h;rw[<-Int.natCast_pow,<-Int.natCast_pow];exact Int.ofNat_le.2 this
def ZoF: ∀ {l:List Int},Wd l->Nz l->l≠ []->0<wv l
 | [],_,_,h=>absurd rfl h
 | [x],hw,j,_=>by have C:=hw x (by simp);have I:x≠0:=j (by simp);simp only[wv];omega
 |x::y::l,hw,j,_=>by have C:=hw x (by simp);have I:0<wv (y::l):=ZoF (λz J=>hw z (Xaj _ J)) (λh=>by have:=j (by simp);rwa[List.getLast_cons (by simp)]at this) (by simp);show 0<x+4294967296*wv (y::l);omega
open Go.Am
def Zy9:Nat->Nat->List UInt8
 |0,_=> []
 |k+1,n=>match Nat.ble 10 n with
  |true=>Zy9 k (n/10)++ [UInt8.ofNat (48+n % 10)]
  |false=> [UInt8.ofNat (48+n)]
def Zq1: ∀ (k n:Nat),1<=k->n<10^k->Zy9 k n=Lib.decDigits n
 |0,_,h,_=>absurd h (by decide)
 |k+1,n,_,h=>by rw[Zy9];cases j:Nat.ble 10 n with|true=>have j:=Xao j;have C:1<=k:=(by rcases k with _|k;simp at h;omega;omega);simp only[];rw[Zq1 k (n/10) C (by rw[Nat.pow_succ]at h;omega),Lib.decDigits.eq_1 n,dif_neg (by omega)]|false=>have j:n<10:=(by rcases Xa5 n 10 with h'|h';exact h';rw[Xb1 h']at j;cases j);simp only[];rw[Lib.decDigits_one j]
def ZfO:List (List PV)->Option (List Int)
 | []=>some []
 | [.int .u32 x]::r=>match decide (0<=x)&&decide (x<4294967296)with
  |true=>(ZfO r).map λl=>x::l
  |false=>none
 |_=>none
def ZeH (m:Bool) (l:List Int):List UInt8:=match l.isEmpty with
 |true=> [48]
 |false=>match Nat.ble l.length 210 with
  |true=>(match m with|true=> [45]|false=> [])++Zy9 2100 (wv l).toNat
  |false=> []
def Zez (l:List Int):Bool:=match l.isEmpty with
 |true=>true
 |false=>match Nat.ble l.length 210 with
  |true=>Nat.ble (Zy9 2100 (wv l).toNat).length 2000
  |false=>false
def textG:List PV->Option PV
 | [.agg [.bool m, .nils]]=>some (.tup [.str ⟨(ZeH m []).toArray⟩, .bool (Zez [])])
 | [.agg [.bool m, .lst es]]=>(ZfO es).map λl=> .tup [.str ⟨(ZeH m l).toArray⟩, .bool (Zez l)]
 |_=>none
def ZIi (s:List UInt8):Bool:=s.all λc=>Nat.ble 48 c.toNat&&Nat.ble c.toNat 57
def parseG:List PV->Option PV
 | [.str s, .int .i64 b, .int .i64 z]=>match decide (b=10)&&decide (z=32)&&(ZIi s.data.toList&&Nat.ble 1 s.data.toList.length&&Nat.ble s.data.toList.length 9)with
  |true=>some (.tup [.int .u64 (dec s.data.toList:Nat), .nili])
  |false=>none
 |_=>none
def Zi0:List UInt8->UInt8->Nat->Int
 | [],_,_=> -1
 |b::l,c,i=>match Nat.beq b.toNat c.toNat with
  |true=>(i:Int)
  |false=>Zi0 l c (i+1)
def Zi4: ∀ (l:List UInt8) (c:UInt8),-1<=indexByte l c
 | [],_=>Xbw _
 |b::l,c=>by have:=Zi4 l c;rw[indexByte];split;decide;split;decide;omega
def ZxU: ∀ (l:List UInt8) (c:UInt8) (i:Nat),Zi0 l c i=if indexByte l c= -1 then-1 else i+indexByte l c
 | [],_,_=>rfl
 |b::l,c,i=>by have R:=Zi4 l c;have j:=ZxU l c (i+1);have C:Nat.beq b.toNat c.toNat=(b==c):=(by rw[Bool.eq_iff_iff,Nat.beq_eq,beq_iff_eq];exact UInt8.toNat_inj);rw[Zi0,indexByte,C];cases I:b==c with|true=>simp|false=>simp only[XaO,if_false,j];by_cases h:indexByte l c= -1;simp[h];rw[if_neg h];have J:(indexByte l c== -1)=false:=(by simpa using h);rw[J];simp only[XaO,if_false];rw[if_neg (by omega)];omega
def ZFl (l:List UInt8) (c:UInt8):Zi0 l c 0=indexByte l c:=by rw[ZxU];split;rename_i h;exact h.symm;omega
def indexG:List PV->Option PV
 | [.str s, .str t]=>match t.data.toList with
  | [c]=>some (.int .i64 (Zi0 s.data.toList c 0))
  |_=>none
 |_=>none
def Zte (s:List UInt8) (c:UInt8):List UInt8×List UInt8×Bool:=match decide (0<=Zi0 s c 0)with
 |true=>(s.take (Zi0 s c 0).toNat,s.drop ((Zi0 s c 0).toNat+1),true)
 |false=>(s,[],false)
end Dv
namespace Go.Proofs.YtplkkbcnilnfaaaGreatDoor
noncomputable section
def Zsl {P:Program} {w w':World} {name:String} {k:IntKind} {zs:List Int} {g:Nat} (j:P.globalNamed name=some g) (C:w'.heap[g]? =w.heap[g]?) (h:Lib.TabIs P w name k zs):Lib.TabIs P w' name k zs:=by unfold Lib.TabIs World.var? at*;simp only[j,Xaa]at h|-;rw[C];exact h
def ZfP:String:= "internal/strconv.uint64pow10"
instance natLaid:Am.Laid where
 ok S w:= ∃g,prog.globalNamed ZfP=some g/\S g/\Lib.TabIs prog w ZfP .u64 Lib.pow10Tab
 mono:=by rintro S w S' w' h ⟨g,h1,h2,h3⟩;exact⟨g,h1,(h g h2).1,Zsl h1 (h g h2).2 h3⟩
def hOk:List Nat:=
 [3,4,5,6,7,8,9,10,11,12,13,14,15,16,17,18,19,20,21,22,23,24,25,26,27,28,29,30,31,32,33,34,35,36,37,38,39,41,42,43,44,45,46,47,48,49,50,51,52,53,54,55,56,57,58,59,60,61,62,63,64,65,66,67,68,69,70,71,72,73,74,75,76,77,78,79,80,81,82,83,84,85,86,87,88,89,90,92,93,94,95,96,97,98,99,100,101,102,103,104,105,106,109,110,113,114,115,116,117,118,119,133,134,135,136,144,152,155,157,158]
def ZJC:List Nat:=
 [15,16,18,21,22,24,28,29,31,33,34,50,63,117]
def ZJE:List Nat:=
 [4,5,7,8,10,11,12,20,25,26,27,38,39,43,44,46,47,49,56,57,61,62,65,66,69,71,72,74,75,77,78,81,84,85,86,92,94,95,96,98,99,100,104,106,114,115,118,119]
def ZJt:List Nat:=
 [17,32,41,42,45,51,52,53,54,55,64,67,82,101,103,113,134]
def ZFJ:List (Nat×List (Nat×List Nat)):=
 [(3,[(1,[11,12,13]),(11,[7,8])]),(10,[(9,[0])]),(21,[(6,[0,12,13,14,15,16])]),(41,[(5,[0]),(6,[0]),(8,[0]),(9,[0])]),(63,[(17,[9])]),(100,[(5,[1])]),(101,[(9,[0])]),(103,[(11,[2,3])]),(113,[(9,[0])])]
def ZH9:List (Nat×List (Nat×List Nat)):=
 [(21,[(6,[0,1,2,3,4,5,6,7,8,9,10,11,13,14,15,16,17,12,18,19,20,21,22,23])])]
def ZBO:Am.Hints:=Am.withPerm (Am.mkHints hOk ZJC ZJE ZJt [] [] ZFJ []) ZH9
def Zrn:Am.Static prog ZBO:=Am.static_ofP checked.mixed (by decide+kernel)
def Zn5:FuncId->Option (List Am.PV->Option Am.PV)
 |107=>some Dv.textG
 |91=>some Dv.parseG
 |108=>some Dv.indexG
 |_=>none
def Zpb (p:FuncId->Option (List Am.PV->Option Am.PV)):Am.Hints:=Am.withPrims ZBO p
def ZeX:Am.Hints:=Zpb Zn5
def Zuq:List (Am.PV×Am.PV)->Option Bool
 | []=>some true
 |(_, .int .i64 v)::r=>(Zuq r).map λb=>decide (v=0)&&b
 |_=>none
def Zmx (s:Am.St):Option Am.PV:=match Am.get s.tm 7 with
 |some (.map id)=>match s.hp[id]? with
  |some (.map es)=>(Zuq es).map λb=> .int .i64 (bif b then 0 else 14)
  |_=>none
 |_=>none
def Zfc:Option (Am.Ex×Am.St)->Option Am.PV
 |some (.normal,s)=>Zmx s
 |some (.ret,s)=>match Am.get s.tm 4 with
  |some (.int .i64 e)=>some (.int .i64 e)
  |_=>none
 |_=>none
def Zi6 (qs:List Am.PV):Option Am.PV:=bif !Nat.ble qs.length 61 then none else Zfc (Am.exS prog ZeX (Am.lim prog ZeX) ⟨40,0,61⟩ (Go.Tx.preC 6 (Go.Am.bodyOf Tryz.f40)) ⟨Am.enterT 0 qs,[]⟩)
def Zl3 (b:Bool):FuncId->Option (List Am.PV->Option Am.PV)
 |107=>some Dv.textG
 |91=>some Dv.parseG
 |108=>some Dv.indexG
 |40=>bif b then some Zi6 else none
 |_=>none
abbrev prims:FuncId->Option (List Am.PV->Option Am.PV):=Zl3 true
abbrev Zbw (b:Bool):Am.Hints:=Zpb (Zl3 b)
abbrev Zaj:Am.Hints:=Zbw true
def Zwm:Zbw false=ZeX:=by rw[Zbw,ZeX];congr 1;funext f;unfold Zl3 Zn5;split<;>first|rfl|(split<;>first|rfl|simp_all)
open Go.Am Go.Tx Dv
def Zat {x:Int} (j: -9223372036854775808<=x) (C:x<9223372036854775808):i64.wrap x=x:=by unfold IntKind.wrap IntKind.signed IntKind.bits;simp only[Bool.true_and];split<;>rename_i h<;>simp only[decide_eq_true_eq]at h<;>omega
abbrev Zby (l:List Int):SV:= .v (.l (.i .u32)) l
def Zas {x:Int} (j:0<=x) (C:x<18446744073709551616):u64.wrap x=x:=by unfold IntKind.wrap IntKind.signed IntKind.bits;simp only[XbZ,XaO,if_false];omega
def Zbl (x:Int):u32.wrap x=x % 4294967296:=by unfold IntKind.wrap IntKind.signed IntKind.bits;simp
def Zqy (x:Int):x.fdiv (2^min (Int.toNat 32) u64.bits)=x/4294967296:=by show x.fdiv 4294967296=_;rw[Int.fdiv_eq_ediv_of_nonneg _ (by omega)]
def ZIT (a b:List Int) (s:Nat×Int×List Int):TM:=[(0,Zby a),(1,Zby b),(5, .ref 0 0 (a.length+1) none),(6, .v (.i .u64) s.2.1),(20, .v (.i .i64) (a.length:Int)),(21, .v (.i .i64) (s.1:Int))]
def Zxg (a b:List Int) (ha:Wd a) (hb:Wd b) (ab:b.length<=a.length) (hl:a.length<=1000000000):LoopOK prog Zaj 0 ⟨104,0,57⟩ (Za6 Tryz.f104 6) (ZIT a b (0,0,List.replicate (a.length+1) 0)) [.row (.i .u32) (List.replicate (a.length+1) (0:Int)) true]
 (λe tm hp=>e= .exit 0/\ ∃c out X,0<=c/\c<=1/\out.length=a.length+1/\Wd (out.take a.length)/\wv (out.take a.length)+4294967296^a.length*c=wv a+wv b/\tm=(22,X)::ZIT a b (a.length,c,out)/\hp=[.row (.i .u32) out true]):=by
 refine Zap Zab rfl (ZIT a b) (λs=> [.row (.i .u32) s.2.2 true])
  (λs=>s.1<=a.length/\0<=s.2.1/\s.2.1<=1/\s.2.2.length=a.length+1/\Wd (s.2.2.take s.1)/\wv (s.2.2.take s.1)+4294967296^s.1*s.2.1=wv (a.take s.1)+wv (b.take s.1)) (λs=>a.length-s.1) ?_ (0,0,List.replicate (a.length+1) 0) ?_ ?_
 rintro⟨i,c,out⟩ ⟨hi,R,U,hlen,J,j⟩;simp only at hi R U hlen J j;refine Xab (λh=> ?_) (λh=> ?_);have C:i<a.length:=by have:=of_decide_eq_true h;simp only at this;omega
 have ad:=ha _ (XaI C);have e1:u64.wrap a[i]=a[i]:=Zas (by omega) (by omega);have e2:u64.wrap (c+u64.wrap a[i])=c+a[i]:=by rw[e1];exact Zas (by omega) (by omega)
 have ho:i<out.length:=by omega
 have aa: ∀c':Int,Wd ((out.set i (c' % 4294967296)).take (i+1)):=by intro c' x hx;rw[ZcE ho]at hx;rcases XaJ.1 hx with hx|hx;exact J x hx;rw[Xat.1 hx];omega
 have wi:i64.wrap ((i:Int)+1)=((i+1:Nat):Int):=Zat (by omega) (by omega);refine⟨a[i],XaH i,Xad C, ?_⟩;refine Xab (λh2=> ?_) (λh2=> ?_);have I:i<b.length:=by have:=of_decide_eq_true h2;simp only at this;omega
 have ae:=hb _ (XaI I);have e3:u64.wrap b[i]=b[i]:=Zas (by omega) (by omega);have e4:u64.wrap (u64.wrap (c+u64.wrap a[i])+u64.wrap b[i])=c+a[i]+b[i]:=by rw[e2,e3];exact Zas (by omega) (by omega)
 refine⟨b[i],XaH i,Xad I, ?_⟩;refine Xab ⟨XaH i,by show(i:Int)<((a.length+1:Nat):Int);omega⟩ ?_;refine Exists.intro (out[i]) (Xab (by simp) ?_);refine Xab (by decide) ?_;have ec:(c+a[i]+b[i])/4294967296=(u64.wrap (u64.wrap (c+u64.wrap a[i])+u64.wrap b[i])).fdiv (2^min (Int.toNat 32) u64.bits):=by rw[e4,Zqy]
 have er:out.set i ((c+a[i]+b[i]) % 4294967296)=out.set (0+(i:Int).toNat) (u32.wrap (u64.wrap (u64.wrap (c+u64.wrap a[i])+u64.wrap b[i]))):=by rw[e4,Zbl,Xac,Xak]
 refine⟨(i+1,(c+a[i]+b[i])/4294967296,out.set i ((c+a[i]+b[i]) % 4294967296)),⟨C, ?_, ?_, ?_,aa _, ?_⟩, ?_, ?_⟩;show 0<=(c+a[i]+b[i])/4294967296;omega;show(c+a[i]+b[i])/4294967296<=1;omega;show(out.set _ _).length=_;simpa using hlen;exact Zsa C ho (Zcb I) rfl j;show a.length-(i+1)<a.length-i;omega;refine ZaH rfl rfl ?_ ?_;exact⟨rfl,rfl,⟨rfl,rfl,rfl⟩,ec,rfl,wi.symm,trivial⟩;exact⟨⟨er,λ_=>rfl⟩,trivial⟩;have I:b.length<=i:=by have:=of_decide_eq_false h2;simp only at this;omega
 have hz:wv (b.take (i+1))=wv (b.take i)+4294967296^i*0:=by rw[XaA (by omega),XaA I];omega
 refine Xab ⟨XaH i,by show(i:Int)<((a.length+1:Nat):Int);omega⟩ ?_;refine Exists.intro (out[i]) (Xab (by simp) ?_);refine Xab (by decide) ?_;have ec:(c+a[i]+0)/4294967296=(u64.wrap (c+u64.wrap a[i])).fdiv (2^min (Int.toNat 32) u64.bits):=by rw[e2,Zqy,Int.add_zero]
 have er:out.set i ((c+a[i]+0) % 4294967296)=out.set (0+(i:Int).toNat) (u32.wrap (u64.wrap (c+u64.wrap a[i]))):=by rw[e2,Zbl,Xac,Xak,Int.add_zero]
 refine⟨(i+1,(c+a[i]+0)/4294967296,out.set i ((c+a[i]+0) % 4294967296)),⟨C, ?_, ?_, ?_,aa _, ?_⟩, ?_, ?_⟩;show 0<=(c+a[i]+0)/4294967296;omega;show(c+a[i]+0)/4294967296<=1;omega;show(out.set _ _).length=_;simpa using hlen;exact Zsa C ho hz rfl j;show a.length-(i+1)<a.length-i;omega;refine ZaH rfl rfl ?_ ?_;exact⟨rfl,rfl,⟨rfl,rfl,rfl⟩,ec,rfl,wi.symm,trivial⟩;exact⟨⟨er,λ_=>rfl⟩,trivial⟩;have he:i=a.length:=by have:=of_decide_eq_false h;simp only at this;omega
 subst he;rw[Xa3,XaA ab]at j;exact⟨rfl,c,out,_,R,U,hlen,J,j,rfl,rfl⟩;exact⟨Xap _,Xbw _,by show(0:Int)<=1;decide,by simp,by intro x hx;simp at hx,by simp[wv]⟩;exact Zar
def Zuw (a b:List Int) (ha:Wd a) (hb:Wd b) (U:a.length<=1000000000) (C:b.length<=1000000000):PureOK prog Zaj 104 [Zby a,Zby b] (λV=> ∃out,V=Zby out/\Wd out/\out.length<=max a.length b.length+1/\wv out=wv a+wv b):=by
 refine Zad Zab func104 ?_;have w1: ∀a:List Int,a.length<=1000000000->i64.wrap ((a.length:Int)+1)=((a.length+1:Nat):Int):=λa h=>Zat (by omega) (by omega)
 have w2: ∀a:List Int,a.length<=1000000000-> ∀x:Int,x=((a.length+1:Nat):Int)->0<=x/\x<=x/\(4:Int)*x<=281474976710656/\x<9223372036854775808:=λa h x hx=>by omega
 have w3: ∀a:List Int,∀x:Int,x=((a.length+1:Nat):Int)->a.length+1=x.toNat:=λa x hx=>by omega
 have w4: ∀a:List Int,∀x:Int,x=((a.length+1:Nat):Int)->List.replicate (a.length+1) (0:Int)=List.replicate x.toNat 0:=λa x hx=>by rw[<-w3 a x hx]
 have fin: ∀ (a b out:List Int) (c:Int),a.length<=1000000000->0<=c->c<=1->out.length=a.length+1->Wd (out.take a.length)->wv (out.take a.length)+4294967296^a.length*c=wv a+wv b->
  sub (out.set (0+(a.length:Int).toNat) (u32.wrap c)) 0 (a.length+1)=out.set a.length (c % 4294967296)/\Wd (out.set a.length (c % 4294967296))/\(out.set a.length (c % 4294967296)).length=a.length+1/\wv (out.set a.length (c % 4294967296))=wv a+wv b:=by
  intro a b out c U J R hlen I j;have ho:a.length<out.length:=(by omega);have hx: ∀x:Int,out.set a.length x=out.take a.length++ [x]:=λx=>by rw[<-ZcE ho,XaA (by rw[XaB];omega)]
  refine⟨by rw[Xac,Xak,Zbl,sub,XaV,XaA (by rw[XaB];omega)], ?_,by rw[XaB];omega, ?_⟩;rw[hx];intro x hx;rcases XaJ.1 hx with hx|hx;exact I x hx;rw[Xat.1 hx];omega;rw[hx,ZeW,Xay,XaQ (XbY ho),<-j,show c % 4294967296=c by omega];simp[wv]
 refine Xab (λh=> ?_) (λh=> ?_);have aa:a.length<=b.length:=by have:=of_decide_eq_true h;omega
 refine Xab (w2 b C _ (w1 b C)) ?_;refine((Zxg b a hb ha aa C).ent ?_).mono ?_;refine ZaH rfl rfl ?_ ?_;exact⟨rfl,rfl,⟨rfl,w3 b _ (w1 b C),w3 b _ (w1 b C)⟩,rfl,rfl,rfl,trivial⟩;exact⟨⟨w4 b _ (w1 b C),λ_=>rfl⟩,trivial⟩;rintro _ _ _ ⟨rfl,c,out,X,J,R,hlen,I,j,rfl,rfl⟩;obtain⟨f1,f2,f3,f4⟩:=fin b a out c C J R hlen I j;refine Xab ⟨XaH _,by show(b.length:Int)<((b.length+1:Nat):Int);omega⟩ ?_;refine Exists.intro (out[b.length]) (Xab (by simp) ?_);refine Xab (by show 0+(b.length+1)<=(out.set _ _).length;rw[XaB];omega) ?_;exact⟨_,congrArg Zby f1,f2,by rw[f3];omega,by rw[f4,Int.add_comm]⟩;have aa:b.length<=a.length:=by have:=of_decide_eq_false h;omega
 refine Xab (w2 a U _ (w1 a U)) ?_;refine((Zxg a b ha hb aa U).ent ?_).mono ?_;refine ZaH rfl rfl ?_ ?_;exact⟨rfl,rfl,⟨rfl,w3 a _ (w1 a U),w3 a _ (w1 a U)⟩,rfl,rfl,rfl,trivial⟩;exact⟨⟨w4 a _ (w1 a U),λ_=>rfl⟩,trivial⟩;rintro _ _ _ ⟨rfl,c,out,X,J,R,hlen,I,j,rfl,rfl⟩;obtain⟨f1,f2,f3,f4⟩:=fin a b out c U J R hlen I j;refine Xab ⟨XaH _,by show(a.length:Int)<((a.length+1:Nat):Int);omega⟩ ?_;refine Exists.intro (out[a.length]) (Xab (by simp) ?_);refine Xab (by show 0+(a.length+1)<=(out.set _ _).length;rw[XaB];omega) ?_;exact⟨_,congrArg Zby f1,f2,by rw[f3];omega,f4⟩
def ZjP {r x:Int} (J:0<=r) (R:r<4294967296) (U:0<=x) (h3:x<4294967296):
 u64.wrap ((BitVec.ofInt u64.bits (u64.wrap (r*2^min (Int.toNat 32) u64.bits))|||BitVec.ofInt u64.bits (u64.wrap x)).toNat:Int)=r*4294967296+x:=by
 obtain⟨n,rfl⟩: ∃n:Nat,r=n:=⟨r.toNat,by omega⟩;obtain⟨m,rfl⟩: ∃m:Nat,x=m:=⟨x.toNat,by omega⟩;have j:u64.wrap ((n:Int)*2^min (Int.toNat 32) u64.bits)=((n*4294967296:Nat):Int):=by show u64.wrap ((n:Int)*4294967296)=_;rw[Zas (by omega) (by omega)];omega
 have C:u64.wrap (m:Int)=(m:Int):=Zas (by omega) (by omega);rw[j,C];show u64.wrap ((BitVec.ofInt 64 ((n*4294967296:Nat):Int)|||BitVec.ofInt 64 (m:Int)).toNat:Int)=_;rw[BitVec.ofInt_natCast,BitVec.ofInt_natCast,BitVec.toNat_or,BitVec.toNat_ofNat,BitVec.toNat_ofNat,Nat.mod_eq_of_lt (by omega),Nat.mod_eq_of_lt (by omega)];have I:n*4294967296|||m=n*4294967296+m:=by have:=Nat.shiftLeft_add_eq_or_of_lt (a:=n) (b:=m) (i:=32) (by omega);rw[Nat.shiftLeft_eq]at this;exact this.symm
 rw[I,Zas (by omega) (by omega)];omega
def ZlZ (p:FuncId->Option (List PV->Option PV)) (hp:p 119=none) (a:List Int) (d:Int) (ha:Wd a) (J:0<d) (an:d<4294967296) (hl:a.length<=1000000000):PureOK prog (Zpb p) 119 [Zby a, .v (.i .u32) d] (λV=> ∃q,V= .tup [Zby q, .v (.i .u32) (wv a % d)]/\Wd q/\q.length=a.length/\wv q=wv a/d):=by
 refine ZkO (fn:=Tryz.f119) (code:=bodyOf Tryz.f119) Zab (by kernel_rfl) hp func119 (by kernel_rfl) (Xao (by kernel_rfl)) ?_;have w1:i64.wrap ((a.length:Int)-1)=(a.length:Int)-1:=Zat (by omega) (by omega);have w2:0<=(a.length:Int)/\(a.length:Int)<=a.length/\(4:Int)*a.length<=281474976710656/\(a.length:Int)<9223372036854775808:=by omega
 have w3:a.length=(a.length:Int).toNat:=(Xac _).symm;have w4:List.replicate a.length (0:Int)=List.replicate (a.length:Int).toNat 0:=by rw[<-w3]
 refine Xab w2 ?_;refine Zap Zab rfl (λ(s:Nat×Int×List Int)=> [(0,Zby a),(1, .v (.i .u32) d),(6, .ref 0 0 a.length none),(7, .v (.i .u64) s.2.1),(8, .v (.i .i64) ((s.1:Int)-1))]) (λs=> [.row (.i .u32) s.2.2 true])
  (λs=>s.1<=a.length/\0<=s.2.1/\s.2.1<d/\s.2.2.length=a.length/\Wd (s.2.2.drop s.1)/\wv (a.drop s.1)=d*wv (s.2.2.drop s.1)+s.2.1) (λs=>s.1) ?_ (a.length,0,List.replicate a.length 0) ?_ ?_
 rintro⟨k,r,out⟩ ⟨hk,C,R,hlen,I,j⟩;simp only at hk C R hlen I j;refine Xab (λh=> ?_) (λh=> ?_);have ao:1<=k:=by have:=of_decide_eq_true h;simp only at this;omega
 obtain⟨m,rfl⟩: ∃m,k=m+1:=⟨k-1,by omega⟩;have hm:m<a.length:=by omega
 have ix:(((m+1:Nat):Int)-1).toNat=m:=by omega
 have ab:(0:Int)<=((m+1:Nat):Int)-1:=by omega
 have hg:a[(((m+1:Nat):Int)-1).toNat]? =some a[m]:=by rw[ix];exact Xad hm
 refine⟨by decide,a[m],ab,hg, ?_⟩;refine Xab ?_ ?_;show u64.wrap d≠0;rw[Zas (by omega) (by omega)];omega;refine Xab ⟨ab,by show(((m+1:Nat):Int)-1)<(a.length:Int);omega⟩ ?_;refine Exists.intro (out[m]) (Xab (by show out[0+(((m+1:Nat):Int)-1).toNat]? =_;rw[ix,Xak];exact Xad (by omega)) ?_);refine Xab ?_ ?_;show u64.wrap d≠0;rw[Zas (by omega) (by omega)];omega;have ad:=ha _ (XaI hm);have ae:=ZjP C (show r<4294967296 by omega) ad.1 ad.2;have af:u64.wrap d=d:=Zas (by omega) (by omega);have U:0<=r*4294967296+a[m]:=by omega
 have ai:r*4294967296+a[m]<4294967296*d:=by omega
 have aa:0<=(r*4294967296+a[m])/d:=Int.ediv_nonneg U (by omega);have ag:(r*4294967296+a[m])/d<4294967296:=Int.ediv_lt_of_lt_mul J ai;have em:(r*4294967296+a[m]) % d=(u64.wrap ((BitVec.ofInt u64.bits (u64.wrap (r*2^min (Int.toNat 32) u64.bits))|||BitVec.ofInt u64.bits (u64.wrap a[m])).toNat:Int)).tmod (u64.wrap d):=by rw[ae,af,Int.tmod_eq_emod_of_nonneg U]
 have aj:(r*4294967296+a[m])/d=u32.wrap (u64.wrap ((u64.wrap ((BitVec.ofInt u64.bits (u64.wrap (r*2^min (Int.toNat 32) u64.bits))|||BitVec.ofInt u64.bits (u64.wrap a[m])).toNat:Int)).tdiv (u64.wrap d))):=by rw[ae,af,Int.tdiv_eq_ediv_of_nonneg U,Zas aa (by omega),Zbl,Int.emod_eq_of_lt aa ag]
 have er:out.set m ((r*4294967296+a[m])/d)=out.set (0+(((m+1:Nat):Int)-1).toNat) (u32.wrap (u64.wrap ((u64.wrap ((BitVec.ofInt u64.bits (u64.wrap (r*2^min (Int.toNat 32) u64.bits))|||BitVec.ofInt u64.bits (u64.wrap a[m])).toNat:Int)).tdiv (u64.wrap d)))):=by rw[<-aj,ix,Xak]
 have wi:(m:Int)-1=i64.wrap (((m+1:Nat):Int)-1-1):=by rw[Zat (by omega) (by omega)];omega
 have ah: ∀x:Int,(out.set m x).drop m=x::out.drop (m+1):=λx=>by rw[XaL (by rw[XaB];omega),List.getElem_set_self,XbU (by omega)]
 have ak:a.drop m=a[m]::a.drop (m+1):=XaL hm;refine⟨(m,(r*4294967296+a[m]) % d,out.set m ((r*4294967296+a[m])/d)),⟨?_, ?_, ?_, ?_, ?_, ?_⟩, ?_, ?_⟩;show m<=a.length;omega;show 0<=(r*4294967296+a[m]) % d;exact Int.emod_nonneg _ (by omega);show(r*4294967296+a[m]) % d<d;exact Int.emod_lt_of_pos _ J;show(out.set _ _).length=_;simpa using hlen;show Wd ((out.set m _).drop m);rw[ah];intro x hx;rcases Xau.1 hx with rfl|hx;exact⟨aa,ag⟩;exact I x hx;show wv (a.drop m)=d*wv ((out.set m _).drop m)+(r*4294967296+a[m]) % d;rw[ah,ak,wv,wv,j];have e:=Xbi (r*4294967296+a[m]) d;generalize wv (out.drop (m+1))=v;have e2:d*(4294967296*v)=4294967296*(d*v):=by rw[<-Int.mul_assoc,Int.mul_comm d,Int.mul_assoc]
 rw[Int.mul_add d,e2];generalize d*v=t;generalize d*((r*4294967296+a[m])/d)=z at e|-;omega;show m<m+1;omega;refine ZaH rfl rfl ?_ ?_;exact⟨rfl,rfl,⟨rfl,rfl,rfl⟩,em,wi,trivial⟩;exact⟨⟨er,λ_=>rfl⟩,trivial⟩;have al:k=0:=by have:=of_decide_eq_false h;simp only at this;omega
 subst al;refine Xab (by show 0+a.length<=out.length;omega) ?_;rw[XaV]at I;rw[XaV,XaV]at j;have hs:sub out 0 a.length=out:=by rw[sub,XaV,XaA (by omega)]
 have e1:wv a % d=r:=by rw[j,Int.add_comm,Int.add_mul_emod_self_left,Int.emod_eq_of_lt C R]
 have e2:wv a/d=wv out:=by rw[j,Int.add_comm,Int.add_mul_ediv_left _ _ (by omega),Int.ediv_eq_zero_of_lt C R,Int.zero_add]
 have e3:u32.wrap r=r:=by rw[Zbl,Int.emod_eq_of_lt C (by omega)]
 have e4:SV.tup [Zby (sub out 0 a.length), .v (.i .u32) (u32.wrap r)]=SV.tup [Zby out, .v (.i .u32) (wv a % d)]:=by rw[hs,e1,e3]
 exact⟨out,e4,I,hlen,e2.symm⟩;exact⟨Xag _,Xbw _,J,by show(List.replicate _ _).length=_;simp,by intro x hx;simp at hx,by simp[wv]⟩;refine ZaH rfl rfl ?_ ?_;exact⟨rfl,rfl,⟨rfl,w3,w3⟩,rfl,w1.symm,trivial⟩;exact⟨⟨w4,λ_=>rfl⟩,trivial⟩
def Zt1 (a:List Int) (d:Int) (I:Wd a) (j:0<d) (C:d<4294967296) (J:a.length<=1000000000):PureOK prog Zaj 119 [Zby a, .v (.i .u32) d] (λV=> ∃q,V= .tup [Zby q, .v (.i .u32) (wv a % d)]/\Wd q/\q.length=a.length/\wv q=wv a/d):=ZlZ prims rfl a d I j C J
def ZBg (p:FuncId->Option (List PV->Option PV)) (hp:p 92=none) (m:Bool) (a:List Int) (ha:Wd a) (hl:a.length<=1000000000):PureOK prog (Zpb p) 92 [.v .b m,Zby a] (λV=> ∃s,V= .agg [.v .b (m&&decide (0<(s.length:Int))),Zby s]/\Wd s/\Nz s/\s.length<=a.length/\wv s=wv a):=by
 refine ZkO (fn:=Tryz.f92) (code:=bodyOf Tryz.f92) Zab (by kernel_rfl) hp func92 (by kernel_rfl) (Xao (by kernel_rfl)) ?_;refine Zap Zab rfl (λ(k:Nat)=> [(0, .v .b m),(1,Zby (a.take k)),(4, .ptr 0 0 0)]) (λ_=> [.cell [.v .b false, .nils] true])
  (λk=>k<=a.length/\wv (a.take k)=wv a) (λk=>k) ?_ a.length ?_ ?_
 rintro k ⟨hk,I⟩;have nf: ∀ {b:Bool},b=true->b=false->False:=λh C=>by rw[h]at C;cases C
 refine Xab (λh=> ?_) (λh=> ?_);refine Xab (λ_=> ?_) (λC=>(nf h C).elim);refine Xab (λ_=> ?_) (λC=>(nf h C).elim);refine Xab (λ_=> ?_) (λC=>(nf h C).elim);refine Xab (λ_=> ?_) (λC=>(nf h C).elim);have J:(a.take k).length=k:=by rw[Xay];omega
 have ae:1<=k:=by have:=of_decide_eq_true h;rw[J]at this;omega
 obtain⟨j,rfl⟩: ∃j,k=j+1:=⟨k-1,by omega⟩;have ej:i64.wrap (((a.take (j+1)).length:Int)-1)=(j:Int):=by rw[J,Zat (by omega) (by omega)];omega
 have U:0<=i64.wrap (((a.take (j+1)).length:Int)-1):=by rw[ej];omega
 have hg:(a.take (j+1))[(i64.wrap (((a.take (j+1)).length:Int)-1)).toNat]? =some a[j]:=by rw[ej,Xac,XbN (by omega)];exact Xad (by omega)
 refine⟨a[j],U,hg, ?_⟩;refine Xab (λ_=> ?_) (λC=>(nf h C).elim);refine Xab (λ_=> ?_) (λC=>(nf h C).elim);refine Xab (λ_=> ?_) (λC=>(nf h C).elim);refine Xab (λh2=> ?_) (λh2=> ?_);refine Xab ⟨U,by show i64.wrap (((a.take (j+1)).length:Int)-1)<=((a.take (j+1)).length:Int);rw[ej,J];omega⟩ ?_;have hz:a[j]=0:=of_decide_eq_true h2;have et:a.take j=List.drop 0 (List.take (i64.wrap (((a.take (j+1)).length:Int)-1)).toNat (a.take (j+1))):=by rw[ej,Xac,XaV,List.take_take,XaQ (by omega)]
 refine⟨j,⟨by show j<=a.length;omega, ?_⟩,by show j<j+1;omega, ?_⟩;show wv (a.take j)=wv a;rw[<-I,Zcb (by omega:j<a.length),hz];omega;refine ZaH rfl rfl ?_ ?_;exact⟨rfl,et,⟨rfl,rfl⟩,trivial⟩;exact⟨⟨⟨rfl,trivial,trivial⟩,λ_=>rfl⟩,trivial⟩;have aa:Nz (a.take (j+1)):=by intro R;rw[List.getLast_eq_getElem];simp only[J,Nat.add_sub_cancel,List.getElem_take];exact of_decide_eq_false h2
 have ab:Wd (a.take (j+1)):=λx hx=>ha x (XaR hx);refine Xab (λhm=> ?_) (λhm=> ?_);refine Xab (λ_=> ?_) (λC=>(nf hm C).elim);refine Xab (λ_=> ?_) (λC=>(nf hm C).elim);refine Xab (λ_=> ?_) (λC=>(nf hm C).elim);subst hm;exact⟨rfl,rfl,a.take (j+1),rfl,ab,aa,by rw[J];exact hk,I⟩;refine Xab (λC=>(nf C hm).elim) (λ_=> ?_);refine Xab (λC=>(nf C hm).elim) (λ_=> ?_);refine Xab (λC=>(nf C hm).elim) (λ_=> ?_);subst hm;exact⟨rfl,rfl,a.take (j+1),rfl,ab,aa,by rw[J];exact hk,I⟩;have J:(a.take k).length=k:=by rw[Xay];omega
 have ad:k=0:=by have:=of_decide_eq_false h;rw[J]at this;omega
 subst ad;refine Xab (λC=>(nf C h).elim) (λ_=> ?_);refine Xab (λC=>(nf C h).elim) (λ_=> ?_);refine Xab (λC=>(nf C h).elim) (λ_=> ?_);refine Xab (λC=>(nf C h).elim) (λ_=> ?_);refine Xab (λC=>(nf C h).elim) (λ_=> ?_);refine Xab (λC=>(nf C h).elim) (λ_=> ?_);refine Xab (λC=>(nf C h).elim) (λ_=> ?_);refine Xab (λC=>nomatch C) (λ_=> ?_);refine Xab (λhm=> ?_) (λhm=> ?_);refine Xab (λ_=> ?_) (λC=>(nf hm C).elim);refine Xab (λ_=> ?_) (λC=>(nf hm C).elim);refine Xab (λ_=> ?_) (λC=>(nf hm C).elim);subst hm;exact⟨rfl,rfl,[],rfl,λx hx=>(by simp at hx),λR=>absurd rfl R,Xap _,I⟩;refine Xab (λC=>(nf C hm).elim) (λ_=> ?_);refine Xab (λC=>(nf C hm).elim) (λ_=> ?_);refine Xab (λC=>(nf C hm).elim) (λ_=> ?_);subst hm;exact⟨rfl,rfl,[],rfl,λx hx=>(by simp at hx),λR=>absurd rfl R,Xap _,I⟩;exact⟨Xag _,by rw[Xa3]⟩;refine ZaH rfl rfl ?_ ?_;exact⟨rfl,(Xa3).symm▸rfl,⟨rfl,rfl⟩,trivial⟩;exact⟨⟨⟨rfl,trivial,trivial⟩,λ_=>rfl⟩,trivial⟩
def ZEM (m:Bool) (a:List Int) (j:Wd a) (C:a.length<=1000000000):PureOK prog Zaj 92 [.v .b m,Zby a] (λV=> ∃s,V= .agg [.v .b (m&&decide (0<(s.length:Int))),Zby s]/\Wd s/\Nz s/\s.length<=a.length/\wv s=wv a):=ZBg prims rfl m a j C
end
end Go.Proofs.YtplkkbcnilnfaaaGreatDoor
namespace Dv
def wOf (n:Nat):List Int:=if h:n=0 then[]else((n % 4294967296:Nat):Int)::wOf (n/4294967296)
termination_by n
decreasing_by omega
def Zeb:wOf 0=[]:=by rw[wOf,dif_pos rfl]
def ZnH {n:Nat} (h:n≠0):wOf n=((n % 4294967296:Nat):Int)::wOf (n/4294967296):=by rw[wOf,dif_neg h]
def Zf0 {n:Nat}:wOf n=[]<->n=0:=by constructor;intro h;rcases Nat.eq_zero_or_pos n with h0|h0;exact h0;rw[ZnH (by omega)]at h;cases h;rintro rfl;exact Zeb
def Znu (n:Nat):Wd (wOf n)/\Nz (wOf n)/\wv (wOf n)=n:=by induction n using Nat.strongRecOn with|_ n C=>by_cases h:n=0;subst h;rw[Zeb];exact⟨λx hx=>by simp at hx,λh=>absurd rfl h,rfl⟩;obtain⟨I,J,R⟩:=C (n/4294967296) (by omega);rw[ZnH h];refine⟨λx hx=> ?_,λU=> ?_, ?_⟩;rcases Xau.1 hx with rfl|hx;omega;exact I x hx;by_cases j:wOf (n/4294967296)=[];have:n/4294967296=0:=Zf0.1 j;simp only[j,List.getLast_singleton];omega;rw[List.getLast_cons j];exact J j;rw[wv,R];omega
def Zd3 (n:Nat):Wd (wOf n):=(Znu n).1
def ZEV (n:Nat):Nz (wOf n):=(Znu n).2.1
def ZcG (n:Nat):wv (wOf n)=n:=(Znu n).2.2
def Zof {l:List Int} (h:Wd l):0<=wv l:=(Zbu h).1
def ZsG: ∀ {l:List Int} {n:Nat},Wd l->Nz l->wv l=n->l=wOf n
 | [],n,_,_,h=>by have:n=0:=(by simp only[wv]at h;omega);rw[this,Zeb]
 |x::l,n,j,I,R=>by have hx:=j x Xai;have J:Wd l:=λy U=>j y (Xaj _ U);have hp:=ZoF j I (by simp);have h0:=Zof J;simp only[wv]at R hp;have hn:Nz l:=λC=>(by have:=I (by simp);rwa[List.getLast_cons C]at this);rw[ZnH (by omega),<-ZsG (l:=l) (n:=n/4294967296) J hn (by omega)];congr 1;omega
def ZcY {n k:Nat}:(wOf n).length<=k<->n<4294967296^k:=by induction k generalizing n with|zero=>simp only[Nat.le_zero_eq,Xbg,Zf0,Nat.pow_zero];omega|succ k j=>by_cases h:n=0;subst h;rw[Zeb];simp only[XbG,Xap,true_iff];exact Nat.pow_pos (by decide);rw[ZnH h,Xaq,Nat.add_le_add_iff_right,j,Nat.pow_succ];omega
def ZbJ {m n:Nat} (h:m<=n):(wOf m).length<=(wOf n).length:=by rw[ZcY];exact Nat.lt_of_le_of_lt h (ZcY.1 (Xag _))
def Zq0 (m n:Nat):(wOf (m+n)).length<=max (wOf m).length (wOf n).length+1:=by rw[ZcY,Nat.pow_succ];have j:m<4294967296^max (wOf m).length (wOf n).length:=ZcY.1 (Nat.le_max_left _ _);have C:n<4294967296^max (wOf m).length (wOf n).length:=ZcY.1 (Nat.le_max_right _ _);omega
def Zrd (m n:Nat):(wOf (m*n)).length<=(wOf m).length+(wOf n).length:=by rw[ZcY,Nat.pow_add];have j:m<4294967296^(wOf m).length:=ZcY.1 (Xag _);have C:n<4294967296^(wOf n).length:=ZcY.1 (Xag _);exact Nat.mul_lt_mul'' j C
def ln (v:Int):Nat:=(wOf v.natAbs).length
def ZDR:ln 0=0:=by rw[ln];rw[show(0:Int).natAbs=0 from rfl,Zeb];rfl
def ZsH (v:Int):ln (-v)=ln v:=by rw[ln,Int.natAbs_neg];rfl
def ZBj (a b:Int):ln (a+b)<=max (ln a) (ln b)+1:=XaK (ZbJ (Int.natAbs_add_le a b)) (Zq0 _ _)
def ZdL (a b:Int):ln (a*b)<=ln a+ln b:=by rw[ln,Xb0];exact Zrd _ _
def ZEq {v:Int} {k:Nat}:ln v<=k<->v.natAbs<4294967296^k:=ZcY
def ZkL {a b:Int} (h:a.natAbs<=b.natAbs):ln a<=ln b:=ZbJ h
def Zfn {v:Int} (h:v.natAbs<18446744073709551616):ln v<=2:=ZEq.2 (by simpa using h)
end Dv
namespace Go.Proofs.YtplkkbcnilnfaaaGreatDoor
open Go.Am Go.Tx Dv
abbrev IS (v:Int):SV:= .agg [.v .b (decide (v<0)),Zby (wOf v.natAbs)]
def sg (m:Bool) (x:Int):Int:=match m with|true=> -x|false=>x
def Ze3 (m:Bool) (a:List Int) (I:Wd a) (R:a.length<=1000000000):PureOK prog Zaj 92 [.v .b m,Zby a] (λV=>V=IS (sg m (wv a))):=by
 refine(ZEM m a I R).mono ?_;rintro _ ⟨s,rfl,U,h2,_,h4⟩;have h0:=Zof I;have J:s=wOf (wv a).toNat:=ZsG U h2 (by omega);have C:(sg m (wv a)).natAbs=(wv a).toNat:=by cases m<;>simp only[sg]<;>omega
 have hb:(m&&decide (0<(s.length:Int)))=decide (sg m (wv a)<0):=by have j:s.length=0<->wv a=0:=(by rw[Xbg,J,Zf0];omega);cases m with|true=>simp only[Bool.true_and,sg];refine decide_eq_decide.2 ?_;constructor;intro h;have:=mt j.2;omega;intro h;have:=mt j.1;omega|false=>simp only[XbZ,sg];exact(decide_eq_false (by omega)).symm
 show SV.agg [.v .b (m&&decide (0<(s.length:Int))),Zby s]=SV.agg [.v .b (decide (sg m (wv a)<0)),Zby (wOf (sg m (wv a)).natAbs)];rw[hb,C,<-J]
def Zy3 (v:Int) (j:ln v<=1000000000):PureOK prog Zaj 94 [IS v] (λV=>V=IS (-v)):=by
 refine Zad Zab func94 ?_;refine Xab rfl ?_;refine Xab rfl ?_;refine(Ze3 _ _ (Zd3 _) j).mono ?_;rintro _ rfl;refine Xab rfl ?_;refine Xab rfl ?_;have:sg (!decide (v<0)) (wv (wOf v.natAbs))= -v:=by rw[ZcG];by_cases h:v<0;rw[decide_eq_true h];simp only[sg,Bool.not_true];omega;rw[decide_eq_false h];simp only[sg,Bool.not_false];omega
 show IS (sg (!decide (v<0)) (wv (wOf v.natAbs)))=IS (-v);rw[this]
def Zya (v:Int):PureOK prog Zaj 93 [IS v] (λV=>V= .v (.i .i64) v.sign):=by
 refine Zad Zab func93 ?_;refine Xab rfl ?_;refine Xab (λh=> ?_) (λh=> ?_);have C:((wOf v.natAbs).length:Int)=0:=of_decide_eq_true h;have:v=0:=by have:=Zf0.1 (Xbg.1 (show(wOf v.natAbs).length=0 by omega));omega
 subst this;rfl;have C: ¬ ((wOf v.natAbs).length:Int)=0:=of_decide_eq_false h;have J:v≠0:=by rintro rfl;exact C (by rw[show(0:Int).natAbs=0 from rfl,Zeb];rfl)
 refine Xab rfl ?_;refine Xab (λj=> ?_) (λj=> ?_);have I:v<0:=of_decide_eq_true j;show SV.v (.i .i64) (-1:Int)=SV.v (.i .i64) v.sign;rw[Int.sign_eq_neg_one_of_neg I];have I: ¬v<0:=of_decide_eq_false j;show SV.v (.i .i64) (1:Int)=SV.v (.i .i64) v.sign;rw[Int.sign_eq_one_of_pos (by omega)]
def Zmv (x:Int):u64.wrap x=x % 18446744073709551616:=by unfold IntKind.wrap IntKind.signed IntKind.bits;simp
def ZBc (n:Int) (h0: -9223372036854775808<=n) (h1:n<9223372036854775808):PureOK prog Zaj 72 [.v (.i .i64) n] (λV=>V=IS n):=by
 refine Zad Zab func72 ?_;have fin: ∀ (m:Bool) (x:Int),0<=x->x<18446744073709551616->sg m x=n->PureOK prog Zaj 92 [.v .b m,Zby [u32.wrap x,u32.wrap (x.fdiv (2^min (Int.toNat 32) u64.bits))]] (λV=>V=IS n):=by intro m x C I J;have R:u32.wrap x=x % 4294967296:=Zbl x;have U:u32.wrap (x.fdiv (2^min (Int.toNat 32) u64.bits))=x/4294967296:=(by rw[Zqy,Zbl];omega);rw[R,U];refine(Ze3 m _ ?_ (by simp)).mono ?_;intro y j;simp only[Xau,Xav,or_false]at j;rcases j with rfl|rfl<;>omega;rintro _ rfl;have:wv [x % 4294967296,x/4294967296]=x:=(by simp only[wv];omega);rw[this,J]
 refine Xab (λh=> ?_) (λh=> ?_);have hn:n<0:=of_decide_eq_true h;have e:u64.wrap (0-u64.wrap n)= -n:=by rw[Zmv,Zmv];omega
 refine Xab (by decide) ?_;refine Xab (by show 0+2<=2;decide) ?_;refine(fin (decide (n<0)) (u64.wrap (0-u64.wrap n)) (by rw[e];omega) (by rw[e];omega) (by rw[e,h];simp only[sg];omega)).mono ?_;rintro _ rfl;exact⟨rfl,rfl,rfl⟩;have hn: ¬n<0:=of_decide_eq_false h;have e:u64.wrap n=n:=by rw[Zmv];omega
 refine Xab (by decide) ?_;refine Xab (by show 0+2<=2;decide) ?_;refine(fin (decide (n<0)) (u64.wrap n) (by rw[e];omega) (by rw[e];omega) (by rw[e,h];simp only[sg])).mono ?_;rintro _ rfl;exact⟨rfl,rfl,rfl⟩
end Go.Proofs.YtplkkbcnilnfaaaGreatDoor
namespace Dv
section
variable {P U V U' V' v1 v2 u2 top q g rest:Int}
def ZyR (hP:0<P) (I:V=(v1*4294967296+v2)*P+V') (C:0<=V') (J:0<=v2) (R:U=(top*4294967296+u2)*P+U') (aa:U'<P) (hu:u2<4294967296) (hv:0<v1) (j:0<=q) (hq:q*V<=U):q<=top/v1:=by
 have e1:q*V=q*v1*(4294967296*P)+(q*v2*P+q*V'):=by rw[I];grind
 have p1:0<=q*v2*P:=XbL (XbL j J) (by omega);have p2:0<=q*V':=XbL j C;have p3:u2*P<=4294967295*P:=Xa0 (by omega) (by omega);have e2:U=top*(4294967296*P)+u2*P+U':=by rw[R];grind
 have h1:q*v1*(4294967296*P)<(top+1)*(4294967296*P):=by have e3:(top+1)*(4294967296*P)=top*(4294967296*P)+4294967296*P:=(by grind);omega
 have h3:=Int.lt_of_mul_lt_mul_right h1 (by omega);rw[Int.le_ediv_iff_mul_le hv];omega
def ZtY (C:0<P) (I:V=(v1*4294967296+v2)*P+V') (j:0<=V') (J:0<V) (hU:U=(top*4294967296+u2)*P+U') (R:U'<P) (hg:0<=g) (hr:g*v1+rest=top) (hc:rest*4294967296+u2<g*v2) (hq:q*V<=U):q<g:=by
 have h1:top*4294967296+u2+1<=g*(v1*4294967296+v2):=by have:g*(v1*4294967296+v2)=g*v1*4294967296+g*v2:=(by grind);omega
 have h2:=Xa0 h1 (Xbq C);have e1:g*V=g*(v1*4294967296+v2)*P+g*V':=by rw[I];grind
 have p1:0<=g*V':=XbL hg j;have e2:(top*4294967296+u2+1)*P=(top*4294967296+u2)*P+P:=by grind
 have h3:q*V<g*V:=by omega
 exact Int.lt_of_mul_lt_mul_right h3 (by omega)
def ZnO (I:0<P) (C:V=(v1*4294967296+v2)*P+V') (J:0<=V') (R:V'<P) (h2:0<=v2) (hv:0<v1) (hU:U=(top*4294967296+u2)*P+U') (aa:0<=U') (j:0<=g) (ab:g<4294967296) (hc:g*(v1*4294967296+v2)<=top*4294967296+u2):g*V-V<=U:=by
 have h3:=Xa0 hc (Xbq I);have e1:g*V=g*(v1*4294967296+v2)*P+g*V':=by rw[C];grind
 have p1:g*V'<=g*P:=XbB (by omega) j;have p2:g*P<=4294967296*P:=Xa0 (by omega) (by omega);have p3:(1:Int)*(4294967296*P)<=v1*(4294967296*P):=Xa0 (by omega) (by omega);have e2:V=v1*(4294967296*P)+v2*P+V':=by rw[C];grind
 have p4:0<=v2*P:=XbL h2 (by omega);omega
def Zur (j:g*v1+rest=top) (C:g*v2<=rest*4294967296+u2):g*(v1*4294967296+v2)<=top*4294967296+u2:=by
 have:g*(v1*4294967296+v2)=g*v1*4294967296+g*v2:=by grind
 omega
def ZkY (R:g*v1+rest=top) (j:4294967296<=rest) (C:0<=g) (I:g<4294967296) (J:0<=v2) (U:v2<4294967296) (hu:0<=u2):g*(v1*4294967296+v2)<=top*4294967296+u2:=by
 have e1:g*(v1*4294967296+v2)=g*v1*4294967296+g*v2:=by grind
 have p1:g*v2<=4294967296*v2:=Xa0 (by omega) J;omega
end
end Dv
