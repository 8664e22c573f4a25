/- A function whose first part the program logic walks and whose last part the kit's calculus does. -/
import Derived.Lib.ItoaNum
import GoSem.Op.String
import Derived.Lib.Bytealg
import Derived.Test.YtpdhpbldangmbaaGreatDoorTxG
import Derived.Lib.LaidTab
import Derived.Lib.ItoaMem
set_option linter.all false
set_option maxHeartbeats 8000000
set_option maxRecDepth 100000
open Go.Proofs.Tryz
open Go.IntKind(i64 u32 u64)
namespace Go.Tx
open Go.Am Go.RowKit
def preC:Nat->Code->Code
 |n+1, .seq a r=>match n with
  |0=>a
  |_+1=> .seq a (preC n r)
 |_,c=>c
def Zp9:Nat->Code->Code
 |n+1, .seq _ r=>match n with
  |0=>r
  |_+1=>Zp9 n r
 |_,c=>c
def Ztn:Nat->Code->Bool
 |n+1, .seq _ r=>match n with
  |0=>true
  |_+1=>Ztn n r
 |_,_=>false
section
variable [Laid] {P:Program} {h:Hints}
def ZEj (I:Static P h) (J:Zbk P h) {c code s C e} (R:exS P h (lim P h) c code s=some (e,C)) (j:Zbs h c.fid code=true):Hyp c s e C (λQ a w=>code.wp P Q a w):=by
 let⟨n,hn⟩:=Zgc.ex _ _ _ _ (ZeB c code s _ R)
 exact((ZcF I J n).2.1 _ _ _ _ _ (hn n (Xae _)) j).1
def Zpl (hS:Static P h) (hP:Zbk P h) {c}: ∀ (n:Nat) (code:Code) (s:St) (e:Ex) (J:St),Ztn n code=true->exS P h (lim P h) c (preC n code) s=some (e,J)->Zbs h c.fid (preC n code)=true->
 ∀φ S w a B,Inv φ s.hp w S B->TRel φ w S c.N s.tm a->c.base<=s.hp.length-> ∀Q,
 (∀R w' φ' S',Inv φ' J.hp w' S' B->Evo c.base B φ S w φ' S' w'->TRel φ' w' S' c.N J.tm R->(e≠ .normal->Q (conv e) R w')/\(e= .normal->(Zp9 n code).wp P Q R w'))->code.wp P Q a w
 |0,code,s,e,J,hi,_,_=>by cases code<;>cases hi
 |n+1,code,s,e,J,hi,hx,aa=>by intro φ S w a B hI hT hb Q hQ;cases code with|seq x r=>(cases n with|zero=>(refine wp_seq (ZEj hS hP hx aa φ S w a B hI hT hb _ ?_);intro R w' φ' S' h1 h2 h3 _;(let⟨q1,q2⟩:=hQ R w' φ' S' h1 h2 h3);cases e with|normal=>exact q2 rfl|exit j=>exact q1 sM|ret=>exact q1 sM)|succ n=>have C:(exS P h (lim P h) c x s).bind (Zg2 (exS P h (lim P h) c (preC (n+1) r)))=some (e,J):=hx;have I:(Zbs h c.fid x&&Zbs h c.fid (preC (n+1) r))=true:=aa;rw[Xas]at I;cases h1:exS P h (lim P h) c x s with|none=>rw[h1]at C;cases C|some y=>(let⟨e1,s1⟩:=y);rw[h1,Xad]at C;refine wp_seq (ZEj hS hP h1 I.1 φ S w a B hI hT hb _ ?_);intro a1 w1 U S1 g1 g2 g3 g4;cases e1 with|normal=>refine Zpl hS hP (n+1) r s1 e J hi C I.2 U S1 w1 a1 B g1 g3 g4 Q ?_;intro R w' φ' S' k1 k2 k3;exact hQ R w' φ' S' k1 (g2.trans k2) k3|exit j=>simp[Zg2,Xaj]at C;obtain⟨rfl,rfl⟩:=C;exact(hQ a1 w1 U S1 g1 g2 g3).1 sM|ret=>simp[Zg2,Xaj]at C;obtain⟨rfl,rfl⟩:=C;exact(hQ a1 w1 U S1 g1 g2 g3).1 sM)|_=>cases hi
def ZzF (hS:Static P h) (hP:Zbk P h) {T} (hT:TysOK P T) {f fn code} n (hi:Ztn n code=true) (hf:P.funcs[f]? =some fn) (hb:fn.body=some code) {Vs} {J} {vals}
 (hn:Vs.length<=fn.ntmps) (U:Zbs h f (preC n code)=true) {K} (hw:wp P h T 0 ⟨f,0,fn.ntmps⟩ (preC n code) (ZcQ 0 Vs) [] K) (hr:RL [] Vs J) {S} {w} (aa: ∀b,S b->b<w.heap.size) (hL:Laid.ok S w) (hv:LRel w S J vals) {R}
 (hQ: ∀e st tm hp ab j w' φ' S',K e tm hp->SRep ab tm hp st->Inv φ' st.hp w' S' w.heap.size->Evo 0 w.heap.size (λ_=>none) S w φ' S' w'->TRel φ' w' S' fn.ntmps st.tm j->(e≠ .normal->bodyPost P fn R (conv e) j w')/\(e= .normal->(Zp9 n code).wp P (bodyPost P fn R) j w')):
 Calls P f vals.toArray w R:=by
 let⟨e,C,φ',tm',hp',h1,_,h3,h4⟩:=ZqN hT _ _ _ _ _ [] ⟨enterT 0 J,[]⟩ hw (Xak _) ⟨Zft hr,RH.empty⟩
 have I:=ZdN hv;have hlen:=VL.length I;have hq:=hr.len;refine calls_of_wp hf hb (Zpl hS hP n code _ e C hi h1 U (λ_=>none) S w _ w.heap.size (Inv.empty S w aa hL) ?_ (Xae _) _ λj w' φ' S' k1 k2 k3=>hQ e C tm' hp' _ j w' φ' S' h4 h3 k1 k2 k3);refine⟨by simp;omega,rfl, ?_⟩;intro i p hp;let⟨_,h5⟩:=ZeO J 0 i p hp
 simp at h5;let⟨u,h6,h7⟩:=VL.get I h5
 have hi:=(Xaf.1 h6).1;refine⟨by show i<fn.ntmps;omega, ?_⟩;have:(vals.toArray++Array.replicate (fn.ntmps-vals.toArray.size) undef).getD i undef=u:=by rw[Array.getD_eq_getD_getElem?,Array.getElem?_append_left (by simpa using hi)];simp[h6]
 rw[this];exact h7
end
end Go.Tx
namespace Dv
open Go Go.Lib
def ZMc:List UInt8->Nat->Nat
 | [],n=>n
 |c::s,n=>ZMc s (10*n+(c.toNat-48))
def ZtT (n:Nat) (s:List UInt8):Nat:=ZMc s n
def dec (s:List UInt8):Nat:=ZtT 0 s
def Dg (s:List UInt8):Prop:= ∀c∈s,48<=c.toNat/\c.toNat<=57
def Cn (s:List UInt8):Prop:=s≠ []/\Dg s/\(1<s.length->s.head?≠some 48)
def ZCq (n:Nat):ZtT n []=n:=rfl
theorem ZeG (n:Nat) (c:UInt8) (s:List UInt8):ZtT n (c::s)=ZtT (10*n+(c.toNat-48)) s:=by unfold ZtT;rfl
def ZsP:dec []=0:=rfl
theorem Zly: ∀ (s:List UInt8) (n:Nat),ZtT n s=n*10^s.length+dec s
 | [],n=>by rw[ZCq,ZsP];simp
 |c::s,n=>by have j:dec (c::s)=ZtT (10*0+(c.toNat-48)) s:=ZeG 0 c s;rw[ZeG,Zly s,j,Zly s (10*0+_),Xao,XbY,Xbs,Xbs];have:10*n*10^s.length=n*(10^s.length*10):=(by rw[XbR 10 n,XbW,XbR 10]);omega
theorem Zr2 (s t:List UInt8):dec (s++t)=dec s*10^t.length+dec t:=by
 have: ∀ (s t:List UInt8) (n:Nat),ZtT n (s++t)=ZtT (ZtT n s) t:=by intro s;induction s with|nil=>intro t n;rfl|cons c s j=>intro t n;exact j t _
 grind [dec,Zly]
theorem Zdd (c:UInt8) (s:List UInt8):dec (c::s)=(c.toNat-48)*10^s.length+dec s:=by grind [dec,ZtT,ZeG,Zly]
def ZkQ (c:UInt8):dec [c]=c.toNat-48:=by rw[Zdd,ZsP];simp
def ZgS (s:List UInt8) (c:UInt8):dec (s++ [c])=dec s*10+(c.toNat-48):=by rw[Zr2,ZkQ];simp
def Dg.app {s t:List UInt8} (j:Dg s) (C:Dg t):Dg (s++t):=λc I=>(XaO.1 I).elim (j c) (C c)
def Dg.left {s t:List UInt8} (h:Dg (s++t)):Dg s:=λc j=>h c (Xbu _ j)
def Dg.right {s t:List UInt8} (h:Dg (s++t)):Dg t:=λc j=>h c (XbH _ j)
theorem ZcO {s:List UInt8} (h:Dg s):dec s<10^s.length:=by induction s with|nil=>rw[ZsP];simp|cons c s j=>have I:=h c Xah;have J:=j λx C=>h x (Xai _ C);rw[Zdd,Xao,XbY];have R:(c.toNat-48)*10^s.length<=9*10^s.length:=Xbk _ oM;omega
def Zt4 {c:UInt8} (j:48<=c.toNat):UInt8.ofNat (48+(c.toNat-48))=c:=by simp_all
def Cn.ge {s:List UInt8} (h:Cn s) (C:1<s.length):10^(s.length-1)<=dec s:=by
 let⟨_,I,j⟩:=h
 cases s with|nil=>simp at C|cons c s=>have j:=j C;have J:=I c Xah;have:c.toNat≠48:=λe=>j (by simp[List.head?_cons,Xaj];exact UInt8.toNat_inj.1 (by rw[e];rfl));rw[Zdd,Xao,Nat.add_sub_cancel];have j:1*10^s.length<=(c.toNat-48)*10^s.length:=Xbk _ oM;omega
def Cn.left {s:List UInt8} {c:UInt8} (h:Cn (s++ [c])) (j:s≠ []):Cn s:=by
 let⟨_,C,I⟩:=h
 refine⟨j,C.left,λJ=> ?_⟩;cases s with|nil=>exact absurd rfl j|cons x s=>simpa using I sM
def Cn.eq {s:List UInt8} (h:Cn s):decDigits (dec s)=s:=by
 have main: ∀ (n:Nat) (s:List UInt8),s.length=n->Cn s->decDigits (dec s)=s:=by intro n;induction n with|zero=>intro s hl h;exact absurd (Xbv.1 hl) h.1|succ n I=>intro s hl h;obtain⟨t,c,rfl⟩: ∃t c,s=t++ [c]:=⟨s.dropLast,s.getLast h.1,(List.dropLast_concat_getLast h.1).symm⟩;have C:=h.2.1 c sM;by_cases j:t=[];subst j;rw[Xba,ZkQ,decDigits_one oM,Zt4 C.1];have J:=h.left j;have R:1<=dec t:=(by cases t with|nil=>exact absurd rfl j|cons x t=>have U:=h.2.1 x sM;have:x.toNat≠48:=λe=>(h.2.2 sM) (by simp[Xa5,List.head?_cons,Xaj];exact UInt8.toNat_inj.1 (by rw[e];rfl));rw[Zdd];have h5:1*10^t.length<=(x.toNat-48)*10^t.length:=Xbk _ oM;grind);rw[ZgS,decDigits,dif_neg oM,show(dec t*10+(c.toNat-48))/10=dec t by omega,show(dec t*10+(c.toNat-48)) % 10=c.toNat-48 by omega,(I t (by simpa using hl) J),Zt4 C.1]
 exact main _ s rfl h
theorem Zd6 {d:Nat} (h:d<10):(UInt8.ofNat (48+d)).toNat=48+d:=by rw[UInt8.toNat_ofNat'];omega
theorem Zaz (n:Nat):dec (decDigits n)=n:=by induction n using Nat.strongRecOn with|_ n j=>by_cases h:n<10;rw[decDigits_one h,ZkQ,Zd6 h];omega;rw[decDigits,dif_neg h,ZgS,j _ oM,Zd6 oM];omega
theorem Zbj (n:Nat):Dg (decDigits n):=by induction n using Nat.strongRecOn with|_ n j=>by_cases h:n<10;rw[decDigits_one h];intro c C;grind [Xav,Zd6];rw[decDigits,dif_neg h];refine(j _ oM).app ?_;intro c C;grind [Xav,Zd6]
def ZfV (n:Nat):decDigits n≠ []:=λe=>by have:=decDigits_length n;have h:=nDigits_pos n;grind
theorem Zb4 (n:Nat):Cn (decDigits n):=by refine⟨ZfV n,Zbj n, ?_⟩;induction n using Nat.strongRecOn with|_ n I=>by_cases h:n<10;rw[decDigits_one h];simp;rw[decDigits,dif_neg h];intro _;by_cases C:1<(decDigits (n/10)).length;have:=I _ oM C;(cases hd:decDigits (n/10)with|nil=>exact absurd hd (ZfV _)|cons x t=>rw[hd]at this;simpa using this);have j:n/10<10:=(by rcases Xa8 (n/10) 10 with h'|h';exact h';rw[decDigits_length,nDigits_big oM]at C;have:=nDigits_pos (n/10/10);omega);rw[decDigits_one j];simp only[Xa5,Xba,List.head?_cons,ne_eq,Xaj];intro e;have:=Zd6 j;rw[e]at this;grind
def Cn.inj {s t:List UInt8} (j:Cn s) (C:Cn t) (h:dec s=dec t):s=t:=by rw[<-j.eq,<-C.eq,h]
def Zcp {n k:Nat} (C:1<=k):(decDigits n).length<=k<->n<10^k:=by constructor;grind [ZcO,Zbj,Zaz,XaW,Xbd];intro h;rcases Xa8 k (decDigits n).length with h1|h1;have j:=(Zb4 n).ge oM;rw[Zaz]at j;have:=Xbd (show 0<10 by decide) (show k<=(decDigits n).length-1 by omega);omega;exact h1
def ZkM {s t:List UInt8} (j:Cn s) (C:Cn t) (h:s.length<t.length):dec s<dec t:=by
 have I:=ZcO j.2.1;have J:1<=s.length:=by cases s with|nil=>exact absurd rfl j.1|cons _ _=>simp
 have R:=C.ge oM;have:=Xbd (show 0<10 by decide) (show s.length<=t.length-1 by omega);omega
def ZiC: ∀ {s t:List UInt8},Dg s->Dg t->s.length=t.length->(Op.bytesLess s t=true<->dec s<dec t)
 | [],[],_,_,_=>by simp[Op.bytesLess]
 |a::s,b::t,I,J,hl=>by have R:Dg s:=λc C=>I c (Xai _ C);have U:Dg t:=λc C=>J c (Xai _ C);have j:s.length=t.length:=(by simpa using hl);have ha:=I a Xah;have hb:=J b Xah;have l1:=ZcO R;have l2:=ZcO U;rw[Zdd,Zdd,j];simp[Op.bytesLess,Bool.or_eq_true,Xas,decide_eq_true_eq,beq_iff_eq,(ZiC R U j)];rw[UInt8.lt_iff_toNat_lt];rcases Nat.lt_trichotomy a.toNat b.toNat with h|h|h;have:(a.toNat-48+1)*10^t.length<=(b.toNat-48)*10^t.length:=Xbk _ oM;grind;have e:=UInt8.toNat_inj.1 h;subst e;simp;have:(b.toNat-48+1)*10^t.length<=(a.toNat-48)*10^t.length:=Xbk _ oM;grind
def Zm6 {s:List UInt8} (h:Dg s):dec (48::s)=dec s:=by rw[Zdd];simp
def Wd (l:List Int):Prop:= ∀x∈l,0<=x/\x<4294967296
def wv:List Int->Int
 | []=>0
 |x::r=>x+4294967296*wv r
theorem ZeJ: ∀ (l m:List Int),wv (l++m)=wv l+4294967296^l.length*wv m
 | [],m=>by simp[wv]
 |x::l,m=>by simp only[Xa5,wv,ZeJ l m,Xao,XbB];rw[Int.mul_add,<-Int.mul_assoc,Int.mul_comm _ 4294967296,Int.add_assoc]
theorem Zcu {l:List Int} {i:Nat} (h:i<l.length):wv (l.take (i+1))=wv (l.take i)+4294967296^i*l[i]:=by rw[Xa2 h,ZeJ];simp[wv,XaU (XbN h)]
def ZcS {l:List Int} {i:Nat} {x:Int} (h:i<l.length):(l.set i x).take (i+1)=l.take i++ [x]:=by simp_all [Xa2,XbK,Xae]
def Zu0 {a b out:List Int} {i:Nat} {c j z:Int} (hi:i<a.length) (ho:i<out.length) (C:wv (b.take (i+1))=wv (b.take i)+4294967296^i*z) (I:j=c+a[i]+z)
 (h:wv (out.take i)+4294967296^i*c=wv (a.take i)+wv (b.take i)):wv ((out.set i (j % 4294967296)).take (i+1))+4294967296^(i+1)*(j/4294967296)=wv (a.take (i+1))+wv (b.take (i+1)):=by
 rw[ZcS ho,ZeJ,Zcu hi,C,Xaz,XaU (XbN ho),XbB];have:wv [j % 4294967296]=j % 4294967296:=by simp[wv]
 grind
def ZvD {a b out:List Int} {i:Nat} {c j z:Int} (hi:i<a.length) (ho:i<out.length) (C:wv (b.take (i+1))=wv (b.take i)+4294967296^i*z) (I:j=c+a[i]-z)
 (h:wv (out.take i)+4294967296^i*c=wv (a.take i)-wv (b.take i)):wv ((out.set i (j % 4294967296)).take (i+1))+4294967296^(i+1)*(j/4294967296)=wv (a.take (i+1))-wv (b.take (i+1)):=by
 rw[ZcS ho,ZeJ,Zcu hi,C,Xaz,XaU (XbN ho),XbB];have:wv [j % 4294967296]=j % 4294967296:=by simp[wv]
 grind
def Zbu: ∀ {l:List Int},Wd l->0<=wv l/\wv l<4294967296^l.length
 | [],_=>by simp[wv]
 |x::l,h=>by have C:=h x Xah;have I:=Zbu λy j=>h y (Xai _ j);rw[wv,Xao,XbB];omega
def Zzg {a b:List Int} (I:Wd a) (J:Wd b) {m:Nat} (hm:m<a.length) (hl:a.length=b.length) (hd:a.drop (m+1)=b.drop (m+1)) (h:a[m]<b[m]):wv a<wv b:=by
 have R:wv a=wv (a.take m)+4294967296^m*(a[m]+4294967296*wv (a.drop (m+1))):=by(conv=>lhs;rw[<-Xbc m a]);rw[ZeJ,Xaz,XaU (by omega),XaM hm];rfl
 have U:wv b=wv (b.take m)+4294967296^m*(b[m]+4294967296*wv (b.drop (m+1))):=by(conv=>lhs;rw[<-Xbc m b]);rw[ZeJ,Xaz,XaU (by omega),XaM (by omega)];rfl
 have b1:=Zbu (l:=a.take m) λx j=>I x (XaY j);have b2:=Zbu (l:=b.take m) λx j=>J x (XaY j);rw[Xaz,XaU (by omega)]at b1;rw[R,U,hd];generalize 4294967296*wv (b.drop (m+1))=t;have hp:(0:Int)<4294967296^m:=Xb0 (by decide);have:4294967296^m*(a[m]+t)+4294967296^m<=4294967296^m*(b[m]+t):=by have C:=Xbt (show a[m]+t+1<=b[m]+t by omega) (Xbw hp);rw[Int.mul_add,Int.mul_one]at C;exact C
 omega
def Nz (l:List Int):Prop:= ∀h:l≠ [],l.getLast h≠0
theorem ZtV: ∀ {l:List Int} {i:Nat} {x:Int} (h:i<l.length),wv (l.set i x)=wv l+4294967296^i*(x-l[i])
 | [],i,x,h=>by simp at h
 |y::l,0,x,_=>by simp only[List.set_cons_zero,wv,List.getElem_cons_zero,Int.pow_zero];omega
 |y::l,i+1,x,h=>by have j:=ZtV (x:=x) (by simpa using h);simp only[List.set_cons_succ,wv,List.getElem_cons_succ,j,XbB];grind
def ZiR {m n b:Nat} (j:0<b) (h:m<=n):(b:Int)^m<=(b:Int)^n:=by have:=Xbd j h;grind
def Zqv: ∀ {l:List Int},Wd l->Nz l->l≠ []->0<wv l
 | [],_,_,h=>absurd rfl h
 | [x],hw,hn,_=>by have j:=hw x (by simp);have C:x≠0:=hn (by simp);simp[wv];omega
 |x::y::l,hw,hn,_=>by have j:=hw x (by simp);have C:=Zqv (λz I=>hw z (Xai _ I)) (λh=>by have:=hn (by simp);rwa[List.getLast_cons (by simp)]at this) (by simp);show 0<x+4294967296*wv (y::l);omega
open Go.Am
def ZCN:Nat->Nat->List UInt8
 |0,_=> []
 |k+1,n=>match Nat.ble 10 n with
  |true=>ZCN k (n/10)++ [UInt8.ofNat (48+n % 10)]
  |false=> [UInt8.ofNat (48+n)]
def ZsY: ∀ (k n:Nat),1<=k->n<10^k->ZCN k n=Lib.decDigits n
 |0,_,h,_=>absurd h dC
 |k+1,n,_,h=>by rw[ZCN];cases j:Nat.ble 10 n with|true=>have j:=Xam j;have C:1<=k:=(by grind);rw[ZsY k (n/10) C (by rw[XbY]at h;omega),Lib.decDigits.eq_1 n,dif_neg oM]|false=>have j:n<10:=(by grind [Xa8,Nat.ble_eq_true_of_le]);rw[Lib.decDigits_one j]
def ZfZ:List (List PV)->Option (List Int)
 | []=>some []
 | [.int .u32 x]::r=>match decide (0<=x)&&decide (x<4294967296)with
  |true=>(ZfZ r).map λl=>x::l
  |false=>none
 |_=>none
def ZeV (m:Bool) (l:List Int):List UInt8:=match l.isEmpty with
 |true=> [48]
 |false=>match Nat.ble l.length 210 with
  |true=>(match m with|true=> [45]|false=> [])++ZCN 2100 (wv l).toNat
  |false=> []
def ZeA (l:List Int):Bool:=match l.isEmpty with
 |true=>true
 |false=>match Nat.ble l.length 210 with
  |true=>Nat.ble (ZCN 2100 (wv l).toNat).length 2000
  |false=>false
def textG:List PV->Option PV
 | [.agg [.bool m, .nils]]=>some (.tup [.str ⟨(ZeV m []).toArray⟩, .bool (ZeA [])])
 | [.agg [.bool m, .lst es]]=>(ZfZ es).map λl=> .tup [.str ⟨(ZeV m l).toArray⟩, .bool (ZeA l)]
 |_=>none
def ZJj (s:List UInt8):Bool:=s.all λc=>Nat.ble 48 c.toNat&&Nat.ble c.toNat 57
def parseG:List PV->Option PV
 | [.str s, .int .i64 b, .int .i64 z]=>match decide (b=10)&&decide (z=32)&&(ZJj s.data.toList&&Nat.ble 1 s.data.toList.length&&Nat.ble s.data.toList.length 9)with
  |true=>some (.tup [.int .u64 (dec s.data.toList:Nat), .nili])
  |false=>none
 |_=>none
def Zo8:List UInt8->UInt8->Nat->Int
 | [],_,_=> -1
 |b::l,c,i=>match Nat.beq b.toNat c.toNat with
  |true=>(i:Int)
  |false=>Zo8 l c (i+1)
def ZjI: ∀ (l:List UInt8) (c:UInt8),-1<=indexByte l c
 | [],_=>Xby _
 |b::l,c=>by have:=ZjI l c;rw[indexByte];omega
theorem ZxA: ∀ (l:List UInt8) (c:UInt8) (i:Nat),Zo8 l c i=if indexByte l c= -1 then-1 else i+indexByte l c
 | [],_,_=>rfl
 |b::l,c,i=>by have I:=ZjI l c;have J:=ZxA l c (i+1);have j:Nat.beq b.toNat c.toNat=(b==c):=(by rw[XbQ,Nat.beq_eq,beq_iff_eq];exact UInt8.toNat_inj);rw[Zo8,indexByte,j];cases C:b==c with|true=>simp|false=>grind
def ZHL (l:List UInt8) (c:UInt8):Zo8 l c 0=indexByte l c:=by grind [ZxA]
def indexG:List PV->Option PV
 | [.str s, .str t]=>match t.data.toList with
  | [c]=>some (.int .i64 (Zo8 s.data.toList c 0))
  |_=>none
 |_=>none
def ZD6 (s:List UInt8) (c:UInt8):List UInt8×List UInt8×Bool:=match decide (0<=Zo8 s c 0)with
 |true=>(s.take (Zo8 s c 0).toNat,s.drop ((Zo8 s c 0).toNat+1),true)
 |false=>(s,[],false)
end Dv
namespace Go.Proofs.YtpdhpbldangmbaaGreatDoor
noncomputable section
def Zty {P:Program} {w w':World} {name:String} {k:IntKind} {zs:List Int} {g:Nat} (j:P.globalNamed name=some g) (C:w'.heap[g]? =w.heap[g]?) (h:Lib.TabIs P w name k zs):Lib.TabIs P w' name k zs:=by unfold Lib.TabIs World.var? at*;grind
def Zhr:String:= "internal/strconv.uint64pow10"
instance natLaid:Am.Laid where
 ok S w:= ∃g,prog.globalNamed Zhr=some g/\S g/\Lib.TabIs prog w Zhr .u64 Lib.pow10Tab
 mono:=by rintro S w S' w' h ⟨g,h1,h2,h3⟩;exact⟨g,h1,(h g h2).1,Zty h1 (h g h2).2 h3⟩
def hOk:List Nat:=
 [3,5,7,8,9,10,12,13,15,16,17,18,19,20,21,22,23,24,25,26,27,28,29,30,31,32,33,34,35,36,37,38,39,40,41,42,43,44,45,46,47,48,49,50,51,52,53,54,55,56,57,58,59,60,61,62,63,64,65,66,67,68,69,70,71,72,73,74,75,76,77,78,79,80,81,82,83,84,85,86,87,88,89,90,91,92,93,94,95,96,97,98,99,100,101,102,103,104,105,106,107,108,110,111,112,113,114,115,116,117,118,119,120,121,122,126,127,128,129,130,131,132,133,136,138,139,149,152,155,160,161]
def ZMQ:List Nat:=
 [40,49,51,56,120]
def ZMq:List Nat:=
 [7,9,12,18,21,24,25,34,43,44,46,48,52,53,54,55,58,59,61,62,73,78,80,81,82,83,86,87,88,89,98,99,100,101,105,107,117,118,119,121,122,128,138]
def ZMn:List Nat:=
 [22,23,26,27,45,57,60,84,97,102,104,133]
def ZIM:List (Nat×List (Nat×List Nat)):=
 [(9,[(22,[9,10,11]),(23,[9,10,11])]),(22,[(5,[0]),(6,[0]),(8,[0]),(9,[0])]),(34,[(5,[0,3,4,5,6]),(38,[3,4,5,6,7,8,9,10,11,12,13,14,15])]),(46,[(12,[12,13])]),(56,[(17,[9])]),(97,[(9,[0])]),(100,[(5,[1])]),(102,[(9,[0])]),(104,[(11,[2,3])])]
def ZLw:List (Nat×List (Nat×List Nat)):=
 [(34,[(5,[0,1,2,4,5,6,7,8,3,9,10,11,12]),(38,[0,1,2,4,5,6,7,8,9,10,11,12,13,14,15,16,3,17,18,19,20,21,22])])]
def ZEk:Am.Hints:=Am.withPerm (Am.mkHints hOk ZMQ ZMq ZMn [] [] ZIM [92,66,67]) ZLw
def ZsA:Am.Static prog ZEk:=Am.static_ofP checked.mixed (by decide+kernel)
def Zrd:FuncId->Option (List Am.PV->Option Am.PV)
 |109=>some Dv.textG
 |150=>some Dv.parseG
 |137=>some Dv.indexG
 |_=>none
def ZqJ (p:FuncId->Option (List Am.PV->Option Am.PV)):Am.Hints:=Am.withPrims ZEk p
def ZeM:Am.Hints:=ZqJ Zrd
def ZwI:List (Am.PV×Am.PV)->Option Bool
 | []=>some true
 |(_, .int .i64 v)::r=>(ZwI r).map λb=>decide (v=0)&&b
 |_=>none
def Zo4 (s:Am.St):Option Am.PV:=match Am.get s.tm 7 with
 |some (.map id)=>match s.hp[id]? with
  |some (.map es)=>(ZwI es).map λb=> .int .i64 (bif b then 0 else 14)
  |_=>none
 |_=>none
def Zd8:Option (Am.Ex×Am.St)->Option Am.PV
 |some (.normal,s)=>Zo4 s
 |some (.ret,s)=>match Am.get s.tm 4 with
  |some (.int .i64 e)=>some (.int .i64 e)
  |_=>none
 |_=>none
def ZjV (j:List Am.PV):Option Am.PV:=bif !Nat.ble j.length 61 then none else Zd8 (Am.exS prog ZeM (Am.lim prog ZeM) ⟨6,0,61⟩ (Go.Tx.preC 6 (Go.Am.bodyOf Tryz.f6)) ⟨Am.enterT 0 j,[]⟩)
def Zm3 (b:Bool):FuncId->Option (List Am.PV->Option Am.PV)
 |109=>some Dv.textG
 |150=>some Dv.parseG
 |137=>some Dv.indexG
 |6=>bif b then some ZjV else none
 |4=>bif b then some Am.factOf else none
 |_=>none
abbrev prims:FuncId->Option (List Am.PV->Option Am.PV):=Zm3 true
abbrev Zbg (b:Bool):Am.Hints:=ZqJ (Zm3 b)
abbrev Zai:Am.Hints:=Zbg true
def Zzh:Zbg false=ZeM:=by rw[Zbg,ZeM];congr 1;funext f;unfold Zm3 Zrd;grind
open Go.Am Go.Tx Dv
theorem Zap {x} (j: -9223372036854775808<=x) (C:x<9223372036854775808):i64.wrap x=x:=by unfold IntKind.wrap IntKind.signed IntKind.bits;grind
abbrev ZbC (l:List Int):SV:= .v (.l (.i .u32)) l
theorem Zav {x} (j:0<=x) (C:x<18446744073709551616):u64.wrap x=x:=by unfold IntKind.wrap IntKind.signed IntKind.bits;grind
def Zbm x:u32.wrap x=x % 4294967296:=by unfold IntKind.wrap IntKind.signed IntKind.bits;simp
def ZrC (x:Int):x.fdiv (2^min (Int.toNat 32) u64.bits)=x/4294967296:=by show x.fdiv 4294967296=_;grind
def ZK8 (a b:List Int) (s:Nat×Int×List Int):TM:=[(0,ZbC a),(1,ZbC b),(5, .ref 0 0 (a.length+1) none),(6, .v (.i .u64) s.2.1),(20, .v (.i .i64) (a.length:Int)),(21, .v (.i .i64) (s.1:Int))]
def Zw7 (a b:List Int) (ha:Wd a) (hb:Wd b) (ab:b.length<=a.length) (hl:a.length<=1000000000):LoopOK prog Zai 0 ⟨105,0,57⟩ (ZaN Tryz.f105 6) (ZK8 a b (0,0,List.replicate (a.length+1) 0)) [.row (.i .u32) (List.replicate (a.length+1) (0:Int)) true]
 (λe tm hp=>e= .exit 0/\ ∃c out X,0<=c/\c<=1/\out.length=a.length+1/\Wd (out.take a.length)/\wv (out.take a.length)+4294967296^a.length*c=wv a+wv b/\tm=(22,X)::ZK8 a b (a.length,c,out)/\hp=[.row (.i .u32) out true]):=by
 refine Zaq Zaa rfl (ZK8 a b) (λs=> [.row (.i .u32) s.2.2 true])
  (λs=>s.1<=a.length/\0<=s.2.1/\s.2.1<=1/\s.2.2.length=a.length+1/\Wd (s.2.2.take s.1)/\wv (s.2.2.take s.1)+4294967296^s.1*s.2.1=wv (a.take s.1)+wv (b.take s.1)) (λs=>a.length-s.1) ?_ (0,0,List.replicate (a.length+1) 0) ?_ ?_
 rintro⟨i,c,out⟩ ⟨hi,R,U,hlen,J,j⟩;simp only at hi R U hlen J j;refine Xaa (λh=> ?_) (λh=> ?_);have C:i<a.length:=by have:=dT h;simp only at this;omega
 have ad:=ha _ (XaI C);have e1:u64.wrap a[i]=a[i]:=Zav oM oM;have e2:u64.wrap (c+u64.wrap a[i])=c+a[i]:=by rw[e1];exact Zav oM oM
 have ho:i<out.length:=oM;have aa: ∀c':Int,Wd ((out.set i (c' % 4294967296)).take (i+1)):=by intro c' x hx;rw[ZcS ho]at hx;rcases XaO.1 hx with hx|hx;exact J x hx;rw[Xav.1 hx];omega
 have wi:i64.wrap ((i:Int)+1)=((i+1:Nat):Int):=Zap oM oM;refine⟨a[i],XaG i,Xac C, ?_⟩;refine Xaa (λh2=> ?_) (λh2=> ?_);have I:i<b.length:=by have:=dT h2;simp only at this;omega
 have ae:=hb _ (XaI I);have e3:u64.wrap b[i]=b[i]:=Zav oM oM;have e4:u64.wrap (u64.wrap (c+u64.wrap a[i])+u64.wrap b[i])=c+a[i]+b[i]:=by rw[e2,e3];exact Zav oM oM
 refine⟨b[i],XaG i,Xac I, ?_⟩;refine Xaa ⟨XaG i,by show(i:Int)<((a.length+1:Nat):Int);omega⟩ ?_;refine Exists.intro (out[i]) (Xaa sM ?_);refine Xaa dC ?_;have ec:(c+a[i]+b[i])/4294967296=(u64.wrap (u64.wrap (c+u64.wrap a[i])+u64.wrap b[i])).fdiv (2^min (Int.toNat 32) u64.bits):=by rw[e4,ZrC]
 have er:out.set i ((c+a[i]+b[i]) % 4294967296)=out.set (0+(i:Int).toNat) (u32.wrap (u64.wrap (u64.wrap (c+u64.wrap a[i])+u64.wrap b[i]))):=by rw[e4,Zbm,Xab,Xag]
 refine⟨(i+1,(c+a[i]+b[i])/4294967296,out.set i ((c+a[i]+b[i]) % 4294967296)),⟨C, ?_, ?_, ?_,aa _, ?_⟩, ?_, ?_⟩;show 0<=(c+a[i]+b[i])/4294967296;omega;show(c+a[i]+b[i])/4294967296<=1;omega;show(out.set _ _).length=_;simpa using hlen;exact Zu0 C ho (Zcu I) rfl j;show a.length-(i+1)<a.length-i;omega;exact eO;have I:b.length<=i:=by have:=dF h2;simp only at this;omega
 have hz:wv (b.take (i+1))=wv (b.take i)+4294967296^i*0:=by rw[Xax oM,Xax I];omega
 refine Xaa ⟨XaG i,by show(i:Int)<((a.length+1:Nat):Int);omega⟩ ?_;refine Exists.intro (out[i]) (Xaa sM ?_);refine Xaa dC ?_;have ec:(c+a[i]+0)/4294967296=(u64.wrap (c+u64.wrap a[i])).fdiv (2^min (Int.toNat 32) u64.bits):=by rw[e2,ZrC,Int.add_zero]
 have er:out.set i ((c+a[i]+0) % 4294967296)=out.set (0+(i:Int).toNat) (u32.wrap (u64.wrap (c+u64.wrap a[i]))):=by rw[e2,Zbm,Xab,Xag,Int.add_zero]
 refine⟨(i+1,(c+a[i]+0)/4294967296,out.set i ((c+a[i]+0) % 4294967296)),⟨C, ?_, ?_, ?_,aa _, ?_⟩, ?_, ?_⟩;show 0<=(c+a[i]+0)/4294967296;omega;show(c+a[i]+0)/4294967296<=1;omega;show(out.set _ _).length=_;simpa using hlen;exact Zu0 C ho hz rfl j;show a.length-(i+1)<a.length-i;omega;exact eO;have he:i=a.length:=by have:=dF h;simp only at this;omega
 subst he;rw[Xa1,Xax ab]at j;exact⟨rfl,c,out,_,R,U,hlen,J,j,rfl,rfl⟩;exact⟨Xak _,Xby _,by show(0:Int)<=1;decide,sM,by intro x hx;simp at hx,by simp[wv]⟩;exact Zaj
def Zv6 (a b:List Int) (ha:Wd a) (hb:Wd b) (hl:a.length<=1000000000) (C:b.length<=1000000000):PureOK prog Zai 105 [ZbC a,ZbC b] (λV=> ∃out,V=ZbC out/\Wd out/\out.length<=max a.length b.length+1/\wv out=wv a+wv b):=by
 refine Zae Zaa func105 ?_;have U: ∀a:List Int,a.length<=1000000000->i64.wrap ((a.length:Int)+1)=((a.length+1:Nat):Int):=λa h=>Zap oM oM
 have w2: ∀a:List Int,a.length<=1000000000-> ∀x:Int,x=((a.length+1:Nat):Int)->0<=x/\x<=x/\(4:Int)*x<=281474976710656/\x<9223372036854775808:=λa h x hx=>oM
 have w3: ∀a:List Int,∀x:Int,x=((a.length+1:Nat):Int)->a.length+1=x.toNat:=λa x hx=>oM
 have w4: ∀a:List Int,∀x:Int,x=((a.length+1:Nat):Int)->List.replicate (a.length+1) (0:Int)=List.replicate x.toNat 0:=λa x hx=>by rw[<-w3 a x hx]
 have fin: ∀ (a b out:List Int) (c:Int),a.length<=1000000000->0<=c->c<=1->out.length=a.length+1->Wd (out.take a.length)->wv (out.take a.length)+4294967296^a.length*c=wv a+wv b->
  sub (out.set (0+(a.length:Int).toNat) (u32.wrap c)) 0 (a.length+1)=out.set a.length (c % 4294967296)/\Wd (out.set a.length (c % 4294967296))/\(out.set a.length (c % 4294967296)).length=a.length+1/\wv (out.set a.length (c % 4294967296))=wv a+wv b:=by
  intro a b out c hl J R hlen I j;have ho:a.length<out.length:=oM;have hx: ∀x:Int,out.set a.length x=out.take a.length++ [x]:=λx=>by rw[<-ZcS ho,Xax (by rw[Xap];omega)]
  refine⟨by rw[Xab,Xag,Zbm,sub,XaP,Xax (by rw[Xap];omega)], ?_,by rw[Xap];omega, ?_⟩;rw[hx];intro x hx;rcases XaO.1 hx with hx|hx;exact I x hx;rw[Xav.1 hx];omega;rw[hx,ZeJ,Xaz,XaU (XbN ho),<-j,show c % 4294967296=c by omega];simp[wv]
 refine Xaa (λh=> ?_) (λh=> ?_);have aa:a.length<=b.length:=tO h;refine Xaa (w2 b C _ (U b C)) ?_;refine((Zw7 b a hb ha aa C).ent ?_).mono ?_;refine Zbx rfl rfl ?_ ?_;exact⟨rfl,rfl,⟨rfl,w3 b _ (U b C),w3 b _ (U b C)⟩,rfl,rfl,rfl,trivial⟩;exact⟨⟨w4 b _ (U b C),λ_=>rfl⟩,trivial⟩;rintro _ _ _ ⟨rfl,c,out,X,J,R,hlen,I,j,rfl,rfl⟩;let⟨f1,f2,f3,f4⟩:=fin b a out c C J R hlen I j
 refine Xaa ⟨XaG _,by show(b.length:Int)<((b.length+1:Nat):Int);omega⟩ ?_;refine Exists.intro (out[b.length]) (Xaa sM ?_);refine Xaa (by show 0+(b.length+1)<=(out.set _ _).length;rw[Xap];omega) ?_;exact⟨_,congrArg ZbC f1,f2,by rw[f3];omega,by rw[f4,Int.add_comm]⟩;have aa:b.length<=a.length:=fO h;refine Xaa (w2 a hl _ (U a hl)) ?_;refine((Zw7 a b ha hb aa hl).ent ?_).mono ?_;refine Zbx rfl rfl ?_ ?_;exact⟨rfl,rfl,⟨rfl,w3 a _ (U a hl),w3 a _ (U a hl)⟩,rfl,rfl,rfl,trivial⟩;exact⟨⟨w4 a _ (U a hl),λ_=>rfl⟩,trivial⟩;rintro _ _ _ ⟨rfl,c,out,X,J,R,hlen,I,j,rfl,rfl⟩;let⟨f1,f2,f3,f4⟩:=fin a b out c hl J R hlen I j
 refine Xaa ⟨XaG _,by show(a.length:Int)<((a.length+1:Nat):Int);omega⟩ ?_;refine Exists.intro (out[a.length]) (Xaa sM ?_);refine Xaa (by show 0+(a.length+1)<=(out.set _ _).length;rw[Xap];omega) ?_;exact⟨_,congrArg ZbC f1,f2,by rw[f3];omega,f4⟩
def Zkg {r x} (I:0<=r) (J:r<4294967296) (R:0<=x) (U:x<4294967296):
 u64.wrap ((BitVec.ofInt u64.bits (u64.wrap (r*2^min (Int.toNat 32) u64.bits))|||BitVec.ofInt u64.bits (u64.wrap x)).toNat:Int)=r*4294967296+x:=by
 obtain⟨n,rfl⟩: ∃n:Nat,r=n:=⟨r.toNat,oM⟩;obtain⟨m,rfl⟩: ∃m:Nat,x=m:=⟨x.toNat,oM⟩;have j:u64.wrap ((n:Int)*2^min (Int.toNat 32) u64.bits)=((n*4294967296:Nat):Int):=by show u64.wrap ((n:Int)*4294967296)=_;grind [Zav]
 have C:=Zav oM oM;rw[j,C];show u64.wrap ((BitVec.ofInt 64 ((n*4294967296:Nat):Int)|||BitVec.ofInt 64 (m:Int)).toNat:Int)=_;rw[BitVec.ofInt_natCast,BitVec.ofInt_natCast,BitVec.toNat_or,BitVec.toNat_ofNat,BitVec.toNat_ofNat,Xbz oM,Xbz oM];have e3:n*4294967296|||m=n*4294967296+m:=by have:=Nat.shiftLeft_add_eq_or_of_lt (a:=n) (b:=m) (i:=32) oM;grind [Nat.shiftLeft_eq]
 grind [Zav]
def ZmB (p:FuncId->Option (List PV->Option PV)) (hp:p 122=none) (a:List Int) (d:Int) (ha:Wd a) (J:0<d) (an:d<4294967296) (hl:a.length<=1000000000):PureOK prog (ZqJ p) 122 [ZbC a, .v (.i .u32) d] (λV=> ∃q,V= .tup [ZbC q, .v (.i .u32) (wv a % d)]/\Wd q/\q.length=a.length/\wv q=wv a/d):=by
 refine Zlx (fn:=Tryz.f122) (code:=bodyOf Tryz.f122) Zaa kR hp func122 kR (Xam kR) ?_;have w1:i64.wrap ((a.length:Int)-1)=(a.length:Int)-1:=Zap oM oM;have w2:0<=(a.length:Int)/\(a.length:Int)<=a.length/\(4:Int)*a.length<=281474976710656/\(a.length:Int)<9223372036854775808:=oM;have w3:a.length=(a.length:Int).toNat:=(Xab _).symm;have w4:List.replicate a.length (0:Int)=List.replicate (a.length:Int).toNat 0:=by rw[<-w3]
 refine Xaa w2 ?_;refine Zaq Zaa rfl (λ(s:Nat×Int×List Int)=> [(0,ZbC a),(1, .v (.i .u32) d),(6, .ref 0 0 a.length none),(7, .v (.i .u64) s.2.1),(8, .v (.i .i64) ((s.1:Int)-1))]) (λs=> [.row (.i .u32) s.2.2 true])
  (λs=>s.1<=a.length/\0<=s.2.1/\s.2.1<d/\s.2.2.length=a.length/\Wd (s.2.2.drop s.1)/\wv (a.drop s.1)=d*wv (s.2.2.drop s.1)+s.2.1) (λs=>s.1) ?_ (a.length,0,List.replicate a.length 0) ?_ ?_
 rintro⟨k,r,out⟩ ⟨hk,C,R,hlen,I,j⟩;simp only at hk C R hlen I j;refine Xaa (λh=> ?_) (λh=> ?_);have ao:1<=k:=by have:=dT h;simp only at this;omega
 obtain⟨m,rfl⟩: ∃m,k=m+1:=⟨k-1,oM⟩;have hm:m<a.length:=oM;have ix:(((m+1:Nat):Int)-1).toNat=m:=oM;have ab:(0:Int)<=((m+1:Nat):Int)-1:=oM;have hg:a[(((m+1:Nat):Int)-1).toNat]? =some a[m]:=by rw[ix];exact Xac hm
 refine⟨dC,a[m],ab,hg, ?_⟩;refine Xaa ?_ ?_;show u64.wrap d≠0;rw[Zav oM oM];omega;refine Xaa ⟨ab,by show(((m+1:Nat):Int)-1)<(a.length:Int);omega⟩ ?_;refine Exists.intro (out[m]) (Xaa (by show out[0+(((m+1:Nat):Int)-1).toNat]? =_;rw[ix,Xag];exact Xac oM) ?_);refine Xaa ?_ ?_;show u64.wrap d≠0;rw[Zav oM oM];omega;have ad:=ha _ (XaI hm);have ae:=Zkg C (show r<4294967296 by omega) ad.1 ad.2;have af:u64.wrap d=d:=Zav oM oM;have U:0<=r*4294967296+a[m]:=oM;have ai:r*4294967296+a[m]<4294967296*d:=oM;have aa:0<=(r*4294967296+a[m])/d:=Int.ediv_nonneg U oM;have ag:(r*4294967296+a[m])/d<4294967296:=Int.ediv_lt_of_lt_mul J ai;have em:(r*4294967296+a[m]) % d=(u64.wrap ((BitVec.ofInt u64.bits (u64.wrap (r*2^min (Int.toNat 32) u64.bits))|||BitVec.ofInt u64.bits (u64.wrap a[m])).toNat:Int)).tmod (u64.wrap d):=by rw[ae,af,Int.tmod_eq_emod_of_nonneg U]
 have aj:(r*4294967296+a[m])/d=u32.wrap (u64.wrap ((u64.wrap ((BitVec.ofInt u64.bits (u64.wrap (r*2^min (Int.toNat 32) u64.bits))|||BitVec.ofInt u64.bits (u64.wrap a[m])).toNat:Int)).tdiv (u64.wrap d))):=by rw[ae,af,Int.tdiv_eq_ediv_of_nonneg U,Zav aa oM,Zbm,Int.emod_eq_of_lt aa ag]
 have er:out.set m ((r*4294967296+a[m])/d)=out.set (0+(((m+1:Nat):Int)-1).toNat) (u32.wrap (u64.wrap ((u64.wrap ((BitVec.ofInt u64.bits (u64.wrap (r*2^min (Int.toNat 32) u64.bits))|||BitVec.ofInt u64.bits (u64.wrap a[m])).toNat:Int)).tdiv (u64.wrap d)))):=by rw[<-aj,ix,Xag]
 have wi:(m:Int)-1=i64.wrap (((m+1:Nat):Int)-1-1):=by rw[Zap oM oM];omega
 have ah: ∀x:Int,(out.set m x).drop m=x::out.drop (m+1):=λx=>by rw[XaM (by rw[Xap];omega),XbT,XbA oM]
 have ak:a.drop m=a[m]::a.drop (m+1):=XaM hm;refine⟨(m,(r*4294967296+a[m]) % d,out.set m ((r*4294967296+a[m])/d)),⟨?_, ?_, ?_, ?_, ?_, ?_⟩, ?_, ?_⟩;show m<=a.length;omega;show 0<=(r*4294967296+a[m]) % d;exact Int.emod_nonneg _ oM;show(r*4294967296+a[m]) % d<d;exact Int.emod_lt_of_pos _ J;show(out.set _ _).length=_;simpa using hlen;show Wd ((out.set m _).drop m);rw[ah];intro x hx;rcases XaF.1 hx with rfl|hx;exact⟨aa,ag⟩;exact I x hx;show wv (a.drop m)=d*wv ((out.set m _).drop m)+(r*4294967296+a[m]) % d;rw[ah,ak,wv,wv,j];have e:=XbU (r*4294967296+a[m]) d;generalize wv (out.drop (m+1))=v;have e2:d*(4294967296*v)=4294967296*(d*v):=by rw[<-Int.mul_assoc,Int.mul_comm d,Int.mul_assoc]
 rw[Int.mul_add d,e2];generalize d*v=t;generalize d*((r*4294967296+a[m])/d)=z at e|-;omega;show m<m+1;omega;exact eO;have al:k=0:=by have:=dF h;simp only at this;omega
 subst al;refine Xaa (by show 0+a.length<=out.length;omega) ?_;rw[XaP]at I;rw[XaP,XaP]at j;have hs:sub out 0 a.length=out:=by rw[sub,XaP,Xax oM]
 have e1:wv a % d=r:=by rw[j,Int.add_comm,Int.add_mul_emod_self_left,Int.emod_eq_of_lt C R]
 have e2:wv a/d=wv out:=by rw[j,Int.add_comm,Int.add_mul_ediv_left _ _ oM,Int.ediv_eq_zero_of_lt C R,Int.zero_add]
 have e3:u32.wrap r=r:=by rw[Zbm,Int.emod_eq_of_lt C oM]
 have e4:SV.tup [ZbC (sub out 0 a.length), .v (.i .u32) (u32.wrap r)]=SV.tup [ZbC out, .v (.i .u32) (wv a % d)]:=by rw[hs,e1,e3]
 exact⟨out,e4,I,hlen,e2.symm⟩;exact⟨Xae _,Xby _,J,by show(List.replicate _ _).length=_;simp,by intro x hx;simp at hx,by simp[wv]⟩;exact eO
def Zwg (a:List Int) (d:Int) (I:Wd a) (j:0<d) (C:d<4294967296) (hl:a.length<=1000000000):PureOK prog Zai 122 [ZbC a, .v (.i .u32) d] (λV=> ∃q,V= .tup [ZbC q, .v (.i .u32) (wv a % d)]/\Wd q/\q.length=a.length/\wv q=wv a/d):=ZmB prims rfl a d I j C hl
def ZEA (p:FuncId->Option (List PV->Option PV)) (hp:p 101=none) (m:Bool) (a:List Int) (ha:Wd a) (hl:a.length<=1000000000):PureOK prog (ZqJ p) 101 [.v .b m,ZbC a] (λV=> ∃s,V= .agg [.v .b (m&&decide (0<(s.length:Int))),ZbC s]/\Wd s/\Nz s/\s.length<=a.length/\wv s=wv a):=by
 refine Zlx (code:=bodyOf Tryz.f101) Zaa kR hp func101 kR (Xam kR) ?_;refine Zaq Zaa rfl (λk=> [(0, .v .b m),(1,ZbC (a.take k)),(4, .ptr 0 0 0)]) (λ_=> [.cell [.v .b false, .nils] true])
  (λk=>k<=a.length/\wv (a.take k)=wv a) (λk=>k) ?_ a.length ?_ ?_
 rintro k ⟨hk,C⟩;refine Xaa (λh=> ?_) (λh=> ?_);refine axT ?_;have I:(a.take k).length=k:=by rw[Xaz];omega
 have ad:1<=k:=by have:=dT h;rw[I]at this;omega
 obtain⟨j,rfl⟩: ∃j,k=j+1:=⟨k-1,oM⟩;have ej:i64.wrap (((a.take (j+1)).length:Int)-1)=(j:Int):=by rw[I,Zap oM oM];omega
 have R:0<=i64.wrap (((a.take (j+1)).length:Int)-1):=by rw[ej];omega
 have hg:(a.take (j+1))[(i64.wrap (((a.take (j+1)).length:Int)-1)).toNat]? =some a[j]:=by rw[ej,Xab,XbS oM];exact Xac oM
 refine⟨a[j],R,hg, ?_⟩;refine axT ?_;refine Xaa (λh2=> ?_) (λh2=> ?_);refine Xaa ⟨R,by show i64.wrap (((a.take (j+1)).length:Int)-1)<=((a.take (j+1)).length:Int);rw[ej,I];omega⟩ ?_;have hz:=dT h2;have et:a.take j=List.drop 0 (List.take (i64.wrap (((a.take (j+1)).length:Int)-1)).toNat (a.take (j+1))):=by rw[ej,Xab,XaP,List.take_take,XaU oM]
 refine⟨j,⟨by show j<=a.length;omega, ?_⟩,by show j<j+1;omega, ?_⟩;show wv (a.take j)=wv a;rw[<-C,Zcu (by omega:j<a.length),hz];omega;exact eO;have U:Nz (a.take (j+1)):=by intro J;rw[List.getLast_eq_getElem];simp only[I,Nat.add_sub_cancel,List.getElem_take];exact dF h2
 have aa:Wd (a.take (j+1)):=λx hx=>ha x (XaY hx);refine Xaa (λhm=> ?_) (λhm=> ?_);refine axT ?_;subst hm;exact⟨rfl,rfl,a.take (j+1),rfl,aa,U,by rw[I];exact hk,C⟩;refine axT ?_;subst hm;exact⟨rfl,rfl,a.take (j+1),rfl,aa,U,by rw[I];exact hk,C⟩;have I:(a.take k).length=k:=by rw[Xaz];omega
 have ab:k=0:=by have:=dF h;rw[I]at this;omega
 subst ab;refine axT ?_;refine Xaa (λhm=> ?_) (λhm=> ?_);refine axT ?_;subst hm;exact⟨rfl,rfl,[],rfl,λx hx=>(by simp at hx),λJ=>absurd rfl J,Xak _,C⟩;refine axT ?_;subst hm;exact⟨rfl,rfl,[],rfl,λx hx=>(by simp at hx),λJ=>absurd rfl J,Xak _,C⟩;exact⟨Xae _,by rw[Xa1]⟩;refine Zbx rfl rfl ?_ ?_;exact⟨rfl,(Xa1).symm▸rfl,⟨rfl,rfl⟩,trivial⟩;exact⟨⟨⟨rfl,trivial,trivial⟩,λ_=>rfl⟩,trivial⟩
def ZJR (m:Bool) (a:List Int) (j:Wd a) (hl:a.length<=1000000000):PureOK prog Zai 101 [.v .b m,ZbC a] (λV=> ∃s,V= .agg [.v .b (m&&decide (0<(s.length:Int))),ZbC s]/\Wd s/\Nz s/\s.length<=a.length/\wv s=wv a):=ZEA prims rfl m a j hl
end
end Go.Proofs.YtpdhpbldangmbaaGreatDoor
namespace Dv
def wOf (n:Nat):List Int:=if h:n=0 then[]else((n % 4294967296:Nat):Int)::wOf (n/4294967296)
termination_by n
decreasing_by omega
theorem ZgD:wOf 0=[]:=by rw[wOf,dif_pos rfl]
theorem Zn2 {n:Nat} (h:n≠0):wOf n=((n % 4294967296:Nat):Int)::wOf (n/4294967296):=by rw[wOf,dif_neg h]
theorem ZhC {n:Nat}:wOf n=[]<->n=0:=by grind [Nat.eq_zero_or_pos,Zn2,ZgD]
def Zot (n:Nat):Wd (wOf n)/\Nz (wOf n)/\wv (wOf n)=n:=by induction n using Nat.strongRecOn with|_ n C=>by_cases h:n=0;subst h;rw[ZgD];exact⟨λx hx=>by simp at hx,λh=>absurd rfl h,rfl⟩;(let⟨I,J,R⟩:=C (n/4294967296) (by omega));rw[Zn2 h];refine⟨λx hx=> ?_,λU=> ?_, ?_⟩;rcases XaF.1 hx with rfl|hx;omega;exact I x hx;by_cases j:wOf (n/4294967296)=[];grind [ZhC];rw[List.getLast_cons j];exact J j;rw[wv,R];omega
def Zeh (n:Nat):Wd (wOf n):=(Zot n).1
def ZIv (n:Nat):Nz (wOf n):=(Zot n).2.1
def ZcV (n:Nat):wv (wOf n)=n:=(Zot n).2.2
def ZqY {l:List Int} (h:Wd l):0<=wv l:=(Zbu h).1
def Zvf: ∀ {l:List Int} {n:Nat},Wd l->Nz l->wv l=n->l=wOf n
 | [],n,_,_,h=>by have:n=0:=(by simp only[wv]at h;omega);rw[this,ZgD]
 |x::l,n,j,I,J=>by have U:=j x Xah;have hl:Wd l:=λy R=>j y (Xai _ R);have hp:=Zqv j I (by simp);have h0:=ZqY hl;simp only[wv]at J hp;have hn:Nz l:=λC=>(by have:=I (by simp);rwa[List.getLast_cons C]at this);rw[Zn2 (by omega),<-Zvf hl hn (by omega)];congr 1;omega
theorem Zeu {n k:Nat}:(wOf n).length<=k<->n<4294967296^k:=by induction k generalizing n with|zero=>simp_all [Nat.le_zero_eq,Xbv,ZhC,Nat.pow_zero]|succ k j=>by_cases h:n=0;grind;rw[Zn2 h,Xao,Nat.add_le_add_iff_right,j,XbY];omega
def ZbT {m n:Nat} (h:m<=n):(wOf m).length<=(wOf n).length:=by rw[Zeu];exact Nat.lt_of_le_of_lt h (Zeu.1 (Xae _))
def ZsF (m n:Nat):(wOf (m+n)).length<=max (wOf m).length (wOf n).length+1:=by rw[Zeu,XbY];grind [wOf,Zeu,Nat.le_max_left,Nat.le_max_right]
def ZsB (m n:Nat):(wOf (m*n)).length<=(wOf m).length+(wOf n).length:=by rw[Zeu,Nat.pow_add];exact Nat.mul_lt_mul'' (Zeu.1 (Xae _)) (Zeu.1 (Xae _))
def ln (v:Int):Nat:=(wOf v.natAbs).length
theorem ZFB:ln 0=0:=by rw[ln];rw[show(0:Int).natAbs=0 from rfl,ZgD];rfl
def Zvd (v:Int):ln (-v)=ln v:=by rw[ln,Int.natAbs_neg];rfl
theorem ZEL (a b:Int):ln (a+b)<=max (ln a) (ln b)+1:=XaK (ZbT (Int.natAbs_add_le a b)) (ZsF _ _)
theorem Ziu (a b:Int):ln (a*b)<=ln a+ln b:=by rw[ln,XbD];exact ZsB _ _
def ZGY {v:Int} {k:Nat}:ln v<=k<->v.natAbs<4294967296^k:=Zeu
def ZlU {a b:Int} (h:a.natAbs<=b.natAbs):ln a<=ln b:=ZbT h
def ZoS {v:Int} (h:v.natAbs<18446744073709551616):ln v<=2:=ZGY.2 (by simpa using h)
end Dv
namespace Go.Proofs.YtpdhpbldangmbaaGreatDoor
open Go.Am Go.Tx Dv
abbrev IS (v:Int):SV:= .agg [.v .b (decide (v<0)),ZbC (wOf v.natAbs)]
def sg (m:Bool) (x:Int):Int:=match m with|true=> -x|false=>x
def ZfC (m:Bool) (a:List Int) (I:Wd a) (hl:a.length<=1000000000):PureOK prog Zai 101 [.v .b m,ZbC a] (λV=>V=IS (sg m (wv a))):=by
 refine(ZJR m a I hl).mono ?_;rintro _ ⟨s,rfl,R,U,_,h4⟩;have h0:=ZqY I;have J:s=wOf (wv a).toNat:=Zvf R U oM;have C:(sg m (wv a)).natAbs=(wv a).toNat:=by cases m<;>simp only[sg]<;>omega
 have hb:(m&&decide (0<(s.length:Int)))=decide (sg m (wv a)<0):=by have j:s.length=0<->wv a=0:=(by rw[Xbv,J,ZhC];omega);cases m with|true=>simp only[Bool.true_and,sg];refine decide_eq_decide.2 ?_;constructor;intro h;have:=mt j.2;omega;intro h;have:=mt j.1;omega|false=>simp only[Bool.false_and,sg];exact(decide_eq_false oM).symm
 show SV.agg [.v .b (m&&decide (0<(s.length:Int))),ZbC s]=SV.agg [.v .b (decide (sg m (wv a)<0)),ZbC (wOf (sg m (wv a)).natAbs)];rw[hb,C,<-J]
def ZCJ (v:Int) (hl:ln v<=1000000000):PureOK prog Zai 98 [IS v] (λV=>V=IS (-v)):=by
 refine Zae Zaa func98 ?_;refine Xaa rfl ?_;refine Xaa rfl ?_;refine(ZfC _ _ (Zeh _) hl).mono ?_;rintro _ rfl;refine Xaa rfl ?_;refine Xaa rfl ?_;have:sg (!decide (v<0)) (wv (wOf v.natAbs))= -v:=by rw[ZcV];by_cases h:v<0;rw[decide_eq_true h];simp only[sg,Bool.not_true];omega;rw[decide_eq_false h];simp only[sg,Bool.not_false];omega
 show IS (sg (!decide (v<0)) (wv (wOf v.natAbs)))=IS (-v);rw[this]
def ZEf (v:Int):PureOK prog Zai 116 [IS v] (λV=>V= .v (.i .i64) v.sign):=by
 refine Zae Zaa func116 ?_;refine Xaa rfl ?_;refine Xaa (λh=> ?_) (λh=> ?_);have C:=dT h;have:v=0:=by have:=ZhC.1 (Xbv.1 (show(wOf v.natAbs).length=0 by omega));omega
 subst this;rfl;have C:=dF h;have J:v≠0:=by rintro rfl;exact C (by rw[show(0:Int).natAbs=0 from rfl,ZgD];rfl)
 refine Xaa rfl ?_;refine Xaa (λj=> ?_) (λj=> ?_);have I:=dT j;show SV.v (.i .i64) (-1:Int)=SV.v (.i .i64) v.sign;rw[Int.sign_eq_neg_one_of_neg I];have I:=dF j;show SV.v (.i .i64) (1:Int)=SV.v (.i .i64) v.sign;rw[Int.sign_eq_one_of_pos oM]
def Zoo (x:Int):u64.wrap x=x % 18446744073709551616:=by unfold IntKind.wrap IntKind.signed IntKind.bits;simp
def ZIP (n:Int) (h0: -9223372036854775808<=n) (h1:n<9223372036854775808):PureOK prog Zai 82 [.v (.i .i64) n] (λV=>V=IS n):=by
 refine Zae Zaa func82 ?_;have fin: ∀ (m:Bool) (x:Int),0<=x->x<18446744073709551616->sg m x=n->PureOK prog Zai 101 [.v .b m,ZbC [u32.wrap x,u32.wrap (x.fdiv (2^min (Int.toNat 32) u64.bits))]] (λV=>V=IS n):=by intro m x C I J;have R:=Zbm x;have U:u32.wrap (x.fdiv (2^min (Int.toNat 32) u64.bits))=x/4294967296:=(by rw[ZrC,Zbm];omega);rw[R,U];refine(ZfC m _ ?_ sM).mono ?_;intro y j;simp only[XaF,Xaq,or_false]at j;rcases j with rfl|rfl<;>omega;rintro _ rfl;have:wv [x % 4294967296,x/4294967296]=x:=(by simp only[wv];omega);rw[this,J]
 refine Xaa (λh=> ?_) (λh=> ?_);have hn:=dT h;have e:u64.wrap (0-u64.wrap n)= -n:=by rw[Zoo,Zoo];omega
 refine Xaa dC ?_;refine Xaa (by show 0+2<=2;decide) ?_;refine(fin (decide (n<0)) (u64.wrap (0-u64.wrap n)) (by rw[e];omega) (by rw[e];omega) (by rw[e,h];simp only[sg];omega)).mono ?_;rintro _ rfl;exact⟨rfl,rfl,rfl⟩;have hn:=dF h;have e:u64.wrap n=n:=by rw[Zoo];omega
 refine Xaa dC ?_;refine Xaa (by show 0+2<=2;decide) ?_;refine(fin (decide (n<0)) (u64.wrap n) (by rw[e];omega) (by rw[e];omega) (by rw[e,h];simp only[sg])).mono ?_;rintro _ rfl;exact⟨rfl,rfl,rfl⟩
end Go.Proofs.YtpdhpbldangmbaaGreatDoor
namespace Dv
section
variable {P U V U' V' v1 v2 u2 top q g rest:Int}
def ZC3 (hP:0<P) (I:V=(v1*4294967296+v2)*P+V') (C:0<=V') (J:0<=v2) (hU:U=(top*4294967296+u2)*P+U') (R:U'<P) (hu:u2<4294967296) (hv:0<v1) (j:0<=q) (hq:q*V<=U):q<=top/v1:=by
 have e1:q*V=q*v1*(4294967296*P)+(q*v2*P+q*V'):=by rw[I];grind
 have p1:0<=q*v2*P:=XbJ (XbJ j J) (by omega);have p2:=XbJ j C;have p3:u2*P<=4294967295*P:=Xa4 (by omega) (by omega);have h1:q*v1*(4294967296*P)<(top+1)*(4294967296*P):=by grind
 have h3:=Int.lt_of_mul_lt_mul_right h1 (by omega);rw[Int.le_ediv_iff_mul_le hv];omega
def ZwN (C:0<P) (I:V=(v1*4294967296+v2)*P+V') (j:0<=V') (J:0<V) (hU:U=(top*4294967296+u2)*P+U') (R:U'<P) (hg:0<=g) (hr:g*v1+rest=top) (hc:rest*4294967296+u2<g*v2) (hq:q*V<=U):q<g:=by
 have h1:top*4294967296+u2+1<=g*(v1*4294967296+v2):=by grind
 have h2:=Xa4 h1 (Xbw C);have e1:g*V=g*(v1*4294967296+v2)*P+g*V':=by rw[I];grind
 have p1:=XbJ hg j;have e2:(top*4294967296+u2+1)*P=(top*4294967296+u2)*P+P:=by grind
 have h3:q*V<g*V:=by omega
 exact Int.lt_of_mul_lt_mul_right h3 (by omega)
def Zoh (I:0<P) (C:V=(v1*4294967296+v2)*P+V') (J:0<=V') (R:V'<P) (h2:0<=v2) (hv:0<v1) (hU:U=(top*4294967296+u2)*P+U') (aa:0<=U') (j:0<=g) (ab:g<4294967296) (hc:g*(v1*4294967296+v2)<=top*4294967296+u2):g*V-V<=U:=by
 have h3:=Xa4 hc (Xbw I);have e1:g*V=g*(v1*4294967296+v2)*P+g*V':=by rw[C];grind
 have p1:g*V'<=g*P:=Xbt (by omega) j;have p2:g*P<=4294967296*P:=Xa4 (by omega) (by omega);have p3:1*(4294967296*P)<=v1*(4294967296*P):=Xa4 (by omega) (by omega);have e2:V=v1*(4294967296*P)+v2*P+V':=by rw[C];grind
 have p4:0<=v2*P:=XbJ h2 (by omega);omega
def Zwc (j:g*v1+rest=top) (C:g*v2<=rest*4294967296+u2):g*(v1*4294967296+v2)<=top*4294967296+u2:=by grind
def Zli (R:g*v1+rest=top) (j:4294967296<=rest) (C:0<=g) (I:g<4294967296) (J:0<=v2) (U:v2<4294967296) (hu:0<=u2):g*(v1*4294967296+v2)<=top*4294967296+u2:=by
 have e1:g*(v1*4294967296+v2)=g*v1*4294967296+g*v2:=by grind
 have p1:g*v2<=4294967296*v2:=Xa4 (by omega) J;omega
end
end Dv
namespace Go.Proofs.YtpdhpbldangmbaaGreatDoor
open Go.Am Go.Tx Dv
def dB (a b:List Int) (n m s:Nat) (k:Int):TM:=[(0,ZbC a),(1,ZbC b),(4, .ref 2 0 (m-n+1) none),(8, .v (.i .i64) (s:Int)),(9, .ref 0 0 (m+1) none),(10, .ref 1 0 n (some (n+1))),(11, .v (.i .i64) (n:Int)),(12, .v (.i .i64) k)]
def dH (u V q:List Int):List SM:=[.row (.i .u32) u true, .row (.i .u32) V true, .row (.i .u32) q true]
def gC (a b:List Int) (n m s j:Nat) (top:Int) (t:Int×Int):TM:=[(13, .v (.i .u64) top),(14, .v (.i .u64) t.1),(15, .v (.i .u64) t.2)]++dB a b n m s (j:Int)
def nf {b:Bool} (h:b=true) (j:b=false):False:=by rw[h]at j;cases j
def ZAM (a b u V q:List Int) (n m s j:Nat) (top D U P U' V' v1 v2 u2:Int) (hn:2<=n) (hm:m<=1000000000) (hj:j+n<=m) (a6:n<=m) (hu:u.length=m+1) (hV:V.length=n+1)
 (ag:V[n-1]? =some v1) (au:V[n-2]? =some v2) (av:u[j+n-2]? =some u2) (hP:0<P) (eD:D=(v1*4294967296+v2)*P+V') (J:0<=V') (ae:V'<P) (b1:2147483648<=v1) (aw:v1<4294967296) (b2:0<=v2) (ah:v2<4294967296)
 (eU:U=(top*4294967296+u2)*P+U') (af:0<=U') (ai:U'<P) (c0:0<=u2) (c1:u2<4294967296) (ax:0<=top) (ht:top<(v1+1)*4294967296) (ay:U<D*4294967296):
 LoopOK prog Zai 0 ⟨117,0,275⟩ (ZaN Tryz.f117 15) (gC a b n m s j top (top/v1,top % v1)) (dH u V q)
 (λe tm hp=>e= .exit 2/\ ∃g rest:Int,(0<=g/\g<4294967296/\U<g*D+D/\g*D-D<=U)/\Ent 0 tm hp (gC a b n m s j top (g,rest)) (dH u V q)):=by
 have hD:0<D:=by have h1:0<(v1*4294967296+v2)*P:=Int.mul_pos oM hP;omega
 have aj:0<=U:=by have h1:0<=(top*4294967296+u2)*P:=XbJ oM oM;omega
 have hq:=XbU U D;have a7:=Int.emod_nonneg U (show D≠0 by omega);have a8:=Int.emod_lt_of_pos U hD;have ak:(U/D)*D<=U:=by rw[Int.mul_comm];omega
 have az:0<=U/D:=Int.ediv_nonneg aj oM;have up: ∀g:Int,U/D<=g->U<g*D+D:=λg hg=>by have:=Xa4 hg (show 0<=D by omega);rw[Int.mul_comm (U/D) D]at this;omega
 refine Zaq Zaa rfl (gC a b n m s j top) (λ_=>dH u V q)
  (λt=>0<=t.1/\t.1<=4294967297/\t.1*v1+t.2=top/\0<=t.2/\t.2<4294967296/\U/D<=t.1) (λt=>t.1.toNat) ?_ (top/v1,top % v1) ?_ Zaj
 ·rintro⟨g,rest⟩ ⟨R,a1,ab,al,an,ao⟩;simp only at R a1 ab al an ao;have e2:i64.wrap ((n:Int)-2)=((n-2:Nat):Int):=(by rw[Zap oM oM];omega);have e1:i64.wrap ((n:Int)-1)=((n-1:Nat):Int):=(by rw[Zap oM oM];omega);have e3:i64.wrap (i64.wrap ((j:Int)+(n:Int))-2)=((j+n-2:Nat):Int):=(by rw[Zap (x:=(j:Int)+(n:Int)) oM oM,Zap oM oM];omega);have w1:u64.wrap v1=v1:=Zav oM oM;have nxt: ∀ (aa:4294967296<=g\/(g<4294967296/\rest*4294967296+u2<g*v2)),1<=g/\U/D<=g-1/\(g-1)*v1+(rest+v1)=top:=by intro aa;have h3:U/D<g:=(by rcases aa with h|⟨_,h⟩;have:U/D<4294967296:=Int.ediv_lt_of_lt_mul hD (by rw[Int.mul_comm];exact ay);omega;exact ZwN hP eD J hD eU ai R ab h ak);refine⟨oM,oM, ?_⟩;rw[<-ab];grind
  cases I:decide (4294967296<=g)with|true=>have aq:=dT I;refine Za8 (Za8 (Zby rfl ?_));(iterate 3 refine Zl9 ?_);(iterate 20 refine ZEo I ?_);refine axT ?_;obtain⟨k1,k2,k3⟩:=nxt (.inl aq);have f1:u64.wrap (g-1)=g-1:=Zav oM oM;have f2:u64.wrap (rest+u64.wrap v1)=rest+v1:=(by rw[w1];exact Zav oM oM);refine Xaa ⟨by rw[e1];omega,by rw[e1];show((n-1:Nat):Int)<(n:Int);omega⟩ ?_;refine Exists.intro v1 (Xaa (by show V[0+(i64.wrap ((n:Int)-1)).toNat]? =some v1;rw[e1,Xag,Xab];exact ag) ?_);refine Xaa (λh3=> ?_) (λh3=> ?_);have h4:4294967296<=u64.wrap (rest+u64.wrap v1):=dT h3;rw[f2]at h4;have C:g-1<4294967296:=(by rcases Int.lt_or_le (g-1) 4294967296 with h5|h5;exact h5;have h6:=Xa4 h5 (show 0<=v1 by omega);have h7:(v1+1)*4294967296=4294967296*v1+4294967296:=(by grind);omega);refine⟨rfl,g-1,rest+v1,⟨oM,C,up _ k2,Zoh hP eD J ae b2 oM eU af oM C (Zli k3 h4 oM C b2 ah c0)⟩, ?_⟩;exact eO;have h4: ¬4294967296<=u64.wrap (rest+u64.wrap v1):=dF h3;rw[f2]at h4;refine⟨(g-1,rest+v1),⟨by show 0<=g-1;omega,by show g-1<=_;omega,k3,by show 0<=rest+v1;omega,by show rest+v1<_;omega,k2⟩,by show(g-1).toNat<g.toNat;omega, ?_⟩;exact eO|false=>have aq:=dF I;refine Za8 (Za8 (Zby rfl ?_));(iterate 3 refine Zl9 ?_);(iterate 4 refine Zf8 I ?_);refine Zk8 rfl rfl rfl I (λ_=>rfl) ⟨by rw[e2];omega,by rw[e2];show((n-2:Nat):Int)<(n:Int);omega⟩ rfl rfl ?_;refine ZEK rfl rfl rfl I (λ_=>rfl) (by show V[0+(i64.wrap ((n:Int)-2)).toNat]? =some v2;rw[e2,Xag,Xab];exact au) rfl rfl ?_;(iterate 3 refine Zf8 I ?_);refine Zk8 rfl rfl rfl I (λ_=>rfl) dC rfl rfl ?_;(iterate 5 refine Zf8 I ?_);refine Zk8 rfl rfl rfl I (λ_=>rfl) ⟨by rw[e3];omega,by rw[e3];show((j+n-2:Nat):Int)<((m+1:Nat):Int);omega⟩ rfl rfl ?_;refine ZEK rfl rfl rfl I (λ_=>rfl) (by show u[0+(i64.wrap (i64.wrap ((j:Int)+(n:Int))-2)).toNat]? =some u2;rw[e3,Xag,Xab];exact av) rfl rfl ?_;(iterate 3 refine Zf8 I ?_);refine axT ?_;have p1:=XbJ R b2;have p2:g*v2<=4294967295*4294967295:=Int.mul_le_mul oM oM b2 oM;have em:u64.wrap (g*u64.wrap v2)=g*v2:=(by rw[Zav (x:=v2) oM oM];exact Zav oM oM);have eo:=Zkg al an c0 c1;refine Xaa (λh2=> ?_) (λh2=> ?_);have ad:u64.wrap ((BitVec.ofInt u64.bits (u64.wrap (rest*2^min (Int.toNat 32) u64.bits))|||BitVec.ofInt u64.bits (u64.wrap u2)).toNat:Int)<u64.wrap (g*u64.wrap v2):=dT h2;rw[eo,em]at ad;obtain⟨k1,k2,k3⟩:=nxt (.inr ⟨oM,ad⟩);have f1:u64.wrap (g-1)=g-1:=Zav oM oM;have f2:u64.wrap (rest+u64.wrap v1)=rest+v1:=(by rw[w1];exact Zav oM oM);refine Xaa ⟨by rw[e1];omega,by rw[e1];show((n-1:Nat):Int)<(n:Int);omega⟩ ?_;refine Exists.intro v1 (Xaa (by show V[0+(i64.wrap ((n:Int)-1)).toNat]? =some v1;rw[e1,Xag,Xab];exact ag) ?_);refine Xaa (λh3=> ?_) (λh3=> ?_);have h4:4294967296<=u64.wrap (rest+u64.wrap v1):=dT h3;rw[f2]at h4;have C:g-1<4294967296:=(by rcases Int.lt_or_le (g-1) 4294967296 with h5|h5;exact h5;have h6:=Xa4 h5 (show 0<=v1 by omega);have h7:(v1+1)*4294967296=4294967296*v1+4294967296:=(by grind);omega);refine⟨rfl,g-1,rest+v1,⟨oM,C,up _ k2,Zoh hP eD J ae b2 oM eU af oM C (Zli k3 h4 oM C b2 ah c0)⟩, ?_⟩;exact eO;have h4: ¬4294967296<=u64.wrap (rest+u64.wrap v1):=dF h3;rw[f2]at h4;refine⟨(g-1,rest+v1),⟨by show 0<=g-1;omega,by show g-1<=_;omega,k3,by show 0<=rest+v1;omega,by show rest+v1<_;omega,k2⟩,by show(g-1).toNat<g.toNat;omega, ?_⟩;exact eO;have ad: ¬u64.wrap ((BitVec.ofInt u64.bits (u64.wrap (rest*2^min (Int.toNat 32) u64.bits))|||BitVec.ofInt u64.bits (u64.wrap u2)).toNat:Int)<u64.wrap (g*u64.wrap v2):=dF h2;rw[eo,em]at ad;refine⟨rfl,g,rest,⟨R,oM,up _ ao,Zoh hP eD J ae b2 oM eU af R oM (Zwc ab oM)⟩, ?_⟩;exact eO
 have ar:=XbU top v1;rw[Int.mul_comm v1]at ar;refine⟨Int.ediv_nonneg ax oM, ?_,by show top/v1*v1+top % v1=top;omega,Int.emod_nonneg _ oM,Int.lt_trans (Int.emod_lt_of_pos top (show 0<v1 by omega)) aw, ?_⟩;show top/v1<=4294967297;have:top/v1<4294967298:=Int.ediv_lt_of_lt_mul oM oM;omega;exact ZC3 hP eD J b2 eU ai c1 oM az ak
variable {bb:Bool}
theorem ZaY {α:Type} {l:List α} {n} (h:l.length=n):sub l 0 n=l:=by rw[sub,XaP,Xax oM]
abbrev nt (k:Nat):SV:= .v (.i .i64) (k:Int)
def cin {i n:Nat} (h:i<n):(0:Int)<=(i:Int)/\(i:Int)<((n:Nat):Int):=oM
def ZbA {k:Nat} (h:k<1000000):i64.wrap ((k:Int)+1)=((k+1:Nat):Int):=Zap oM oM
end Go.Proofs.YtpdhpbldangmbaaGreatDoor
namespace Go.Tx
open Go.Am
def Zfu {F:Nat} {hp:List SM} {tm r:TM} {k:Nat} {ct:CT} (j:F<=hp.length) (C:ZbJ k tm=some .nils) (I:ZJs tm r):Ent F tm hp ((k, .ref hp.length 0 0 none)::r) (hp++ [.row ct [] true]):=
 Zkq j C (λi V hi h=>by have e:Nat.beq i k=false:=Bool.eq_false_iff.2 λe=>hi (Xay e);simp only[ZbJ,e]at h;exact Zom I h) (by rw[ZbJ,Nat.beq_refl];rfl)
def ZJK (n:Nat):List SM->Bool
 | []=>true
 |m::r=>Zwz n (Zd0 m)&&ZJK n r
def ZKE (n:Nat):TM->Bool
 | []=>true
 |v::r=>Zwz n (ZdS v.2)&&ZKE n r
def ZKA:List Nat->Bool
 | []=>true
 |i::r=> !r.contains i&&ZKA r
def Zzn (f:Nat->Nat) (hp:List SM):List Nat->List SM->Prop
 | [],[]=>True
 |i::is,m::ms=>nth hp i=some (rnM f m)/\Zzn f hp is ms
 |_,_=>False
def Zy9 (f:Nat->Nat) (tm:TM):TM->Prop
 | []=>True
 |(i,V)::r=>ZbJ i tm=some (rnV f V)/\Zy9 f tm r
def Zyy: ∀ {l:List Nat},ZKA l=true->l.Nodup
 | [],_=>List.nodup_nil
 |i::r,h=>by simp only[ZKA,Xas,XbM]at h;refine List.nodup_cons.2 ⟨λhm=> ?_,Zyy h.2⟩;rw[List.contains_iff_mem.2 hm]at h;cases h.1
theorem Zzw {n:Nat}: ∀ {ms:List SM} {j:Nat} {m:SM},ZJK n ms=true->ms[j]? =some m-> ∀id∈Zd0 m,id<n
 |m::_,0,_,h,e=>by cases e;simp[ZJK,Xas]at h;exact λid hi=>Zgj h.1 hi
 |_::r,j+1,_,h,e=>by simp[ZJK,Xas]at h;exact Zzw h.2 e
 | [],_,_,_,e=>by simp at e
def Zq9 {f:Nat->Nat} {hp:List SM}: ∀ {is:List Nat} {ms:List SM},Zzn f hp is ms->is.length=ms.length/\ ∀ (j:Nat) (x:SM),ms[j]? =some x-> ∃i,is[j]? =some i/\nth hp i=some (rnM f x)
 | [],[],_=>⟨rfl,λj x h=>by simp at h⟩
 | [],_::_,h=>h.elim
 |_::_,[],h=>h.elim
 |i::is,m::ms,⟨I,J⟩=>by(let⟨g1,g2⟩:=Zq9 J);refine⟨by simp[g1],λj x C=> ?_⟩;cases j with|zero=>cases C;exact⟨i,rfl,I⟩|succ j=>exact g2 j x C
def ZAp {f:Nat->Nat} {n:Nat} {tm:TM}: ∀ {tm':TM},ZKE n tm'=true->Zy9 f tm tm'->ZrG f n tm tm'
 | [],_,_=>trivial
 |(i,V)::r,h,⟨j,C⟩=>by simp[ZKE,Xas]at h;exact⟨j,λid hi=>Zgj h.1 hi,ZAp h.2 C⟩
def ZKR (F:Nat) (is:List Nat):Bool:=(List.range F).all λj=>Nat.beq (is.getD j 0) j
def Zbz {F:Nat} {tm tm':TM} {hp:List SM} (is:List Nat) {ms:List SM} (R:(ZKA is&&ZJK ms.length ms&&ZKE ms.length tm'&&(ZKR F is&&Nat.ble F ms.length))=true) (hk:Zzn (λj=>is.getD j 0) hp is ms) (I:Zy9 (λj=>is.getD j 0) tm tm'):Ent F tm hp tm' ms:=by
 simp only[Xas]at R;let⟨⟨⟨c1,c2⟩,c3⟩,c4,c5⟩:=R
 let⟨hl,J⟩:=Zq9 hk
 have aa:=Zyy c1;have U: ∀j,j<ms.length-> ∃x i,ms[j]? =some x/\is[j]? =some i/\is.getD j 0=i/\nth hp i=some (rnM (λj=>is.getD j 0) x):=λj C=>by(let⟨i,g1,g2⟩:=J j ms[j] (Xac C));grind
 refine ZdZ (λj=>is.getD j 0) (Xam c5) (λj C=>Xay (XaH.1 c4 j (XbI.2 C))) (λj C=> ?_) (λa b ha hb ab=> ?_) (ZAp c3 I) λj x hx=> ?_;simp_all [Zvt];grind [ZoX];let⟨C,_⟩:=Xaf.1 hx
 grind [Zzw,ZaA]
end Go.Tx
