/- The program logic's relation: what keeps it; operations on values. -/
import Derived.Test.YtplkkbcnilnfaaaGreatDoorTx1
set_option linter.all false
namespace Go.Tx
open Go.Am
def All2.len {α β:Type} {R:α->β->Prop}: ∀ {l:List α} {m:List β},All2 R l m->l.length=m.length
 | [],[],_=>rfl
 |_::_,_::_,h=>by simp only[Xaq,All2.len h.2]
def All2.get {α β:Type} {R:α->β->Prop}: ∀ {l:List α} {m:List β} {i:Nat} {x:α},All2 R l m->l[i]? =some x-> ∃y,m[i]? =some y/\R x y
 | [],[],_,_,_,h=>by simp at h
 |a::l,b::m,0,x,h,j=>by simp at j;subst j;exact⟨b,rfl,h.1⟩
 |a::l,b::m,i+1,x,h,j=>by simp at j|-;exact All2.get h.2 j
def All2.set {α β:Type} {R:α->β->Prop} {x:α} {y:β} (j:R x y): ∀ {l:List α} {m:List β} (i:Nat),All2 R l m->All2 R (l.set i x) (m.set i y)
 | [],[],_,_=>trivial
 |a::l,b::m,0,h=>⟨j,h.2⟩
 |a::l,b::m,i+1,h=>⟨h.1,All2.set j i h.2⟩
def All2.app {α β:Type} {R:α->β->Prop}: ∀ {l j:List α} {m C:List β},All2 R l m->All2 R j C->All2 R (l++j) (m++C)
 | [],_,[],_,_,h=>h
 |_::_,_,_::_,_,h,I=>⟨h.1,All2.app h.2 I⟩
def All2.drop {α β:Type} {R:α->β->Prop}: ∀ {l:List α} {m:List β} (i:Nat),All2 R l m->All2 R (l.drop i) (m.drop i)
 |l,m,0,h=>by simpa using h
 | [],[],_+1,_=>trivial
 |_::_,_::_,i+1,h=>All2.drop i h.2
def All2.take {α β:Type} {R:α->β->Prop}: ∀ {l:List α} {m:List β} (i:Nat),All2 R l m->All2 R (l.take i) (m.take i)
 |l,m,0,h=>by simp only[XbK];trivial
 | [],[],_+1,_=>trivial
 |_::_,_::_,i+1,h=>⟨h.1,All2.take i h.2⟩
def All2.sub {α β:Type} {R:α->β->Prop} {l:List α} {m:List β} (i n:Nat) (h:All2 R l m):All2 R (sub l i n) ((m.drop i).take n):=All2.take n (All2.drop i h)
def All2.rep {α β:Type} {R:α->β->Prop} {x:α} {y:β} (j:R x y): ∀n,All2 R (List.replicate n x) (List.replicate n y)
 |0=>trivial
 |n+1=>⟨j,All2.rep j n⟩
def All2.spl {α β:Type} {R:α->β->Prop} {l j:List α} {m C:List β} (i:Nat) (h:All2 R l m) (I:All2 R j C):All2 R (spl l i j) (splice m i C):=by unfold Tx.spl splice;rw[<-I.len];exact All2.app (All2.take i h) (All2.app I (All2.drop _ h))
def All2.imp {α β:Type} {R Q:α->β->Prop} (j: ∀a b,R a b->Q a b): ∀ {l:List α} {m:List β},All2 R l m->All2 Q l m
 | [],[],_=>trivial
 |_::_,_::_,h=>⟨j _ _ h.1,All2.imp j h.2⟩
def All2.mem {α β:Type} {R:α->β->Prop} {y:β}: ∀ {l:List α} {m:List β},All2 R l m->y∈m-> ∃x,x∈l/\R x y
 | [],[],_,hy=>by simp at hy
 | [],_::_,h,_=>h.elim
 |a::l,b::m,h,hy=>by rcases Xau.1 hy with rfl|hy;exact⟨a,Xai,h.1⟩;obtain⟨x,j,C⟩:=All2.mem h.2 hy;exact⟨x,Xaj _ j,C⟩
def ZaK {α:Type}: ∀ (l:List α) (n:Nat),nth l n=l[n]?
 | [],_=>by simp[nth]
 |_::_,0=>rfl
 |_::l,n+1=>by simpa[nth]using ZaK l n
def RR.len: ∀ {t:CT} {x:t.D} {cs:List PV},RR t x cs->cs.length=t.w
 | .i _,_,_,h| .b,_,_,h| .s,_,_,h| .any,_,_,h=>by simp only[RR]at h;subst h;rfl
 | .l _,_,_,h=>by simp only[RR]at h;rcases h with⟨rfl,_⟩|⟨es,rfl,_⟩<;>rfl
 | .p a c,x,cs,h=>by simp only[RR]at h;obtain⟨u,v,rfl,j,C⟩:=h;rw[Xas,RR.len j,RR.len C];rfl
def ZcF:PV->Bool
 | .bool _| .int _ _| .str _| .nils| .lst _| .nili| .ifc _ _=>true
 |_=>false
def RR.plain: ∀ {t:CT} {x:t.D} {cs:List PV},RR t x cs-> ∀q∈cs,ZcF q=true
 | .i _,_,_,h,q,hq| .b,_,_,h,q,hq| .s,_,_,h,q,hq=>by simp only[RR]at h;subst h;rw[Xat.1 hq];rfl
 | .any,x,_,h,q,hq=>by simp only[RR]at h;subst h;rw[Xat.1 hq];cases x<;>rfl
 | .l _,_,_,h,q,hq=>by simp only[RR]at h;rcases h with⟨rfl,_⟩|⟨es,rfl,_⟩<;>(rw[Xat.1 hq];rfl)
 | .p a c,x,cs,h,q,hq=>by simp only[RR]at h;obtain⟨u,v,rfl,j,C⟩:=h;rcases XaJ.1 hq with hq|hq;exact RR.plain j q hq;exact RR.plain C q hq
def Le.refl (φ:Ph):Le φ φ:=λ_ _ h=>h
def Le.trans {a b c:Ph} (h:Le a b) (j:Le b c):Le a c:=λi o hi=>j i o (h i o hi)
def Le.app (φ j:Ph):Le φ (φ++j):=λi o h=>by have hi:=(Xae.1 h).1;rw[Xam hi];exact h
def Le.fr {φ φ':Ph} (h:Le φ φ') {F:Nat} (j:F<=φ.length):Fr F φ φ':=λid hid=>by have:φ[id]? =some φ[id]:=Xad (by omega);rw[this];exact h _ _ this
def Fr.refl (F:Nat) (φ:Ph):Fr F φ φ:=λ_ _=>rfl
def Fr.trans {F:Nat} {a b c:Ph} (h:Fr F a b) (j:Fr F b c):Fr F a c:=λi hi=>(j i hi).trans (h i hi)
def Fr.le {φ φ':Ph} {F:Nat} (h:Fr F φ φ') (C:φ.length<=F):Le φ φ':=λid o j=>by rw[h id (Xa6 (Xae.1 j).1 C)];exact j
mutual
theorem RV.mono {φ φ':Ph} (J:Le φ φ'): ∀ (V:SV) (q:PV),RV φ V q->RV φ' V q
 | .v _ _,_,h| .nilp,_,h| .nils,_,h| .nilf,_,h| .nili,_,h| .nilmp,_,h| .box _ _ _,_,h| .cl _ _,_,h=>by simpa only[RV]using h
 | .ref id i n m,q,h=>by simp only[RV]at h|-;rcases h with⟨a,j,C⟩|⟨j,C⟩;exact .inl ⟨a,J _ _ j,C⟩;exact .inr ⟨J _ _ j,C⟩
 | .ptr id i r,q,h=>by simp only[RV]at h|-;obtain⟨a,j,C⟩:=h;exact⟨a,J _ _ j,C⟩
 | .func f a c,q,h=>by simp only[RV]at h|-;obtain⟨R,U,j,C,h3⟩:=h;exact⟨R,U,j,RL.mono J a R C,RL.mono J c U h3⟩
 | .agg cs,q,h=>by simp only[RV]at h|-;obtain⟨I,j,C⟩:=h;exact⟨I,j,RL.mono J cs I C⟩
 | .tup cs,q,h=>by simp only[RV]at h|-;obtain⟨I,j,C⟩:=h;exact⟨I,j,RL.mono J cs I C⟩
 | .mp id,q,h=>by simp only[RV]at h|-;obtain⟨a,j,C⟩:=h;exact⟨a,J _ _ j,C⟩
theorem RL.mono {φ φ':Ph} (j:Le φ φ'): ∀ (l:List SV) (qs:List PV),RL φ l qs->RL φ' l qs
 | [],_,h=>by simpa only[RL]using h
 |v::vs,qs,h=>by simp only[RL]at h|-;obtain⟨q,r,C,I,J⟩:=h;exact⟨q,r,C,RV.mono j v q I,RL.mono j vs r J⟩
end
def RL.len {φ:Ph}: ∀ {l:List SV} {qs:List PV},RL φ l qs->l.length=qs.length
 | [],_,h=>by simp only[RL]at h;subst h;rfl
 |v::vs,_,h=>by simp only[RL]at h;obtain⟨q,r,rfl,_,j⟩:=h;simp only[Xaq,RL.len j]
def RL.get {φ:Ph}: ∀ {l:List SV} {qs:List PV} {i:Nat} {V:SV},RL φ l qs->l[i]? =some V-> ∃q,qs[i]? =some q/\RV φ V q
 | [],_,_,_,_,hi=>by simp at hi
 |v::vs,_,i,V,h,hi=>by simp only[RL]at h;obtain⟨q,r,rfl,j,C⟩:=h;cases i with|zero=>simp at hi;subst hi;exact⟨q,rfl,j⟩|succ i=>simp at hi|-;exact RL.get C hi
def RL.app {φ:Ph}: ∀ {l m:List SV} {qs rs:List PV},RL φ l qs->RL φ m rs->RL φ (l++m) (qs++rs)
 | [],_,_,_,h,j=>by simp only[RL]at h;subst h;exact j
 |v::vs,_,_,_,h,j=>by simp only[RL]at h;obtain⟨q,r,rfl,C,I⟩:=h;simp only[Xbs,RL];exact⟨q,_,rfl,C,RL.app I j⟩
def RL.drop {φ:Ph}: ∀ {l:List SV} {qs:List PV} (n:Nat),RL φ l qs->RL φ (l.drop n) (qs.drop n)
 |l,qs,0,h=>by simpa using h
 | [],_,n+1,h=>by simp only[RL]at h;subst h;simp[RL]
 |v::vs,_,n+1,h=>by simp only[RL]at h;obtain⟨q,r,rfl,C,j⟩:=h;simpa using RL.drop n j
def RL.take {φ:Ph}: ∀ {l:List SV} {qs:List PV} (n:Nat),RL φ l qs->RL φ (l.take n) (qs.take n)
 |l,qs,0,h=>by simp[RL]
 | [],_,n+1,h=>by simp only[RL]at h;subst h;simp[RL]
 |v::vs,_,n+1,h=>by simp only[RL]at h;obtain⟨q,r,rfl,j,C⟩:=h;simp only[List.take_succ_cons,RL];exact⟨q,_,rfl,j,RL.take n C⟩
def RL.spl {φ:Ph} {l m:List SV} {qs rs:List PV} (i:Nat) (h:RL φ l qs) (j:RL φ m rs):RL φ (spl l i m) (splice qs i rs):=by unfold Tx.spl splice;rw[<-j.len];exact RL.app (RL.take i h) (RL.app j (RL.drop _ h))
def ZhT {φ:Ph}: ∀ {t:CT} {x:t.D} {cs:List PV},RR t x cs->RL φ (Zbf t x) cs
 | .i k,x,cs,h=>by have j:=h;simp only[RR]at j;subst j;simp only[Zbf,RL,RV];exact⟨_,_,rfl,h,rfl⟩
 | .b,x,cs,h=>by have j:=h;simp only[RR]at j;subst j;simp only[Zbf,RL,RV];exact⟨_,_,rfl,h,rfl⟩
 | .s,x,cs,h=>by have j:=h;simp only[RR]at j;subst j;simp only[Zbf,RL,RV];exact⟨_,_,rfl,h,rfl⟩
 | .any,x,cs,h=>by have j:=h;simp only[RR]at j;subst j;simp only[Zbf,RL,RV];exact⟨_,_,rfl,h,rfl⟩
 | .l e,x,cs,h=>by have j:=h;simp only[RR]at j;rcases j with⟨rfl,_⟩|⟨es,rfl,_⟩<;>(simp only[Zbf,RL,RV];exact⟨_,_,rfl,h,rfl⟩)
 | .p a c,x,cs,h=>by simp only[RR]at h;obtain⟨u,v,rfl,C,I⟩:=h;simp only[Zbf];exact RL.app (ZhT C) (ZhT I)
def ZhG {e j:CT} (h:ceq e j=true) (xs:List e.D) {es:List (List PV)} (C:All2 (RR e) xs es):All2 (RR j) (Zgv e j h xs) es:=by have he:=ZfZ h;subst he;exact C
def RL1 {φ:Ph} {V:SV} {qs:List PV} (h:RL φ [V] qs): ∃q,qs=[q]/\RV φ V q:=by simp only[RL]at h;obtain⟨q,r,rfl,j,rfl⟩:=h;exact⟨q,rfl,j⟩
def ZdP {φ:Ph}: ∀ {t:CT} {cs:List SV} {x:t.D} {qs:List PV},Zb3 t cs=some x->RL φ cs qs->RR t x qs
 | .p a c,cs,x,qs,h,C=>by simp only[Zb3]at h;split at h;rename_i y R;split at h;rename_i z U;cases h;simp only[RR];exact⟨_,_,(Xa9 a.w qs).symm,ZdP R (RL.take _ C),ZdP U (RL.drop _ C)⟩;cases h;cases h
 | .i k,cs,x,qs,h,C=>by simp only[Zb3]at h;split at h;rename_i k' y;(cases I:keq k k' with|false=>rw[I]at h;cases h|true=>rw[I]at h;cases h;obtain⟨q,rfl,j⟩:=RL1 C;rw[ZgM I];simpa only[RV]using j);cases h
 | .b,cs,x,qs,h,C=>by simp only[Zb3]at h;split at h;cases h;obtain⟨q,rfl,j⟩:=RL1 C;simpa only[RV]using j;cases h
 | .s,cs,x,qs,h,C=>by simp only[Zb3]at h;split at h;cases h;obtain⟨q,rfl,j⟩:=RL1 C;simpa only[RV]using j;cases h
 | .any,cs,x,qs,h,C=>by simp only[Zb3]at h;split at h;cases h;obtain⟨q,rfl,j⟩:=RL1 C;simpa only[RV]using j;cases h;obtain⟨q,rfl,j⟩:=RL1 C;simp only[RV]at j;subst j;rfl;cases h
 | .l e,cs,x,qs,h,C=>by simp only[Zb3]at h;split at h;rename_i e' y;split at h;rename_i he;cases h;obtain⟨q,rfl,j⟩:=RL1 C;simp only[RV,RR]at j|-;have J:=ZfZ he;subst J;exact j;cases h;cases h;obtain⟨q,rfl,j⟩:=RL1 C;simp only[RV]at j;subst j;show _\/_;exact .inl ⟨rfl,rfl⟩;cases h
def KM (P:Program) (t:TypeId):TK->Prop
 | .int k=>P.underlying t=some (.int k)
 | .bool=>P.underlying t=some .bool
 | .str=>P.underlying t=some .string
 | .slice e=>P.underlying t=some (.slice e)
 | .arr n e=>P.underlying t=some (.array n e)
 | .struct j=> ∃a,P.underlying t=some (.struct a)/\(j.map λx=>(x.1,x.2.1))=a.toList.map (λf=>(f.offset,f.type))/\ ∀x∈j,Zbe P x.2.1=some x.2.2
 | .ptr=> ∃e,P.underlying t=some (.pointer e)
 | .func=> ∃ps rs v,P.underlying t=some (.func ps rs v)
 | .smap=> ∃k e,P.underlying t=some (.map k e)/\Zim P t=some (.string,e)/\Zd8 P e=some (.bool false)
 | .imap c=> ∃k e z,P.underlying t=some (.map k e)/\Zim P t=some (.int .i64,e)/\Zd8 P e=some z/\RR c c.z [z]
 | .any=> ∃x,P.underlying t=some (.interface x)
 | .other=>True
structure TIok (P:Program) (t:TypeId) (i:TI):Prop where
 k:KM P t i.k
 sz:Zbe P t=some i.sz
 by_:Zj4 P t=some i.by_
 zero: ∃zs,ZdO P t=some zs/\(∀φ,RL φ i.zero zs)/\zs.length=i.sz
 ct: ∀c,i.ct=some c->c.w=i.sz/\ ∀zs,ZdO P t=some zs->RR c c.z zs
 zi: ∀k,i.k= .int k->Zd8 P t=some (.int k 0)
 zs:i.k= .str->Zd8 P t=some (.str ⟨#[]⟩)
def TysOK (P:Program) (T:TypeId->TI):Prop:= ∀t,(T t).k= .other\/TIok P t (T t)
def TysOK.get {P:Program} {T:TypeId->TI} (h:TysOK P T) {t:TypeId} {k:TK} (j:(T t).k=k) (C:k≠ .other):TIok P t (T t):=by rcases h t with h|h;exact absurd (j.symm.trans h) C;exact h
def ValOK (φ:Ph) (k:SV->Prop) (r:Option PV):Prop:= ∃q V,r=some q/\RV φ V q/\k V
def OutOK (φ:Ph) (k:SV->List SM->Prop) (r:Zn0):Prop:= ∃q H' φ' V hp',r=some (q,H')/\Le φ φ'/\RH φ' hp' (λa=>H'[a]?)/\RV φ' V q/\k V hp'
def ValOK.mk {φ:Ph} {k:SV->Prop} {q:PV} {V:SV} (h:RV φ V q) (j:k V):ValOK φ k (some q):=⟨q,V,rfl,h,j⟩
def OutOK.of_val {φ:Ph} {k:SV->List SM->Prop} {hp:List SM} {H:List Mem} {r:Option PV} (j:RH φ hp (λa=>H[a]?)) (h:ValOK φ (λV=>k V hp) r):OutOK φ k (Zcm H r):=by obtain⟨q,V,rfl,C,I⟩:=h;exact⟨q,H,φ,V,hp,rfl,Le.refl φ,j,C,I⟩
section
variable {P:Program} {T:TypeId->TI} {φ:Ph}
def Zb7 {k:IntKind} {n:Int} {q:PV} (h:RV φ (.v (.i k) n) q):q= .int k n:=by simp only[RV,RR]at h;exact List.cons.inj h|>.1
def ZfG {b:Bool} {q:PV} (h:RV φ (.v .b b) q):q= .bool b:=by simp only[RV,RR]at h;exact List.cons.inj h|>.1
def Zfs {s:List UInt8} {q:PV} (h:RV φ (.v .s s) q):q= .str ⟨s.toArray⟩:=by simp only[RV,RR]at h;exact List.cons.inj h|>.1
def ZhW {e:CT} {xs:List e.D} {q:PV} (h:RV φ (.v (.l e) xs) q):(q= .nils/\xs=[])\/ ∃es,q= .lst es/\All2 (RR e) xs es:=by simp only[RV,RR,Xb3,and_true]at h;exact h
def vi (k:IntKind) (n:Int):RV φ (.v (.i k) n) (.int k n):=by simp only[RV,RR]
def vb (b:Bool):RV φ (.v .b b) (.bool b):=by simp only[RV,RR]
def vs (s:List UInt8):RV φ (.v .s s) (.str ⟨s.toArray⟩):=by simp only[RV,RR]
def vs' (s:ByteArray):RV φ (.v .s s.data.toList) (.str s):=by simp only[RV,RR]
def ZD9 {op:BinOp} {C I:IntKind} {a b:Int} {k:SV->Prop} (h:ZIo op C a I b k):ValOK φ k (Zkh op C a I b):=by
 unfold ZIo at h;split at h;simp only[Zkh];rw[if_neg (by omega)];exact .mk (vi _ _) h.2;simp only[Zkh];rw[if_neg (by omega)];exact .mk (vi _ _) h.2
 ·split at h;cases h
  ·rename_i j;have j:=ZgM j;subst j;cases op<;>simp only[Zkh,if_true]at h|- <;>first
    |exact .mk (vi _ _) h
    |exact .mk (vb _) h
    |(rw[if_neg h.1];exact .mk (vi _ _) h.2)
    |(cases h;done)
    |skip
def Zkx (s:List UInt8):(ByteArray.mk s.toArray).data.toList=s:=by simp
def ZqU (s:List UInt8):(ByteArray.mk s.toArray).size=s.length:=by simp[ByteArray.size]
def ZF6 (a b:List UInt8):ByteArray.mk a.toArray++ByteArray.mk b.toArray=ByteArray.mk (a++b).toArray:=by apply ByteArray.ext;simp[ByteArray.data_append]
def ZHg (s:List UInt8) (l u:Nat):(ByteArray.mk s.toArray).extract l u=ByteArray.mk ((s.take u).drop l).toArray:=by apply ByteArray.ext;rw[ByteArray.data_extract];apply Array.ext';simp[List.drop_take]
def ZCO {op:BinOp} {a b:List UInt8} {k:SV->Prop} (h:ZIl op a b k):ValOK φ k (ZpA op ⟨a.toArray⟩ ⟨b.toArray⟩):=by
 unfold ZIl at h;cases op<;>simp only[ZpA,Zkx,ZqU]at h|- <;>first
  |(rw[if_pos h.1,ZF6];exact .mk (vs _) h.2)
  |exact .mk (vb _) h
  |(cases h;done)
def ZgL {op:BinOp} {r:Bool} {k:SV->Prop} (h:eqB op r k):ValOK φ k (Zp3 op r):=by
 unfold eqB at h;cases op<;>simp only[Zp3]at h|- <;>first
  |exact .mk (vb _) h
  |(cases h;done)
end
section
variable {P:Program} {T:TypeId->TI} {φ:Ph} {hp:List SM} {H:List Mem}
def RH.ph {L:Nat->Option Mem} (j:RH φ hp L) {id:Nat} {sm:SM} (h:nth hp id=some sm): ∃o,φ[id]? =some o/\RM φ L o sm:=by rw[ZaK]at h;have hi:=(Xae.1 h).1;rw[<-j.len]at hi;exact⟨φ[id],Xad hi,j.row _ _ _ h (Xad hi)⟩
def RH.ref {L:Nat->Option Mem} (hh:RH φ hp L) {id i n:Nat} {R:Option Nat} {t:CT} {l:List t.D} {m:Bool} {q:PV} (h:nth hp id=some (.row t l m)) (hq:RV φ (.ref id i n R) q):
 (∃a es C,q= .ref a i n (R.getD n)/\φ[id]? =some (some a)/\L a=some (.row es t.w C)/\All2 (RR t) l es/\(m=true->C=true))\/(q= .nils/\l=[]/\i=0/\n=0/\R.getD n=0/\φ[id]? =some none):=by obtain⟨o,I,J⟩:=hh.ph h;simp only[RV]at hq;rcases hq with⟨a,j,U⟩|⟨j,U,h3,h4,h5⟩;rw[j]at I;cases I;simp only[RM]at J;obtain⟨es,C,h3,h4,h5⟩:=J;exact .inl ⟨a,es,C,U,j,h3,h4,h5⟩;rw[j]at I;cases I;simp only[RM]at J;exact .inr ⟨U,J,h3,h4,h5,j⟩
def RH.refC {L:Nat->Option Mem} (hh:RH φ hp L) {id i n:Nat} {R:Option Nat} {cs:List SV} {m:Bool} {q:PV} (h:nth hp id=some (.cell cs m)) (U:RV φ (.ref id i n R) q):
 ∃a j C,q= .ref a i n (R.getD n)/\φ[id]? =some (some a)/\L a=some (.row [j] j.length C)/\RL φ cs j/\(m=true->C=true):=by obtain⟨o,I,hr⟩:=hh.ph h;simp only[RV]at U;simp only[RM]at hr;obtain⟨a,j,C,rfl,h3,h4,h5⟩:=hr;rcases U with⟨b,J,h2⟩|⟨J,_⟩;rw[J]at I;cases I;exact⟨a,j,C,h2,J,h3,h4,h5⟩;rw[J]at I;cases I
def RH.ptr {L:Nat->Option Mem} (U:RH φ hp L) {id i r:Nat} {t:CT} {l:List t.D} {m:Bool} {q:PV} (h:nth hp id=some (.row t l m)) (C:RV φ (.ptr id i r) q):
 ∃a es j,q= .ptr a i r/\φ[id]? =some (some a)/\L a=some (.row es t.w j)/\All2 (RR t) l es/\(m=true->j=true):=by obtain⟨o,I,J⟩:=U.ph h;simp only[RV]at C;obtain⟨a,R,h2⟩:=C;rw[R]at I;cases I;simp only[RM]at J;obtain⟨es,j,h3,h4,h5⟩:=J;exact⟨a,es,j,h2,R,h3,h4,h5⟩
def RH.ptrC {L:Nat->Option Mem} (hh:RH φ hp L) {id i r:Nat} {cs:List SV} {m:Bool} {q:PV} (h:nth hp id=some (.cell cs m)) (I:RV φ (.ptr id i r) q):
 ∃a j C,q= .ptr a i r/\φ[id]? =some (some a)/\L a=some (.row [j] j.length C)/\RL φ cs j/\(m=true->C=true):=by obtain⟨o,J,R⟩:=hh.ph h;simp only[RV]at I;obtain⟨a,U,h2⟩:=I;rw[U]at J;cases J;simp only[RM]at R;obtain⟨b,j,C,h6,h3,h4,h5⟩:=R;cases h6;exact⟨a,j,C,h2,U,h3,h4,h5⟩
def RH.refM {L:Nat->Option Mem} (hh:RH φ hp L) {id i n:Nat} {U:Option Nat} {ct:CT} {j:List SV} {m:Bool} {q:PV} (h:nth hp id=some (.many ct j m)) (hq:RV φ (.ref id i n U) q):
 (∃a es I,q= .ref a i n (U.getD n)/\φ[id]? =some (some a)/\L a=some (.row es 1 I)/\All2 (λV c=> ∃q,c=[q]/\RV φ V q) j es/\(m=true->I=true))\/(q= .nils/\j=[]/\i=0/\n=0/\U.getD n=0/\φ[id]? =some none):=by obtain⟨o,J,R⟩:=hh.ph h;simp only[RV]at hq;rcases hq with⟨a,C,h2⟩|⟨C,h2,h3,h4,h5⟩;rw[C]at J;cases J;simp only[RM]at R;obtain⟨es,I,h3,h4,h5⟩:=R;exact .inl ⟨a,es,I,h2,C,h3,h4,h5⟩;rw[C]at J;cases J;simp only[RM]at R;exact .inr ⟨h2,R,h3,h4,h5,C⟩
def RH.ptrM {L:Nat->Option Mem} (hh:RH φ hp L) {id i r:Nat} {ct:CT} {j:List SV} {m:Bool} {q:PV} (h:nth hp id=some (.many ct j m)) (I:RV φ (.ptr id i r) q):
 ∃a es C,q= .ptr a i r/\φ[id]? =some (some a)/\L a=some (.row es 1 C)/\All2 (λV c=> ∃q,c=[q]/\RV φ V q) j es/\(m=true->C=true):=by obtain⟨o,J,R⟩:=hh.ph h;simp only[RV]at I;obtain⟨a,U,h2⟩:=I;rw[U]at J;cases J;simp only[RM]at R;obtain⟨es,C,h3,h4,h5⟩:=R;exact⟨a,es,C,h2,U,h3,h4,h5⟩
def ZkF: ∀ {xs:List SV} {a as:List PV},ZpM xs=some a->RL φ xs as->as=a
 | [],a,as,h,j=>by cases h;simpa only[RL]using j
 |x::xs,a,as,h,j=>by simp only[RL]at j;obtain⟨q,r,rfl,C,J⟩:=j;simp only[ZpM]at h;split at h;(·rename_i c l I R;cases h;rw[ZkF R J];congr 1;unfold ZGl at I;split at I<;>cases I;exact Zb7 C;exact ZfG C;exact Zfs C);cases h
def ZCw (hT:TysOK P T) {op:BinOp} {t:TypeId} {x y:SV} {a b:PV} {k:SV->Prop} (h:ZIW P T op t x y k) (C:RV φ x a) (I:RV φ y b):ValOK φ k (Zhj P op t a b):=by unfold ZIW at h;split at h;split at h;rename_i R U;simp only[RV]at C I;obtain⟨cs,rfl,h1⟩:=C;obtain⟨aa,rfl,h2⟩:=I;rw[ZkF R h1,ZkF U h2];obtain⟨r,e,h⟩:=h;simp only[Zhj,e,Xaa];exact ZgL h;cases h;rw[Zb7 C,Zb7 I];exact ZD9 h;rw[Zfs C,Zfs I];exact ZCO h;rw[ZfG C,ZfG I];split at h;rename_i j;have:=(hT.get j (by simp)).k;rw[j]at this;simp only[Zhj,ZnL,show P.underlying t=_ from this,if_true];exact ZgL h;cases h;simp only[RV]at C I;subst C;subst I;split at h;rename_i j;have:=(hT.get j (by simp)).k;rw[j]at this;obtain⟨e,he⟩:=this;simp only[Zhj,Zi8,he,if_true];exact ZgL h;cases h;simp only[RV]at C I;subst I;obtain⟨_,_,rfl⟩:=C;split at h;rename_i j;have:=(hT.get j (by simp)).k;rw[j]at this;obtain⟨e,he⟩:=this;simp only[Zhj,Zi8,he,if_true];exact ZgL h;cases h;simp only[RV]at C I;subst I;obtain⟨_,rfl,_⟩:=C;split at h;rename_i j;have:=(hT.get j (by simp)).k;rw[j]at this;obtain⟨e,he⟩:=this;simp only[Zhj,Zi8,he,if_true];exact ZgL h;cases h;simp only[RV]at C I;subst C;subst I;split at h;rename_i j;have:=(hT.get j (by simp)).k;rw[j]at this;simp only[Zhj,Zc7,show P.underlying t=_ from this,if_true];exact ZgL h;cases h;simp only[RV,RR]at C I;subst I;split at h;rename_i j;have:=(hT.get j (by simp)).k;rw[j]at this;rcases C with⟨e,J⟩|⟨es,e,_⟩;cases e;simp only[Zhj,Zc7,show P.underlying t=_ from this,if_true];exact ZgL (h.1 J);cases e;simp only[Zhj,Zc7,show P.underlying t=_ from this,if_true];exact ZgL h.2;cases h;simp only[RV]at C I;subst I;split at h;rename_i j;have:=(hT.get j (by simp)).k;rw[j]at this;rcases C with⟨_,_,rfl⟩|⟨_,rfl,_,hn,_⟩;simp only[Zhj,Zc7,show P.underlying t=_ from this,if_true];exact ZgL h.2;simp only[Zhj,Zc7,show P.underlying t=_ from this,if_true];exact ZgL (h.1 hn);cases h;cases h
def ZHd {op:UnOp} {x:SV} {a:PV} {k:SV->Prop} (h:unT op x k) (j:RV φ x a):ValOK φ k (ZHi op a):=by unfold unT at h;split at h;rw[Zb7 j];exact .mk (vi _ _) h;rw[ZfG j];exact .mk (vb _) h;rw[Zb7 j];exact .mk (vi _ _) h;cases h
def KM.some {t:TypeId} {k:TK} (h:KM P t k) (j:k≠ .other): ∃u,P.underlying t=some u:=by
 cases k<;>first
  |exact⟨_,h⟩
  |(obtain⟨_,h,_⟩:=h;exact⟨_,h⟩)
  |(obtain⟨_,h⟩:=h;exact⟨_,h⟩)
  |(obtain⟨_,_,_,h⟩:=h;exact⟨_,h⟩)
  |(obtain⟨_,_,h,_⟩:=h;exact⟨_,h⟩)
  |(obtain⟨_,_,_,h,_⟩:=h;exact⟨_,h⟩)
  |exact absurd rfl j
def ZlA (a:List UInt8):All2 (RR (.i .u8)) (ZiX a) (byteCells ⟨a.toArray⟩):=by unfold byteCells ZiX;rw[Zkx];induction a with|nil=>trivial|cons x r j=>exact⟨rfl,j⟩
def ZgW: ∀ {xs:List Int} {es:List (List PV)},All2 (RR (.i .u8)) xs es->bytesOf es=some (Zvh xs)
 | [],[],_=>rfl
 |x::xs,e::es,h=>by have j:=h.1;simp only[RR]at j;subst j;simp only[bytesOf,ZgW h.2,Xal];rfl
def ZAZ (hT:TysOK P T) (hh:RH φ hp (λa=>H[a]?)) {s d:TypeId} {x:SV} {a:PV} {k:SV->Prop} (h:ZEe T s d hp x k) (U:RV φ x a):ValOK φ k (Zdp P H s d a):=by
 have known: ∀t,(T t).k≠ .other-> ∃u,P.underlying t=some u:=λt ho=>KM.some (hT.get rfl ho).k ho
 unfold ZEe at h;split at h;cases h;rename_i hd j;obtain⟨u,hu⟩:=known s (λe=>j e);have:=(hT.get hd (by simp)).k;rw[hd]at this;rw[Zb7 U];simp only[Zdp,hu,show P.underlying d=_ from this];exact .mk (vi _ _) h;rename_i j hd;obtain⟨⟨h0,C⟩,h⟩:=h;have e1:=(hT.get j (by simp)).k;have e2:=(hT.get hd (by simp)).k;rw[j]at e1;rw[hd]at e2;rw[Zb7 U,ZE5 (by rw[show P.underlying s=_ from e1];rfl) e2 _ h0 C];exact .mk (vs _) h;rename_i hd j;obtain⟨u,hu⟩:=known s (λe=>j e);have:=(hT.get hd (by simp)).k;rw[hd]at this;rw[Zfs U];simp only[Zdp,hu,show P.underlying d=_ from this];exact .mk (vs _) h;rename_i j hd;split at h;rename_i he;have C:=(hT.get j (by simp)).k;have I:=(hT.get hd (by simp)).k;have J:=(hT.get he (by simp)).k;rw[j]at C;rw[hd]at I;rw[he]at J;rw[Zfs U];simp only[Zdp,show P.underlying s=_ from C,show P.underlying d=_ from I,show P.underlying _=_ from J];refine .mk ?_ h;simp only[RV,RR];exact .inr ⟨_,rfl,ZlA _⟩;cases h;rename_i j hd;split at h;rename_i he;have C:=(hT.get j (by simp)).k;have I:=(hT.get hd (by simp)).k;have J:=(hT.get he (by simp)).k;rw[j]at C;rw[hd]at I;rw[he]at J;rcases ZhW U with⟨rfl,rfl⟩|⟨es,rfl,R⟩;simp only[Zdp,show P.underlying s=_ from C,show P.underlying d=_ from I,show P.underlying _=_ from J,elems,Xaa,bytesOf,Xal];exact .mk (vs _) h;simp only[Zdp,show P.underlying s=_ from C,show P.underlying d=_ from I,show P.underlying _=_ from J,elems,Xaa,ZgW R,Xal];exact .mk (vs _) h;cases h;rename_i j hd;split at h;rename_i he;split at h;rename_i aa;have C:=(hT.get j (by simp)).k;have I:=(hT.get hd (by simp)).k;have J:=(hT.get he (by simp)).k;rw[j]at C;rw[hd]at I;rw[he]at J;rcases hh.ref aa U with⟨a',es,m',rfl,_,ha,R,_⟩|⟨rfl,rfl,rfl,rfl,_,_⟩;have hl:=R.len;simp only[Zdp,show P.underlying s=_ from C,show P.underlying d=_ from I,show P.underlying _=_ from J,elems,show H[a']? =_ from ha];rw[if_pos (by omega)];simp only[Xaa,ZgW (R.sub _ _),Xal];exact .mk (vs _) h.2;simp only[Zdp,show P.underlying s=_ from C,show P.underlying d=_ from I,show P.underlying _=_ from J,elems,Xaa,bytesOf,Xal];exact .mk (vs _) h.2;cases h;cases h;cases h
def ZrD {t:TypeId} (hT:TysOK P T) (C:(T t).k≠ .other):Zbe P t=some (T t).sz/\ZuW P t=some (match(T t).k with| .struct _| .arr _ _=>true|_=>false):=by
 have h:=hT.get rfl C;refine⟨h.sz, ?_⟩;have j:=h.k;revert j;cases j:(T t).k<;>intro hm<;>simp only[KM]at hm<;>first
  |(simp only[ZuW,hm];done)
  |(obtain⟨_,hm,_⟩:=hm;simp only[ZuW,hm];done)
  |(obtain⟨_,hm⟩:=hm;simp only[ZuW,hm];done)
  |(obtain⟨_,_,_,hm⟩:=hm;simp only[ZuW,hm];done)
  |(obtain⟨_,_,hm,_⟩:=hm;simp only[ZuW,hm];done)
  |exact absurd j C
def Zgh (hT:TysOK P T) {t:TypeId} {cs:List SV} {qs:List PV} {off:Nat} {V:SV} (h:Zhl (T t) cs off=some V) (C:RL φ cs qs): ∃q,ZdU P t qs off=some q/\RV φ V q:=by
 have I:(T t).k≠ .other:=by intro I;unfold Zhl at h;rw[I]at h;cases h
 obtain⟨h1,j⟩:=ZrD hT I;have hl:=C.len;have agg: ∀V,(bif Nat.ble (off+(T t).sz) cs.length then some (SV.agg ((cs.drop off).take (T t).sz))else none)=some V->ZuW P t=some true-> ∃q,ZdU P t qs off=some q/\RV φ V q:=by intro V h j;cases J:Nat.ble (off+(T t).sz) cs.length with|false=>rw[J]at h;cases h|true=>rw[J]at h;cases h;have:=Xao J;simp only[ZdU,j,h1,Xaa];rw[if_pos (by omega)];refine⟨_,rfl, ?_⟩;simp only[RV];exact⟨_,rfl,RL.take _ (RL.drop _ C)⟩
 unfold Zhl at h;split at h;rename_i R;rw[R]at j;exact agg V h j;rename_i R;rw[R]at j;exact agg V h j;cases h;rename_i h3 h4 h5;rw[ZaK]at h;obtain⟨q,U,aa⟩:=C.get h;refine⟨q, ?_,aa⟩;have:ZuW P t=some false:=by
   rw[j];revert h3 h4 h5;cases(T t).k<;>intros<;>first
    |rfl
    |(rename_i a _ _;exact absurd rfl (a _))
    |(rename_i a _;exact absurd rfl (a _ _))
    |(rename_i a;exact absurd rfl a)
 simp only[ZdU,this];exact U
def Ztm (hT:TysOK P T) (hh:RH φ hp (λa=>H[a]?)) {t:TypeId} {x:SV} {a:PV} {k:SV->Prop} (h:Zm0 T t hp x k) (hx:RV φ x a):ValOK φ k (Zb2 P H t a):=by unfold Zm0 at h;split at h;split at h;rename_i j;obtain⟨y,hy,h⟩:=h;obtain⟨a',es,m',rfl,_,ha,C,_⟩:=hh.ptr j hx;obtain⟨c,hc,aa⟩:=C.get hy;split at h;rename_i V I;obtain⟨q,J,R⟩:=Zgh hT I (ZhT (φ:=φ) aa);simp only[Zb2,show H[a']? =_ from ha,hc,Xaa,J];exact .mk R h;cases h;rename_i j;obtain⟨rfl,h⟩:=h;obtain⟨a',ab,m',rfl,_,ha,U,_⟩:=hh.ptrC j hx;split at h;rename_i V I;obtain⟨q,J,R⟩:=Zgh hT I U;simp only[Zb2,show H[a']? =_ from ha,XbC,Xaa,J];exact .mk R h;cases h;rename_i j;obtain⟨W,hW,h⟩:=h;obtain⟨a',es,m',rfl,_,ha,C,_⟩:=hh.ptrM j hx;obtain⟨c,hc,y,rfl,hy⟩:=C.get hW;split at h;rename_i V I;obtain⟨q,J,R⟩:=Zgh hT I (show RL φ [W] [y]by simp only[RL];exact⟨_,_,rfl,hy,rfl⟩);simp only[Zb2,show H[a']? =_ from ha,hc,Xaa,J];exact .mk R h;cases h;cases h;split at h;rename_i V I;simp only[RV]at hx;obtain⟨cs,rfl,U⟩:=hx;obtain⟨q,J,R⟩:=Zgh hT I (ZhT (φ:=φ) U);simp only[Zb2,J];exact .mk R h;cases h;cases h
def ZFp (hh:RH φ hp (λa=>H[a]?)) {t e:TypeId} {z:Nat} (hu:P.underlying t=some (.slice e)) (hz:Zbe P e=some z) {x:SV} {a:PV} {kk:IntKind} {j:Int} {k:SV->Prop} (h:ixT z hp x j k) (hx:RV φ x a):ValOK φ k (Zao P H t a (.int kk j)):=by unfold ixT at h;split at h;split at h;rename_i hw;have hw:=Xar hw;obtain⟨y,J,hy,h⟩:=h;rcases ZhW hx with⟨rfl,rfl⟩|⟨es,rfl,R⟩;simp at hy;obtain⟨c,hc,U⟩:=R.get hy;have ab:=(Xae.1 hc).1;simp only[Zao,hu,hz,Xaa];rw[if_pos ⟨J,by omega⟩,hc];simp only[Xaa];rw[if_pos (by rw[U.len];exact hw)];refine .mk ?_ h;simp only[RV];exact⟨c,rfl,U⟩;cases h;split at h;rename_i C;split at h;rename_i hw;have hw:=Xar hw;obtain⟨⟨J,h1⟩,h⟩:=h;rcases hh.ref C hx with⟨I,es,m',rfl,hp',ha,R,_⟩|⟨rfl,rfl,rfl,rfl,_,_⟩;simp only[Zao,hu,hz,Xaa];rw[if_pos ⟨J,h1⟩];simp only[show H[I]? =_ from ha];rw[if_pos hw];refine .mk ?_ h;simp only[RV];exact⟨I,hp',rfl⟩;omega;cases h;rename_i C;split at h;rename_i hw;have hw:=Xar hw;obtain⟨⟨J,h1⟩,h⟩:=h;obtain⟨I,ad,m',rfl,hp',ha,aa,_⟩:=hh.refC C hx;simp only[Zao,hu,hz,Xaa];rw[if_pos ⟨J,h1⟩];simp only[show H[I]? =_ from ha];rw[if_pos (by rw[<-aa.len];exact hw)];refine .mk ?_ h;simp only[RV];exact⟨I,hp',rfl⟩;cases h;rename_i C;split at h;rename_i hw;have hw:=Xar hw;obtain⟨⟨J,h1⟩,h⟩:=h;rcases hh.refM C hx with⟨I,es,m',rfl,hp',ha,R,_⟩|⟨rfl,rfl,rfl,rfl,_,_⟩;simp only[Zao,hu,hz,Xaa];rw[if_pos ⟨J,h1⟩];simp only[show H[I]? =_ from ha];rw[if_pos hw];refine .mk ?_ h;simp only[RV];exact⟨I,hp',rfl⟩;omega;cases h;cases h;cases h
def Zm3 (hT:TysOK P T) (hh:RH φ hp (λa=>H[a]?)) {t:TypeId} {x R:SV} {a b:PV} {k:SV->Prop} (h:Ze0 T t hp x R k) (C:RV φ x a) (hi:RV φ R b):ValOK φ k (Zao P H t a b):=by unfold Ze0 at h;split at h;rw[Zb7 hi];split at h;rename_i I;have j:=(hT.get I (by simp)).k;rw[I]at j;split at h;cases h;rename_i he;exact ZFp hh j (hT.get rfl (λe=>he e)).sz h C;rename_i I;have j:=(hT.get I (by simp)).k;rw[I]at j;split at h;cases h;rename_i he;have U:=(hT.get rfl (λe=>he e)).sz;split at h;simp only[RV]at C;obtain⟨a',h2,rfl⟩:=C;simp only[Zao,show P.underlying t=_ from j,U,Xaa];rw[if_pos h.1];refine .mk ?_ h.2;simp only[RV];exact⟨a',h2,rfl⟩;simp only[RV]at C;obtain⟨cs,rfl,J⟩:=C;simp only[Zao,show P.underlying t=_ from j,U,Xaa];rw[if_pos h.1];refine .mk ?_ h.2;simp only[RV];exact⟨cs,rfl,J⟩;cases h;cases h;cases h
def ZwI (hT:TysOK P T) {t:TypeId} {x U:SV} {a b:PV} {k:SV->Prop} (h:ZxM T t x U k) (I:RV φ x a) (hi:RV φ U b):ValOK φ k (ZiE P t a b):=by unfold ZxM at h;split at h;rw[Zb7 hi];split at h;rename_i j;have C:=(hT.get j (by simp)).k;rw[j]at C;obtain⟨c,J,hc,h⟩:=h;rw[Zfs I];simp only[ZiE,show P.underlying t=_ from C,Zkx,hc,Xal];rw[if_pos J];exact .mk (vi _ _) h;rename_i j;have C:=(hT.get j (by simp)).k;rw[j]at C;obtain⟨J,h⟩:=h;split at h;cases h;rename_i hp' he;have hz:=(hT.get rfl (λe=>he e)).sz;simp only[RV]at I;obtain⟨aa,rfl,R⟩:=I;obtain⟨q,h2,h3⟩:=Zgh hT hp' R;simp only[ZiE,show P.underlying t=_ from C,hz,Xaa];rw[if_pos J,h2];exact .mk h3 h;cases h;cases h;cases h
def ZiP (hT:TysOK P T) {s:TypeId} {j:List (Nat×TypeId×Nat)} (C:(T s).k= .struct j) {f off:Nat} {ty:TypeId} {n:Nat} (hf:nth j f=some (off,ty,n)):fieldAt P s f=some (off,ty)/\Zbe P ty=some n:=by
 have I:=(hT.get C (by simp)).k;rw[C]at I;obtain⟨a,hu,hm,J⟩:=I;rw[ZaK]at hf;have R:=J _ (XaF hf);refine⟨?_,R⟩;have:(a.toList.map λf=>(f.offset,f.type))[f]? =some (off,ty):=by rw[<-hm,XaC,hf];rfl
 simp only[XaC,Array.getElem?_toList]at this;simp only[fieldAt,hu];exact this
def ZnB (hT:TysOK P T) {s:TypeId} {x:SV} {a:PV} {f:Nat} {k:SV->Prop} (h:Zii T s x f k) (j:RV φ x a):ValOK φ k (ZcX P s a f):=by unfold Zii at h;split at h;rename_i R;split at h;rename_i hf;obtain⟨I,J⟩:=ZiP hT R hf;split at h;simp only[RV]at j;obtain⟨U,h3,rfl⟩:=j;simp only[ZcX,I,Xaa,J];refine .mk ?_ h;simp only[RV];exact⟨U,h3,rfl⟩;simp only[RV]at j;obtain⟨cs,rfl,C⟩:=j;simp only[ZcX,I,Xaa,J];refine .mk ?_ h;simp only[RV];exact⟨cs,rfl,C⟩;cases h;cases h;cases h
def Zvq (hT:TysOK P T) {s:TypeId} {x:SV} {a:PV} {f:Nat} {k:SV->Prop} (h:ZwO T s x f k) (C:RV φ x a):ValOK φ k (Zk1 P s a f):=by unfold ZwO at h;split at h;rename_i I;split at h;rename_i hf;obtain⟨J,h2⟩:=ZiP hT I hf;split at h;rename_i hp';simp only[RV]at C;obtain⟨R,rfl,j⟩:=C;obtain⟨q,U,h4⟩:=Zgh hT hp' j;simp only[Zk1,J,Xaa,U];exact .mk h4 h;cases h;cases h;cases h
def ZCI (hT:TysOK P T) {t:TypeId} {x:SV} {a:PV} {k:SV->Prop} (h:ZIe T t x k) (I:RV φ x a):ValOK φ k (ZeS P H t a):=by unfold ZIe at h;split at h;rename_i C;have j:=(hT.get C (by simp)).k;rw[C]at j;rw[Zfs I];simp only[ZeS,show P.underlying t=_ from j,ZqU];exact .mk (vi _ _) h;rename_i C;have j:=(hT.get C (by simp)).k;rw[C]at j;rcases ZhW I with⟨rfl,rfl⟩|⟨es,rfl,J⟩;simp only[ZeS,show P.underlying t=_ from j];exact .mk (vi _ _) h;simp only[ZeS,show P.underlying t=_ from j,<-J.len];exact .mk (vi _ _) h;rename_i C;have j:=(hT.get C (by simp)).k;rw[C]at j;simp only[RV]at I;subst I;simp only[ZeS,show P.underlying t=_ from j];exact .mk (vi _ _) h;rename_i C;have j:=(hT.get C (by simp)).k;rw[C]at j;simp only[RV]at I;rcases I with⟨R,_,rfl⟩|⟨_,rfl,_,rfl,_⟩;simp only[ZeS,show P.underlying t=_ from j];exact .mk (vi _ _) h;simp only[ZeS,show P.underlying t=_ from j];exact .mk (vi _ _) h;rename_i C;have j:=(hT.get C (by simp)).k;rw[C]at j;simp only[ZeS,show P.underlying t=_ from j];exact .mk (vi _ _) h;cases h
def Znc (C:Bool): ∀ {l:List SV} {x:SV} {a:PV} {qs:List PV} {k:SV->Prop},Zwq C l x k->RV φ x a->RL φ l qs->ValOK φ k (Zjq (match C with|true=>max2|false=>min2) qs a)
 | [],x,a,qs,k,h,I,j=>by simp only[RL]at j;subst j;cases C<;>exact .mk I h
 |y::l,x,a,qs,k,h,I,j=>by simp only[RL]at j;obtain⟨q,r,rfl,U,R⟩:=j;unfold Zwq mmT at h;split at h;split at h;rename_i J;have J:=ZgM J;subst J;rw[Zb7 I,Zb7 U];(cases C with|true=>simp only[Zjq,max2,if_true,Xaa];exact Znc true h (vi _ _) R|false=>simp only[Zjq,min2,if_true,Xaa];exact Znc false h (vi _ _) R);cases h;cases h
end
end Go.Tx
