/-
 The program logic's relation: what keeps it; operations on values.
-/
import Derived.Test.YtkhpbclcfldhmaaGreatDoorTx1
set_option linter.constructorNameAsVariable false
set_option linter.unusedSimpArgs false
set_option linter.unusedVariables false
namespace Go.Tx
open Go.Am
theorem All2.len {α β:Type} {R:α→β→Prop}: ∀ {l:List α} {m:List β},All2 R l m→l.length=m.length
 | [],[],_=>rfl
 |_::_,_::_,h=>by simp only[List.length_cons,All2.len h.2]
theorem All2.get {α β:Type} {R:α→β→Prop}: ∀ {l:List α} {m:List β} {i:Nat} {x:α},All2 R l m→l[i]? =some x→ ∃y,m[i]? =some y∧R x y
 | [],[],_,_,_,h=>by simp at h
 |a::l,b::m,0,x,h,hx=>by simp at hx;subst hx;exact⟨b,rfl,h.1⟩
 |a::l,b::m,i+1,x,h,hx=>by simp at hx⊢;exact All2.get h.2 hx
theorem All2.set {α β:Type} {R:α→β→Prop} {x:α} {y:β} (hxy:R x y): ∀ {l:List α} {m:List β} (i:Nat),All2 R l m→All2 R (l.set i x) (m.set i y)
 | [],[],_,_=>trivial
 |a::l,b::m,0,h=>⟨hxy,h.2⟩
 |a::l,b::m,i+1,h=>⟨h.1,All2.set hxy i h.2⟩
theorem All2.app {α β:Type} {R:α→β→Prop}: ∀ {l l':List α} {m m':List β},All2 R l m→All2 R l' m'→All2 R (l++l') (m++m')
 | [],_,[],_,_,h=>h
 |_::_,_,_::_,_,h,h'=>⟨h.1,All2.app h.2 h'⟩
theorem All2.drop {α β:Type} {R:α→β→Prop}: ∀ {l:List α} {m:List β} (i:Nat),All2 R l m→All2 R (l.drop i) (m.drop i)
 |l,m,0,h=>by simpa using h
 | [],[],_+1,_=>trivial
 |_::_,_::_,i+1,h=>All2.drop i h.2
theorem All2.take {α β:Type} {R:α→β→Prop}: ∀ {l:List α} {m:List β} (i:Nat),All2 R l m→All2 R (l.take i) (m.take i)
 |l,m,0,h=>by simp only[List.take_zero];trivial
 | [],[],_+1,_=>trivial
 |_::_,_::_,i+1,h=>⟨h.1,All2.take i h.2⟩
theorem All2.sub {α β:Type} {R:α→β→Prop} {l:List α} {m:List β} (i n:Nat) (h:All2 R l m):All2 R (sub l i n) ((m.drop i).take n):=All2.take n (All2.drop i h)
theorem All2.rep {α β:Type} {R:α→β→Prop} {x:α} {y:β} (hxy:R x y): ∀n,All2 R (List.replicate n x) (List.replicate n y)
 |0=>trivial
 |n+1=>⟨hxy,All2.rep hxy n⟩
theorem All2.spl {α β:Type} {R:α→β→Prop} {l l':List α} {m m':List β} (i:Nat) (h:All2 R l m) (h':All2 R l' m'):All2 R (spl l i l') (splice m i m'):=by
 unfold Tx.spl splice
 rw[←h'.len]
 exact All2.app (All2.take i h) (All2.app h' (All2.drop _ h))
theorem All2.imp {α β:Type} {R Q:α→β→Prop} (hr: ∀a b,R a b→Q a b): ∀ {l:List α} {m:List β},All2 R l m→All2 Q l m
 | [],[],_=>trivial
 |_::_,_::_,h=>⟨hr _ _ h.1,All2.imp hr h.2⟩
theorem All2.mem {α β:Type} {R:α→β→Prop} {y:β}: ∀ {l:List α} {m:List β},All2 R l m→y∈m→ ∃x,x∈l∧R x y
 | [],[],_,hy=>by simp at hy
 | [],_::_,h,_=>h.elim
 |a::l,b::m,h,hy=>by
  rcases List.mem_cons.1 hy with rfl|hy
  ·exact⟨a,List.mem_cons_self,h.1⟩
  ·obtain⟨x,h1,h2⟩:=All2.mem h.2 hy
   exact⟨x,List.mem_cons_of_mem _ h1,h2⟩
theorem Za5 {α:Type}: ∀ (l:List α) (n:Nat),nth l n=l[n]?
 | [],_=>by simp[nth]
 |_::_,0=>rfl
 |_::l,n+1=>by simpa[nth]using Za5 l n
theorem RR.len: ∀ {t:CT} {x:t.D} {cs:List PV},RR t x cs→cs.length=t.w
 | .i _,_,_,h| .b,_,_,h| .s,_,_,h| .any,_,_,h=>by simp only[RR]at h;subst h;rfl
 | .l _,_,_,h=>by
  simp only[RR]at h
  rcases h with⟨rfl,_⟩|⟨es,rfl,_⟩<;>rfl
 | .p a c,x,cs,h=>by
  simp only[RR]at h
  obtain⟨u,v,rfl,h1,h2⟩:=h
  rw[List.length_append,RR.len h1,RR.len h2];rfl
def ZcE:PV→Bool
 | .bool _| .int _ _| .str _| .nils| .lst _| .nili| .ifc _ _=>true
 |_=>false
theorem RR.plain: ∀ {t:CT} {x:t.D} {cs:List PV},RR t x cs→ ∀q∈cs,ZcE q=true
 | .i _,_,_,h,q,hq| .b,_,_,h,q,hq| .s,_,_,h,q,hq=>by simp only[RR]at h;subst h;rw[List.mem_singleton.1 hq];rfl
 | .any,x,_,h,q,hq=>by simp only[RR]at h;subst h;rw[List.mem_singleton.1 hq];cases x<;>rfl
 | .l _,_,_,h,q,hq=>by
  simp only[RR]at h
  rcases h with⟨rfl,_⟩|⟨es,rfl,_⟩<;>(rw[List.mem_singleton.1 hq];rfl)
 | .p a c,x,cs,h,q,hq=>by
  simp only[RR]at h
  obtain⟨u,v,rfl,h1,h2⟩:=h
  rcases List.mem_append.1 hq with hq|hq
  ·exact RR.plain h1 q hq
  ·exact RR.plain h2 q hq
theorem Le.refl (φ:Ph):Le φ φ:=fun _ _ h=>h
theorem Le.trans {a b c:Ph} (h:Le a b) (h':Le b c):Le a c:=fun i o hi=>h' i o (h i o hi)
theorem Le.app (φ ψ:Ph):Le φ (φ++ψ):=fun i o h=>by
 have hi:=(List.getElem?_eq_some_iff.1 h).1
 rw[List.getElem?_append_left hi];exact h
theorem Le.fr {φ φ':Ph} (h:Le φ φ') {F:Nat} (hF:F≤φ.length):Fr F φ φ':=fun id hid=>by
 have:φ[id]? =some φ[id]:=List.getElem?_eq_getElem (by omega)
 rw[this];exact h _ _ this
theorem Fr.refl (F:Nat) (φ:Ph):Fr F φ φ:=fun _ _=>rfl
theorem Fr.trans {F:Nat} {a b c:Ph} (h:Fr F a b) (h':Fr F b c):Fr F a c:=fun i hi=>(h' i hi).trans (h i hi)
theorem Fr.le {φ φ':Ph} {F:Nat} (h:Fr F φ φ') (hF:φ.length≤F):Le φ φ':=fun id o ho=>by
 rw[h id (Nat.lt_of_lt_of_le (List.getElem?_eq_some_iff.1 ho).1 hF)];exact ho
mutual
theorem RV.mono {φ φ':Ph} (hl:Le φ φ'): ∀ (V:SV) (q:PV),RV φ V q→RV φ' V q
 | .v _ _,_,h| .nilp,_,h| .nils,_,h| .nilf,_,h| .nili,_,h| .nilmp,_,h| .box _ _ _,_,h=>by simpa only[RV]using h
 | .ref id i n m,q,h=>by
  simp only[RV]at h⊢
  rcases h with⟨a,h1,h2⟩|⟨h1,h2⟩
  ·exact .inl ⟨a,hl _ _ h1,h2⟩
  ·exact .inr ⟨hl _ _ h1,h2⟩
 | .ptr id i r,q,h=>by
  simp only[RV]at h⊢
  obtain⟨a,h1,h2⟩:=h
  exact⟨a,hl _ _ h1,h2⟩
 | .func f a c,q,h=>by
  simp only[RV]at h⊢
  obtain⟨a',c',h1,h2,h3⟩:=h
  exact⟨a',c',h1,RL.mono hl a a' h2,RL.mono hl c c' h3⟩
 | .agg cs,q,h=>by
  simp only[RV]at h⊢
  obtain⟨cs',h1,h2⟩:=h
  exact⟨cs',h1,RL.mono hl cs cs' h2⟩
 | .tup cs,q,h=>by
  simp only[RV]at h⊢
  obtain⟨cs',h1,h2⟩:=h
  exact⟨cs',h1,RL.mono hl cs cs' h2⟩
 | .mp id,q,h=>by
  simp only[RV]at h⊢
  obtain⟨a,h1,h2⟩:=h
  exact⟨a,hl _ _ h1,h2⟩
theorem RL.mono {φ φ':Ph} (hl:Le φ φ'): ∀ (l:List SV) (qs:List PV),RL φ l qs→RL φ' l qs
 | [],_,h=>by simpa only[RL]using h
 |v::vs,qs,h=>by
  simp only[RL]at h⊢
  obtain⟨q,r,h1,h2,h3⟩:=h
  exact⟨q,r,h1,RV.mono hl v q h2,RL.mono hl vs r h3⟩
end
theorem RL.len {φ:Ph}: ∀ {l:List SV} {qs:List PV},RL φ l qs→l.length=qs.length
 | [],_,h=>by simp only[RL]at h;subst h;rfl
 |v::vs,_,h=>by
  simp only[RL]at h
  obtain⟨q,r,rfl,_,h3⟩:=h
  simp only[List.length_cons,RL.len h3]
theorem RL.get {φ:Ph}: ∀ {l:List SV} {qs:List PV} {i:Nat} {V:SV},RL φ l qs→l[i]? =some V→ ∃q,qs[i]? =some q∧RV φ V q
 | [],_,_,_,_,hi=>by simp at hi
 |v::vs,_,i,V,h,hi=>by
  simp only[RL]at h
  obtain⟨q,r,rfl,h2,h3⟩:=h
  cases i with
  |zero=>simp at hi;subst hi;exact⟨q,rfl,h2⟩
  |succ i=>simp at hi⊢;exact RL.get h3 hi
theorem RL.app {φ:Ph}: ∀ {l m:List SV} {qs rs:List PV},RL φ l qs→RL φ m rs→RL φ (l++m) (qs++rs)
 | [],_,_,_,h,h'=>by simp only[RL]at h;subst h;exact h'
 |v::vs,_,_,_,h,h'=>by
  simp only[RL]at h
  obtain⟨q,r,rfl,h2,h3⟩:=h
  simp only[List.cons_append,RL]
  exact⟨q,_,rfl,h2,RL.app h3 h'⟩
theorem RL.drop {φ:Ph}: ∀ {l:List SV} {qs:List PV} (n:Nat),RL φ l qs→RL φ (l.drop n) (qs.drop n)
 |l,qs,0,h=>by simpa using h
 | [],_,n+1,h=>by simp only[RL]at h;subst h;simp[RL]
 |v::vs,_,n+1,h=>by
  simp only[RL]at h
  obtain⟨q,r,rfl,h2,h3⟩:=h
  simpa using RL.drop n h3
theorem RL.take {φ:Ph}: ∀ {l:List SV} {qs:List PV} (n:Nat),RL φ l qs→RL φ (l.take n) (qs.take n)
 |l,qs,0,h=>by simp[RL]
 | [],_,n+1,h=>by simp only[RL]at h;subst h;simp[RL]
 |v::vs,_,n+1,h=>by
  simp only[RL]at h
  obtain⟨q,r,rfl,h2,h3⟩:=h
  simp only[List.take_succ_cons,RL]
  exact⟨q,_,rfl,h2,RL.take n h3⟩
theorem RL.spl {φ:Ph} {l m:List SV} {qs rs:List PV} (i:Nat) (h:RL φ l qs) (h':RL φ m rs):RL φ (spl l i m) (splice qs i rs):=by
 unfold Tx.spl splice
 rw[←h'.len]
 exact RL.app (RL.take i h) (RL.app h' (RL.drop _ h))
theorem ZfQ {φ:Ph}: ∀ {t:CT} {x:t.D} {cs:List PV},RR t x cs→RL φ (ZcF t x) cs
 | .i k,x,cs,h=>by
  have h':=h;simp only[RR]at h';subst h'
  simp only[ZcF,RL,RV];exact⟨_,_,rfl,h,rfl⟩
 | .b,x,cs,h=>by
  have h':=h;simp only[RR]at h';subst h'
  simp only[ZcF,RL,RV];exact⟨_,_,rfl,h,rfl⟩
 | .s,x,cs,h=>by
  have h':=h;simp only[RR]at h';subst h'
  simp only[ZcF,RL,RV];exact⟨_,_,rfl,h,rfl⟩
 | .any,x,cs,h=>by
  have h':=h;simp only[RR]at h';subst h'
  simp only[ZcF,RL,RV];exact⟨_,_,rfl,h,rfl⟩
 | .l e,x,cs,h=>by
  have h':=h;simp only[RR]at h'
  rcases h' with⟨rfl,_⟩|⟨es,rfl,_⟩<;>(simp only[ZcF,RL,RV];exact⟨_,_,rfl,h,rfl⟩)
 | .p a c,x,cs,h=>by
  simp only[RR]at h
  obtain⟨u,v,rfl,h1,h2⟩:=h
  simp only[ZcF]
  exact RL.app (ZfQ h1) (ZfQ h2)
theorem Zgo {e e':CT} (h:ceq e e'=true) (xs:List e.D) {es:List (List PV)} (hx:All2 (RR e) xs es):All2 (RR e') (Zgz e e' h xs) es:=by
 have he:=Ziu h
 subst he
 exact hx
theorem RL1 {φ:Ph} {V:SV} {qs:List PV} (h:RL φ [V] qs): ∃q,qs=[q]∧RV φ V q:=by
 simp only[RL]at h
 obtain⟨q,r,rfl,h2,rfl⟩:=h
 exact⟨q,rfl,h2⟩
theorem ZdE {φ:Ph}: ∀ {t:CT} {cs:List SV} {x:t.D} {qs:List PV},ZbT t cs=some x→RL φ cs qs→RR t x qs
 | .p a c,cs,x,qs,h,hr=>by
  simp only[ZbT]at h
  split at h
  ·rename_i y hy
   split at h
   ·rename_i z hz
    cases h
    simp only[RR]
    exact⟨_,_,(List.take_append_drop a.w qs).symm,ZdE hy (RL.take _ hr),ZdE hz (RL.drop _ hr)⟩
   ·cases h
  ·cases h
 | .i k,cs,x,qs,h,hr=>by
  simp only[ZbT]at h
  split at h
  ·rename_i k' y
   cases hk:keq k k' with
   |false=>rw[hk]at h;cases h
   |true=>
    rw[hk]at h;cases h
    obtain⟨q,rfl,h2⟩:=RL1 hr
    rw[Zfa hk]
    simpa only[RV]using h2
  ·cases h
 | .b,cs,x,qs,h,hr=>by
  simp only[ZbT]at h
  split at h
  ·cases h
   obtain⟨q,rfl,h2⟩:=RL1 hr
   simpa only[RV]using h2
  ·cases h
 | .s,cs,x,qs,h,hr=>by
  simp only[ZbT]at h
  split at h
  ·cases h
   obtain⟨q,rfl,h2⟩:=RL1 hr
   simpa only[RV]using h2
  ·cases h
 | .any,cs,x,qs,h,hr=>by
  simp only[ZbT]at h
  split at h
  ·cases h
   obtain⟨q,rfl,h2⟩:=RL1 hr
   simpa only[RV]using h2
  ·cases h
   obtain⟨q,rfl,h2⟩:=RL1 hr
   simp only[RV]at h2
   subst h2
   rfl
  ·cases h
 | .l e,cs,x,qs,h,hr=>by
  simp only[ZbT]at h
  split at h
  ·rename_i e' y
   split at h
   ·rename_i he
    cases h
    obtain⟨q,rfl,h2⟩:=RL1 hr
    simp only[RV,RR]at h2⊢
    have he':=Ziu he
    subst he'
    exact h2
   ·cases h
  ·cases h
   obtain⟨q,rfl,h2⟩:=RL1 hr
   simp only[RV]at h2
   subst h2
   show _∨_
   exact .inl ⟨rfl,rfl⟩
  ·cases h
def KM (P:Program) (t:TypeId):TK→Prop
 | .int k=>P.underlying t=some (.int k)
 | .bool=>P.underlying t=some .bool
 | .str=>P.underlying t=some .string
 | .slice e=>P.underlying t=some (.slice e)
 | .arr n e=>P.underlying t=some (.array n e)
 | .struct fs=> ∃a,P.underlying t=some (.struct a)∧(fs.map fun x=>(x.1,x.2.1))=a.toList.map (fun f=>(f.offset,f.type))∧ ∀x∈fs,ZaV P x.2.1=some x.2.2
 | .ptr=> ∃e,P.underlying t=some (.pointer e)
 | .func=> ∃ps rs v,P.underlying t=some (.func ps rs v)
 | .smap=> ∃k e,P.underlying t=some (.map k e)∧Zji P t=some (.string,e)∧ZcG P e=some (.bool false)
 | .any=> ∃x,P.underlying t=some (.interface x)
 | .other=>True
structure TIok (P:Program) (t:TypeId) (i:TI):Prop where
 k:KM P t i.k
 sz:ZaV P t=some i.sz
 by_:Zi4 P t=some i.by_
 zero: ∃zs,Zc0 P t=some zs∧(∀φ,RL φ i.zero zs)∧zs.length=i.sz
 ct: ∀c,i.ct=some c→c.w=i.sz∧ ∀zs,Zc0 P t=some zs→RR c c.z zs
 zi: ∀k,i.k= .int k→ZcG P t=some (.int k 0)
 zs:i.k= .str→ZcG P t=some (.str ⟨#[]⟩)
def TysOK (P:Program) (T:TypeId→TI):Prop:= ∀t,(T t).k= .other∨TIok P t (T t)
theorem TysOK.get {P:Program} {T:TypeId→TI} (h:TysOK P T) {t:TypeId} {k:TK} (hk:(T t).k=k) (ho:k≠ .other):TIok P t (T t):=by
 rcases h t with h|h
 ·exact absurd (hk.symm.trans h) ho
 ·exact h
def ValOK (φ:Ph) (k:SV→Prop) (r:Option PV):Prop:= ∃q V,r=some q∧RV φ V q∧k V
def OutOK (φ:Ph) (k:SV→List SM→Prop) (r:Zle):Prop:= ∃q H' φ' V hp',r=some (q,H')∧Le φ φ'∧RH φ' hp' (fun a=>H'[a]?)∧RV φ' V q∧k V hp'
theorem ValOK.mk {φ:Ph} {k:SV→Prop} {q:PV} {V:SV} (h:RV φ V q) (hk:k V):ValOK φ k (some q):=⟨q,V,rfl,h,hk⟩
theorem OutOK.of_val {φ:Ph} {k:SV→List SM→Prop} {hp:List SM} {H:List Mem} {r:Option PV} (hh:RH φ hp (fun a=>H[a]?)) (h:ValOK φ (fun V=>k V hp) r):OutOK φ k (ZbO H r):=by
 obtain⟨q,V,rfl,h1,h2⟩:=h
 exact⟨q,H,φ,V,hp,rfl,Le.refl φ,hh,h1,h2⟩
section
variable {P : Program} {T : TypeId → TI} {φ : Ph}
theorem ZbZ {k:IntKind} {n:Int} {q:PV} (h:RV φ (.v (.i k) n) q):q= .int k n:=by
 simp only[RV,RR]at h;exact List.cons.inj h|>.1
theorem Zfw {b:Bool} {q:PV} (h:RV φ (.v .b b) q):q= .bool b:=by
 simp only[RV,RR]at h;exact List.cons.inj h|>.1
theorem Zes {s:List UInt8} {q:PV} (h:RV φ (.v .s s) q):q= .str ⟨s.toArray⟩:=by
 simp only[RV,RR]at h;exact List.cons.inj h|>.1
theorem Zhc {e:CT} {xs:List e.D} {q:PV} (h:RV φ (.v (.l e) xs) q):(q= .nils∧xs=[])∨ ∃es,q= .lst es∧All2 (RR e) xs es:=by
 simp only[RV,RR,List.cons.injEq,and_true]at h;exact h
theorem vi (k:IntKind) (n:Int):RV φ (.v (.i k) n) (.int k n):=by simp only[RV,RR]
theorem vb (b:Bool):RV φ (.v .b b) (.bool b):=by simp only[RV,RR]
theorem vs (s:List UInt8):RV φ (.v .s s) (.str ⟨s.toArray⟩):=by simp only[RV,RR]
theorem vs' (s:ByteArray):RV φ (.v .s s.data.toList) (.str s):=by simp only[RV,RR]
theorem ZvB {op:BinOp} {k1 k2:IntKind} {a b:Int} {k:SV→Prop} (h:Zy6 op k1 a k2 b k):ValOK φ k (Zh6 op k1 a k2 b):=by
 unfold Zy6 at h
 split at h
 ·simp only[Zh6];rw[if_neg (by omega)];exact .mk (vi _ _) h.2
 ·simp only[Zh6];rw[if_neg (by omega)];exact .mk (vi _ _) h.2
 ·split at h
  ·cases h
  ·rename_i hk
   have hk:=Zfa hk
   subst hk
   cases op<;>simp only[Zh6,if_true]at h⊢ <;>first
    |exact .mk (vi _ _) h
    |exact .mk (vb _) h
    |(rw[if_neg h.1];exact .mk (vi _ _) h.2)
    |(cases h;done)
    |skip
theorem Ziv (s:List UInt8):(ByteArray.mk s.toArray).data.toList=s:=by simp
theorem Zm5 (s:List UInt8):(ByteArray.mk s.toArray).size=s.length:=by simp[ByteArray.size]
theorem Zxk (a b:List UInt8):ByteArray.mk a.toArray++ByteArray.mk b.toArray=ByteArray.mk (a++b).toArray:=by
 apply ByteArray.ext
 simp[ByteArray.data_append]
theorem Zyj (s:List UInt8) (l u:Nat):(ByteArray.mk s.toArray).extract l u=ByteArray.mk ((s.take u).drop l).toArray:=by
 apply ByteArray.ext
 rw[ByteArray.data_extract]
 apply Array.ext'
 simp[List.drop_take]
theorem ZvH {op:BinOp} {a b:List UInt8} {k:SV→Prop} (h:Zzk op a b k):ValOK φ k (Zmw op ⟨a.toArray⟩ ⟨b.toArray⟩):=by
 unfold Zzk at h
 cases op<;>simp only[Zmw,Ziv,Zm5]at h⊢ <;>first
  |(rw[if_pos h.1,Zxk];exact .mk (vs _) h.2)
  |exact .mk (vb _) h
  |(cases h;done)
theorem ZfJ {op:BinOp} {r:Bool} {k:SV→Prop} (h:eqB op r k):ValOK φ k (ZmV op r):=by
 unfold eqB at h
 cases op<;>simp only[ZmV]at h⊢ <;>first
  |exact .mk (vb _) h
  |(cases h;done)
end
end Go.Tx
