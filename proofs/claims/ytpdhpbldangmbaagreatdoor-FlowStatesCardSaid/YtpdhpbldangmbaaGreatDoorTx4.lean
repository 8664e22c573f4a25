/- The program logic's operations on own memory; calls. -/
import Derived.Test.YtpdhpbldangmbaaGreatDoorTx1
set_option linter.all false
namespace Go.Tx
open Go.Am
def ZiU {q:PV} (h:Zeg q=true) (n:Nat) (H:List Mem):exp (n+1) H q=some q:=by
 cases q<;>simp[Zeg]at h<;>first
  |rfl
  |(cases h;done)
def Zjq {q:PV} (h:Zeg q=true) (n:Nat) (H:List Mem):rch n H q=[]:=by
 cases n with
 |zero=>rfl
 |succ n=>
  cases q<;>simp[Zeg]at h<;>first
   |rfl
   |(cases h;done)
def ZoU (n:Nat) (H:List Mem) (a i l m:Nat):exp (n+1) H (.ref a i l m)=(match H[a]? with|some (.row es _ _)=>if i+l<=es.length then(Za3 (Za3 (exp n H)) ((es.drop i).take l)).map .lst else none|_=>none):=rfl
def ZuO (n:Nat) (H:List Mem) (a i r:Nat):exp (n+1) H (.ptr a i r)=(match H[a]? with|some (.row es _ _)=>(es[i]?).bind λc=>(Za3 (exp n H) c).map λq=> .box q r|_=>none):=rfl
def Zy1 (n:Nat) (H:List Mem) (f:FuncId) (a c:List PV):exp (n+1) H (.func f a c)=(Za3 (exp n H) a).bind λj=>(Za3 (exp n H) c).map λC=> .func f j C:=rfl
def ZDh (n:Nat) (H:List Mem) (a:List PV):exp (n+1) H (.agg a)=(Za3 (exp n H) a).map .agg:=rfl
def ZCS (n:Nat) (H:List Mem) (a:List PV):exp (n+1) H (.tup a)=(Za3 (exp n H) a).map .tup:=rfl
def ZnF (n:Nat) (H:List Mem) (a i l m:Nat):rch (n+1) H (.ref a i l m)=(match H[a]? with|some (.row es _ _)=>a::((es.drop i).take l).flatMap λc=>c.flatMap (rch n H)|_=> []):=rfl
def Zu3 (n:Nat) (H:List Mem) (a i r:Nat):rch (n+1) H (.ptr a i r)=(match H[a]? with|some (.row es _ _)=>a::((es[i]?).getD []).flatMap (rch n H)|_=> []):=rfl
def Zyx (n:Nat) (H:List Mem) (f:FuncId) (a c:List PV):rch (n+1) H (.func f a c)=a.flatMap (rch n H)++c.flatMap (rch n H):=rfl
def ZBZ (n:Nat) (H:List Mem) (a:List PV):rch (n+1) H (.agg a)=a.flatMap (rch n H):=rfl
def ZCK (n:Nat) (H:List Mem) (a:List PV):rch (n+1) H (.tup a)=a.flatMap (rch n H):=rfl
def Zn3 {α:Type} {f:α->Option α}: ∀ {l:List α},(∀x∈l,f x=some x)->Za3 f l=some l
 | [],_=>rfl
 |x::l,h=>by rw[Zbn,h x Xah,Zn3 λy j=>h y (Xai _ j)];rfl
def RRs.plain {t:CT} {l:List t.D} {es:List (List PV)} (h:All2 (RR t) l es): ∀c∈es,∀q∈c,Zeg q=true:=by
 intro c j q C;let⟨x,_,I⟩:=h.mem j
 exact I.plain q C
def Zxz {α:Type} {l:List α} {i n:Nat} {x:α} (h:x∈(l.drop i).take n):x∈l:=XbE (XaY h)
section
variable {φ:Ph} {hp:List SM} {H:List Mem}
def Reach (φ:Ph) (hp:List SM) (ids as:List Nat):Prop:= ∀a∈as,∃id∈ids,φ[id]? =some (some a)/\ ∃sm,hp[id]? =some sm/\live sm=true
def Reach.nil (ids:List Nat):Reach φ hp ids []:=λ_ h=>by simp at h
def Reach.app {i j a b:List Nat} (h:Reach φ hp i a) (C:Reach φ hp j b):Reach φ hp (i++j) (a++b):=by
 intro x hx;rcases XaO.1 hx with hx|hx;let⟨id,I,J⟩:=h x hx
 grind;let⟨id,I,J⟩:=C x hx
 grind
def ZGB (φ:Ph) (hp:List SM) (H:List Mem) (n:Nat) (V:SV) (q:PV) (k:SV->Prop):Prop:= ∃j V',exp n H q=some j/\RV [] V' j/\k V'/\Reach φ hp (Zdz hp n V) (rch n H q)
def ZdB {n:Nat} {f:SV->(SV->Prop)->Prop} (hf: ∀V q k,f V k->RV φ V q->ZGB φ hp H n V q k): ∀ {l:List SV} {C:List PV} {k:List SV->Prop},Zdj f l k->RL φ l C-> ∃j I,Za3 (exp n H) C=some j/\RL [] I j/\k I/\Reach φ hp (l.flatMap (Zdz hp n)) (C.flatMap (rch n H))
 | [],C,k,h,J=>by simp[RL]at J;subst J;exact⟨[],[],rfl,by simp[RL],h,Reach.nil _⟩
 |v::r,C,k,h,J=>by obtain⟨q,qr,rfl,R,U⟩:=J;(let⟨q',V',e1,e2,e3,e4⟩:=hf v q _ h R);(let⟨j,I,f1,f2,f3,f4⟩:=ZdB hf e3 U);refine⟨q'::j,V'::I, ?_, ?_,f3, ?_⟩;grind [Zbn];simp only[RL];exact⟨_,_,rfl,e2,f2⟩;simp[Xbn];exact e4.app f4
def ZAe: ∀ {j:List SV} {es:List (List PV)},All2 (λV c=> ∃q,c=[q]/\RV φ V q) j es-> ∃C:List PV,es=C.map (λq=> [q])/\RL φ j C
 | [],[],_=>⟨[],rfl,by simp[RL]⟩
 |V::j,c::es,h=>by obtain⟨⟨q,rfl,I⟩,J⟩:=h;obtain⟨C,rfl,R⟩:=ZAe J;exact⟨q::C,rfl,by simp only[RL];exact⟨_,_,rfl,I,R⟩⟩
def Zlk {f}: ∀ {C j:List PV},Za3 f C=some j->Za3 (Za3 f) (C.map λq=> [q])=some (j.map λq=> [q])
 | [],j,h=>by cases h;rfl
 |q::C,j,h=>by rw[Zbn]at h;cases I:f q with|none=>rw[I]at h;cases h|some x=>cases J:Za3 f C with|none=>rw[I,J]at h;cases h|some r=>rw[I,J]at h;cases h;rw[Xbm,Zbn,Zlk J];grind [Za3,Zbn]
def Zx9 {ct}: ∀ {l:List SV} {xs:List ct.D} {C:List PV},ZCF ct l=some xs->RL [] l C->All2 (RR ct) xs (C.map λq=> [q])
 | [],xs,C,h,j=>by cases h;simp only[RL]at j;subst j;trivial
 |V::l,xs,C,h,j=>by simp only[RL]at j;obtain⟨q,r,rfl,J,R⟩:=j;simp only[ZCF]at h;split at h;rename_i x U;split at h;rename_i ys I;cases h;exact⟨ZdV (φ:=[]) U (by simp only[RL];exact⟨_,_,rfl,J,rfl⟩),Zx9 I R⟩;cases h;cases h
def ZkY (hh:RH φ hp (λa=>H[a]?)): ∀ (n:Nat) (V:SV) (q:PV) (k:SV->Prop),ZbS hp n V k->RV φ V q->ZGB φ hp H n V q k
 |0,_,_,_,h,_=>h.elim
 |1,_,_,_,h,_=>h.elim
 |n+2,V,q,k,h,C=>by have ih:=ZkY hh (n+1);have self:Zeg q=true->k V->RV [] V q->ZGB φ hp H (n+2) V q k:=λh1 h2 h3=>⟨q,V,ZiU h1 _ _,h3,h2,by rw[Zjq h1];exact Reach.nil _⟩;cases V with|v t x=>have hq:Zeg q=true:=(by simp[RV]at C;exact C.plain q sM);exact self hq h (by simpa only[RV]using C)|nilp=>have ad:=C;simp[RV]at ad;subst ad;exact⟨.nilp, .nilp,rfl,by simp[RV],h,Reach.nil _⟩|nils=>simp[RV]at C;subst C;exact self rfl h (by simp[RV])|nilf=>simp[RV]at C;subst C;exact⟨.nilf, .nilf,rfl,by simp[RV],h,Reach.nil _⟩|nili=>simp[RV]at C;subst C;exact⟨.nili, .nili,rfl,by simp[RV],h,Reach.nil _⟩|nilmp=>simp[RV]at C;subst C;exact⟨.nilm, .nilmp,rfl,by simp[RV],h,Reach.nil _⟩|mp id=>simp[ZbS]at h|box t x r=>simp[RV]at C;obtain⟨cs,rfl,aa⟩:=C;exact⟨.box cs r, .box t x r,rfl,by simp only[RV];exact⟨cs,rfl,aa⟩,h,Reach.nil _⟩|ref id i m mm=>(simp[ZbS]at h;split at h;rename_i t l b j;(let⟨hlen,hk⟩:=h);rcases hh.ref j C with⟨a,es,m',rfl,hp',I,R,_⟩|⟨rfl,rfl,rfl,rfl,_,_⟩;have hl:=R.len;have ab:=RRs.plain R;have I:=I;refine⟨.lst ((es.drop i).take m),_, ?_, ?_,hk, ?_⟩;rw[ZoU];simp only[I];rw[if_pos oM,Zn3 (λc hc=>Zn3 λq hq=>ZiU (ab c (Zxz hc) q hq) _ _)];rfl;simp only[RV,RR];exact .inr ⟨_,rfl,R.sub i m⟩;rw[ZnF];simp[I,Zdz,j];have:(((es.drop i).take m).flatMap λc=>c.flatMap (rch (n+1) H))=[]:=(by rw[List.flatMap_eq_nil_iff];intro c hc;rw[List.flatMap_eq_nil_iff];intro q hq;exact Zjq (ab c (Zxz hc) q hq) _ _);rw[this];intro x hx;rw[Xav.1 hx];rw[ZaA]at j;exact⟨id,Xav.2 rfl,hp',_,j,rfl⟩;refine⟨.nils,_,rfl, ?_,hk,Reach.nil _⟩;show RR _ _ _;exact .inl ⟨rfl,rfl⟩;rename_i ct an b j;(let⟨hlen,hk⟩:=h);rcases hh.refM j C with⟨a,es,m',rfl,hp',I,R,_⟩|⟨rfl,rfl,rfl,rfl,_,_⟩;have hl:=R.len;have I:=I;have ae:=R.sub i m;(let⟨qs,af,ai⟩:=ZAe ae);(let⟨U,l',e1,e2,e3,e4⟩:=ZdB ih hk ai);split at e3;rename_i xs aj;refine⟨.lst (U.map λq=> [q]),_, ?_, ?_,e3, ?_⟩;rw[ZoU];simp only[I];rw[if_pos oM,af,Zlk e1];rfl;simp only[RV,RR];exact .inr ⟨_,rfl,Zx9 aj e2⟩;rw[ZnF];simp[I,Zdz,j,af];have ak:((qs.map λq=> [q]).flatMap λc=>c.flatMap (rch (n+1) H))=qs.flatMap (rch (n+1) H):=(by rw[List.flatMap_map];simp);rw[ak];have J:Reach φ hp [id] [a]:=(by intro x hx;rw[Xav.1 hx];rw[ZaA]at j;exact⟨id,Xav.2 rfl,hp',_,j,rfl⟩);exact J.app e4;cases e3;simp[sub,List.drop_nil,List.take_nil,Zdj,ZCF]at hk;refine⟨.nils,_,rfl, ?_,hk,Reach.nil _⟩;show RR _ _ _;exact .inl ⟨rfl,rfl⟩;rename_i cs b j;obtain⟨⟨rfl,rfl⟩,hk⟩:=h;obtain⟨a,ag,m',rfl,hp',I,aa,_⟩:=hh.refC j C;have I:=I;(let⟨U,l',e1,e2,e3,e4⟩:=ZdB ih hk aa);(let⟨ct,x,hx,hk⟩:=e3);refine⟨.lst [U],_, ?_, ?_,hk, ?_⟩;rw[ZoU];simp only[I];rw[if_pos sM];have:Za3 (Za3 (exp (n+1) H)) [ag]=some [U]:=(by rw[Zbn,e1];rfl);simp only[XaP,List.take_succ_cons,XbV,this];rfl;simp only[RV,RR];exact .inr ⟨_,rfl,ZdV (φ:=[]) hx e2,trivial⟩;rw[ZnF];simp only[I,Zdz,j,XaP,List.take_succ_cons,XbV,Xbn,List.flatMap_nil,XaQ];have J:Reach φ hp [id] [a]:=(by intro x hx;rw[Xav.1 hx];rw[ZaA]at j;exact⟨id,Xav.2 rfl,hp',_,j,rfl⟩);exact J.app e4;cases h)|ptr id i r=>simp only[ZbS]at h;split at h;rename_i t l b j;(let⟨y,hy,hk⟩:=h);obtain⟨a,es,m',rfl,hp',I,R,_⟩:=hh.ptr j C;have I:=I;have ab:=RRs.plain R;(let⟨c,hc,al⟩:=R.get hy);have ah:=XaC hc;refine⟨.box c r,_, ?_, ?_,hk, ?_⟩;rw[ZuO];simp only[I,hc,Xad];rw[Zn3 λq hq=>ZiU (ab c ah q hq) _ _];rfl;simp only[RV];exact⟨c,rfl,al⟩;rw[Zu3];simp only[I,hc,Zdz,j,Option.getD_some];have:(c.flatMap (rch (n+1) H))=[]:=(by rw[List.flatMap_eq_nil_iff];intro q hq;exact Zjq (ab c ah q hq) _ _);rw[this];intro x hx;rw[Xav.1 hx];rw[ZaA]at j;exact⟨id,Xav.2 rfl,hp',_,j,rfl⟩;rename_i cs b j;obtain⟨rfl,hk⟩:=h;obtain⟨a,ag,m',rfl,hp',I,aa,_⟩:=hh.ptrC j C;have I:=I;(let⟨U,l',e1,e2,e3,e4⟩:=ZdB ih hk aa);(let⟨ct,x,hx,hk⟩:=e3);refine⟨.box U r,_, ?_, ?_,hk, ?_⟩;rw[ZuO];simp only[I,List.getElem?_cons_zero,Xad,e1];rfl;simp only[RV];exact⟨U,rfl,ZdV (φ:=[]) hx e2⟩;rw[Zu3];simp only[I,Zdz,j,List.getElem?_cons_zero,Option.getD_some];have J:Reach φ hp [id] [a]:=(by intro x hx;rw[Xav.1 hx];rw[ZaA]at j;exact⟨id,Xav.2 rfl,hp',_,j,rfl⟩);exact J.app e4;cases h|func f a c=>simp only[RV]at C;obtain⟨a',c',rfl,h1,h2⟩:=C;(let⟨qs,l,e1,e2,e3,e4⟩:=ZdB ih h h1);(let⟨U,l',f1,f2,f3,f4⟩:=ZdB ih e3 h2);refine⟨.func f qs U, .func f l l', ?_, ?_,f3, ?_⟩;rw[Zy1,e1,Xad,f1];rfl;simp only[RV];exact⟨_,_,rfl,e2,f2⟩;rw[Zyx];simp only[Zdz];exact e4.app f4|agg cs=>simp only[RV]at C;obtain⟨a',rfl,h1⟩:=C;(let⟨qs,l,e1,e2,e3,e4⟩:=ZdB ih h h1);refine⟨.agg qs, .agg l, ?_, ?_,e3, ?_⟩;rw[ZDh,e1];rfl;simp only[RV];exact⟨_,rfl,e2⟩;rw[ZBZ];simp only[Zdz];exact e4|tup cs=>simp only[RV]at C;obtain⟨a',rfl,h1⟩:=C;(let⟨qs,l,e1,e2,e3,e4⟩:=ZdB ih h h1);refine⟨.tup qs, .tup l, ?_, ?_,e3, ?_⟩;rw[ZCS,e1];rfl;simp only[RV];exact⟨_,rfl,e2⟩;rw[ZCK];simp only[Zdz];exact e4
def ZGJ (J:RH φ hp (λa=>H[a]?)) {l C k} (h:ZDV hp l k) (R:RL φ l C): ∃j I,Za3 (exp ZaZ H) C=some j/\RL [] I j/\k I/\Reach φ hp (ZdC hp l) (C.flatMap (rch ZaZ H)):=ZdB (ZkY J 40) h R
def RM.mono {φ φ' L L' o sm} (hl:Le φ φ') (I: ∀a,o=some a->live sm=true->L' a=L a) (h:RM φ L o sm):RM φ' L' o sm:=by cases sm with|row t l m=>(cases o with|none=>exact h|some a=>(let⟨es,J,j,C⟩:=h);exact⟨es,J,by rw[I a rfl rfl];exact j,C⟩)|cell cs m=>obtain⟨a,R,J,rfl,j,C,U⟩:=h;exact⟨a,R,J,rfl,by rw[I a rfl rfl];exact j,RL.mono hl _ _ C,U⟩|many ct aa m=>(cases o with|none=>exact h|some a=>(let⟨es,J,j,C,U⟩:=h);exact⟨es,J,by rw[I a rfl rfl];exact j,C.imp (λ_ _ ⟨q,hq,hr⟩=>⟨q,hq,RV.mono hl _ _ hr⟩),U⟩)|set ks=>obtain⟨a,es,rfl,j,C⟩:=h;exact⟨a,es,rfl,by rw[I a rfl rfl];exact j,C⟩|im t ks=>obtain⟨a,es,rfl,j,C⟩:=h;exact⟨a,es,rfl,by rw[I a rfl rfl];exact j,C⟩|dead=>trivial
def RM.ex {L a sm} (h:RM φ L (some a) sm) (hl:live sm=true): ∃m,L a=some m:=by cases sm with|row t l m=>simp only[RM]at h;grind|cell cs m=>simp only[RM]at h;grind|many ct j m=>simp only[RM]at h;grind|set ks=>simp only[RM]at h;grind|im t ks=>simp only[RM]at h;grind|dead=>cases hl
def RH.lt (C:RH φ hp (λa=>H[a]?)) {id a:Nat} {sm} (h:hp[id]? =some sm) (hl:live sm=true) (j:φ[id]? =some (some a)):a<H.length:=by
 let⟨m,hm⟩:=(C.row _ _ _ h j).ex hl
 grind
def RH.push (hh:RH φ hp (λa=>H[a]?)) {sm m} (h:RM (φ++ [some H.length]) (λa=>(H++ [m])[a]?) (some H.length) sm):RH (φ++ [some H.length]) (hp++ [sm]) (λa=>(H++ [m])[a]?):=by
 have hlen:=hh.len;have old: ∀ {id:Nat} {x:SM},(hp++ [sm])[id]? =some x->(id<hp.length/\hp[id]? =some x)\/(id=hp.length/\x=sm):=by grind
 have j: ∀ {id:Nat},id<hp.length->(φ++ [some H.length])[id]? =φ[id]? :=λhi=>Xan oM
 have C:(φ++ [some H.length])[hp.length]? =some (some H.length):=by grind
 refine⟨by simp[hlen], ?_, ?_⟩;intro id x o hx ho;rcases old hx with⟨hi,hx⟩|⟨rfl,rfl⟩;rw[j hi]at ho;refine RM.mono (Le.app _ _) (λa R hl=> ?_) (hh.row _ _ _ hx ho);subst R;exact Xan (hh.lt hx hl ho);rw[C]at ho;cases ho;exact h;intro id af x x' a aa hx ab hl ad R J;rcases old hx with⟨hi,h1⟩|⟨h1,h2⟩;rw[j hi]at R;rcases old ab with⟨U,I⟩|⟨I,ae⟩;rw[j U]at J;exact hh.inj _ _ _ _ _ aa h1 I hl ad R J;rw[I,C]at J;cases J;have:=hh.lt h1 hl R;omega;rw[h1,C]at R;cases R;rcases old ab with⟨U,I⟩|⟨I,ae⟩;rw[j U]at J;have:=hh.lt I ad J;omega;exact aa (h1.trans I.symm)
def RH.set (R:RH φ hp (λa=>H[a]?)) {id a aa sm m} (h0:hp[id]? =some aa) (J:live aa=true) (ae:φ[id]? =some (some a)) (h:RM φ (λb=>(H.set a m)[b]?) (some a) sm):RH φ (hp.set id sm) (λb=>(H.set a m)[b]?):=by
 have at_: ∀ {j:Nat} {x:SM},(hp.set id sm)[j]? =some x->(j=id/\x=sm)\/(j≠id/\hp[j]? =some x):=by grind
 refine⟨by simp[R.len], ?_, ?_⟩;intro j x o U ho;rcases at_ U with⟨rfl,rfl⟩|⟨hj,U⟩;grind;refine RM.mono (Le.refl _) (λb hb hl=> ?_) (R.row _ _ _ U ho);subst hb;have:a≠b:=λe=>by subst e;exact R.inj _ _ _ _ _ hj U h0 hl J ho ae
 grind;intro i j x x' b C U ab hl ad hb I;rcases at_ U with⟨e1,_⟩|⟨hi,h1⟩;rcases at_ ab with⟨e2,_⟩|⟨hj,h2⟩;omega;rw[e1]at C hb;exact R.inj _ _ _ _ _ C h0 h2 J ad hb I;rcases at_ ab with⟨e2,_⟩|⟨hj,h2⟩;rw[e2]at C I;exact R.inj _ _ _ _ _ C h1 h0 hl J hb I;exact R.inj _ _ _ _ _ C h1 h2 hl ad hb I
def RH.kill {L} (I:RH φ hp L) id:RH φ (hp.set id .dead) L:=by
 have at_: ∀ {j:Nat} {x:SM},(hp.set id .dead)[j]? =some x->x= .dead\/hp[j]? =some x:=by grind
 refine⟨by simp[I.len], ?_, ?_⟩;intro j x o hx ho;rcases at_ hx with rfl|hx;trivial;exact I.row _ _ _ hx ho;intro i j x x' b J hx hx' hl C U R;rcases at_ hx with rfl|hx;cases hl;rcases at_ hx' with rfl|hx';cases C;exact I.inj _ _ _ _ _ J hx hx' hl C U R
def RH.killA (J:RH φ hp (λa=>H[a]?)) {id a j m} (R:hp[id]? =some j) (C:live j=true) (I:φ[id]? =some (some a)):RH φ (hp.set id .dead) (λb=>(H.set a m)[b]?):=
 J.set R C I trivial
def ZE9 (hh:RH φ hp (λa=>H[a]?)) id:RH φ (frz1 hp id) (λa=>H[a]?):=by
 have go: ∀sm I,hp[id]? =some sm->live sm=true->(∀o,RM φ (λa=>H[a]?) o sm->RM φ (λa=>H[a]?) o I)->RH φ (hp.set id I) (λa=>H[a]?):=by
  intro sm I C aa hm;have hid:=(Xaf.1 C).1;have at_: ∀ {j:Nat} {x:SM},(hp.set id I)[j]? =some x->(j=id/\x=I)\/(j≠id/\hp[j]? =some x):=by grind
  refine⟨by simp[hh.len], ?_, ?_⟩;intro j x o hx ho;rcases at_ hx with⟨rfl,rfl⟩|⟨hj,hx⟩;exact hm o (hh.row _ _ _ C ho);exact hh.row _ _ _ hx ho;intro i j x x' b J hx ab hl ad hb U;rcases at_ hx with⟨e1,_⟩|⟨hi,h1⟩;rcases at_ ab with⟨e2,_⟩|⟨hj,h2⟩;omega;rw[e1]at J hb;exact hh.inj _ _ _ _ _ J C h2 aa ad hb U;rcases at_ ab with⟨e2,_⟩|⟨hj,h2⟩;rw[e2]at J U;exact hh.inj _ _ _ _ _ J h1 C hl aa hb U;exact hh.inj _ _ _ _ _ J h1 h2 hl ad hb U
 unfold frz1;rw[ZaA];split;rename_i t l m C;refine go _ _ C rfl λo R=> ?_;simp only[RM]at R|-;cases o with|none=>exact R|some a=>(let⟨es,m',h1,h2,_⟩:=R);exact⟨es,m',h1,h2,λh=>by cases h⟩
 rename_i cs m C;refine go _ _ C rfl λo R=> ?_;simp only[RM]at R|-;let⟨a,ae,m',C,h1,h2,_⟩:=R
 exact⟨a,ae,m',C,h1,h2,λh=>by cases h⟩;rename_i ct af m C;refine go _ _ C rfl λo R=> ?_;simp only[RM]at R|-;cases o with|none=>exact R|some a=>(let⟨es,m',h1,h2,_⟩:=R);exact⟨es,m',h1,h2,λh=>by cases h⟩
 exact hh
def Zs2: ∀ (ids:List Nat) {hp:List SM},RH φ hp (λa=>H[a]?)->RH φ (frzT hp ids) (λa=>H[a]?)
 | [],_,h=>h
 |i::r,_,h=>Zs2 r (ZE9 h i)
def ZJD:SM->Bool
 | .row _ _ m| .cell _ m| .many _ _ m=>m
 | .set _=>false
 | .im _ _=>false
 | .dead=>false
def ZFW (hp:List SM) id j {sm} (h:(frz1 hp id)[j]? =some sm):(∃I,hp[j]? =some I/\live I=live sm)/\(j=id->ZJD sm=false)/\(ZJD sm=true->hp[j]? =some sm):=by unfold frz1 at h;rw[ZaA]at h;split at h;rename_i t l m C;by_cases J:j=id;subst J;rw[XaN (Xaf.1 C).1]at h;cases h;exact⟨⟨_,C,rfl⟩,λ_=>rfl,λhm=>by cases hm⟩;grind;rename_i cs m C;by_cases J:j=id;subst J;rw[XaN (Xaf.1 C).1]at h;cases h;exact⟨⟨_,C,rfl⟩,λ_=>rfl,λhm=>by cases hm⟩;grind;rename_i cs R m C;by_cases J:j=id;subst J;rw[XaN (Xaf.1 C).1]at h;cases h;exact⟨⟨_,C,rfl⟩,λ_=>rfl,λhm=>by cases hm⟩;grind;rename_i U h2 h3;refine⟨⟨_,h,rfl⟩, ?_,λ_=>h⟩;intro e;subst e;cases sm with|row t l m=>exact absurd h (U _ _ _)|cell cs m=>exact absurd h (h2 _ _)|many ct R m=>exact absurd h (h3 _ _ _)|set ks=>rfl|im t ks=>rfl|dead=>rfl
def Zxs: ∀ (ids:List Nat) (hp:List SM) (j:Nat) {sm:SM},(frzT hp ids)[j]? =some sm->(∃C,hp[j]? =some C/\live C=live sm)/\(j∈ids->ZJD sm=false)/\(ZJD sm=true->hp[j]? =some sm)
 | [],hp,j,sm,h=>⟨⟨_,h,rfl⟩,λh=>by simp at h,λ_=>h⟩
 |i::r,hp,j,sm,h=>by(let⟨⟨s1,I,J⟩,R,U⟩:=Zxs r (frz1 hp i) j h);(let⟨⟨s0,h4,l0⟩,h5,h6⟩:=ZFW hp i j I);grind
def ZjA: ∀ (as:List Nat) (H:List Mem) (b:Nat),b ∉ as->(Am.freeze as H)[b]? =H[b]?
 | [],_,_,_=>rfl
 |a::r,H,b,h=>by show(Am.freeze r (freeze1 H a))[b]? =_;rw[ZjA r _ b λe=>h (Xai _ e)];rcases ZaV H a b with j|⟨rfl,_⟩;exact j;exact absurd Xah h
def ZdP: ∀ (as:List Nat) (H:List Mem) (b:Nat) (es:List (List PV)) (z:Nat) (m:Bool),H[b]? =some (.row es z m)-> ∃j,(Am.freeze as H)[b]? =some (.row es z j)
 | [],_,_,_,_,m,h=>⟨m,h⟩
 |a::r,H,b,es,z,m,h=>by
  show ∃j,(Am.freeze r (freeze1 H a))[b]? =_
  rcases ZaV H a b with I|⟨rfl,es',z',j,C,J⟩;exact ZdP r _ b es z m (I.trans h);rw[h]at C;cases C;exact ZdP r _ a es z false J
def ZiY: ∀ (as:List Nat) (H:List Mem) (b:Nat) (es:List (PV×PV)),H[b]? =some (.map es)->(Am.freeze as H)[b]? =some (.map es)
 | [],_,_,_,h=>h
 |a::r,H,b,es,h=>by show(Am.freeze r (freeze1 H a))[b]? =_;rcases ZaV H a b with C|⟨rfl,es',z',I,j,J⟩;exact ZiY r _ b es (C.trans h);rw[h]at j;cases j
def Zjt (hh:RH φ hp (λa=>H[a]?)) {ids as:List Nat} (hr:Reach φ hp ids as):RH φ (frzT hp ids) (λa=>(Am.freeze as H)[a]?):=by
 have hf:=Zs2 ids hh;refine⟨hf.len, ?_,hf.inj⟩;intro j sm o hj ho;obtain⟨⟨ad,h0,hl⟩,h1,h2⟩:=Zxs ids hp j hj;have hm:=hf.row _ _ _ hj ho;have keep: ∀a,o=some a->ZJD sm=true->(Am.freeze as H)[a]? =H[a]? :=by intro a ha J;refine ZjA _ _ _ λab=> ?_;obtain⟨id,C,I,ae,R,U⟩:=hr a ab;subst ha;by_cases hid:id=j;subst hid;rw[h1 C]at J;cases J;refine hh.inj _ _ _ _ _ hid R h0 U ?_ I ho;rw[hl];cases sm with|dead=>cases J|_=>rfl
 cases sm with|row t l m=>(simp only[RM]at hm|-;cases o with|none=>exact hm|some a=>obtain⟨es,m',C,I,R⟩:=hm;cases m with|true=>exact⟨es,m',by rw[keep a rfl rfl];exact C,I,R⟩|false=>obtain⟨m2,U⟩:=ZdP as H a _ _ _ C;exact⟨es,m2,U,I,λh=>by cases h⟩)|cell cs m=>(simp only[RM]at hm|-;obtain⟨a,aa,m',rfl,C,I,R⟩:=hm;cases m with|true=>exact⟨a,aa,m',rfl,by rw[keep a rfl rfl];exact C,I,R⟩|false=>obtain⟨m2,U⟩:=ZdP as H a _ _ _ C;exact⟨a,aa,m2,rfl,U,I,λh=>by cases h⟩)|many ct af m=>(simp only[RM]at hm|-;cases o with|none=>exact hm|some a=>obtain⟨es,m',C,I,R⟩:=hm;cases m with|true=>exact⟨es,m',by rw[keep a rfl rfl];exact C,I,R⟩|false=>obtain⟨m2,U⟩:=ZdP as H a _ _ _ C;exact⟨es,m2,U,I,λh=>by cases h⟩)|set ks=>simp only[RM]at hm|-;obtain⟨a,es,rfl,C,I⟩:=hm;exact⟨a,es,rfl,ZiY as H a es C,I⟩|im t ks=>simp only[RM]at hm|-;obtain⟨a,es,rfl,C,I⟩:=hm;exact⟨a,es,rfl,ZiY as H a es C,I⟩|dead=>trivial
end
section
variable {P:Program} {h:Hints} {T:TypeId->TI} {φ:Ph} {hp:List SM} {H:List Mem} {tm:TM} {ρ:Operand->Option PV}
def ZwT (φ:Ph) (tm:TM) (ρ:Operand->Option PV):Prop:= ∀x V,evS tm x=some V-> ∃q,ρ x=some q/\RV φ V q
def Zkx (j:ZwT φ tm ρ): ∀ {l:List Operand} {Vs:List SV},evL tm l=some Vs-> ∃C,Za3 ρ l=some C/\RL φ Vs C
 | [],_,h=>by cases h;exact⟨[],rfl,by simp only[RL]⟩
 |x::l,Vs,h=>by simp only[evL]at h;split at h;rename_i v I;split at h;rename_i r J;cases h;(let⟨q,R,U⟩:=j _ _ I);(let⟨C,h3,h4⟩:=Zkx j J);exact⟨q::C,by rw[Zbn,R,h3];rfl,by simp only[RL];exact⟨_,_,rfl,U,h4⟩⟩;cases h;cases h
def Zdp {V q} (hn:Zcd V=true) (j:RV φ V q):RL φ (Zbr V) (cellsOf q)/\Zj3 q=some q:=by
 have one:(∀cs,q≠ .agg cs)->Zbr V=[V]->RL φ (Zbr V) (cellsOf q):=by
  intro I J;rw[J];have:cellsOf q=[q]:=by
   cases q<;>first
    |rfl
    |exact absurd rfl (I _)
  simp only[RL];grind
 cases V with
 |v t x=>
  have hp:Zeg q=true:=(by simp[RV]at j;exact j.plain q sM);refine⟨one (λcs e=>by subst e;cases hp) rfl, ?_⟩;cases q<;>first
   |rfl
   |cases hp
 |nilp=>simp[RV]at j;subst j;exact⟨one sM rfl,rfl⟩
 |nils=>simp[RV]at j;subst j;exact⟨one sM rfl,rfl⟩
 |nilf=>simp[RV]at j;subst j;exact⟨one sM rfl,rfl⟩
 |nili=>simp[RV]at j;subst j;exact⟨one sM rfl,rfl⟩
 |nilmp=>simp[RV]at j;subst j;exact⟨one sM rfl,rfl⟩
 |mp id=>simp[RV]at j;obtain⟨a,_,rfl⟩:=j;exact⟨one sM rfl,rfl⟩
 |ref id i n m=>have C:=j;rcases C with⟨a,_,rfl⟩|⟨_,rfl,_⟩<;>exact⟨one sM rfl,rfl⟩
 |ptr id i r=>have C:=j;obtain⟨a,_,rfl⟩:=C;exact⟨one sM rfl,rfl⟩
 |box t x r=>have C:=j;obtain⟨a,rfl,_⟩:=C;exact⟨one sM rfl,rfl⟩
 |func f a c=>obtain⟨_,_,rfl,_⟩:=j;exact⟨one sM rfl,rfl⟩
 |agg cs=>obtain⟨R,rfl,I⟩:=j;exact⟨I,rfl⟩
 |tup vs=>cases hn
def ZjJ {V q} (C:Zvj V=true) (hn:Zcd V=true) (j:RV φ V q):cellsOf q=[q]:=by
 have I:=(Zdp hn j).1;have J:Zbr V=[V]:=by
  cases V<;>first
   |rfl
   |cases C
 rw[J]at I;let⟨R,U,h2⟩:=RL1 I
 cases q<;>first
  |rfl
  |skip
 ·rename_i cs;exfalso;cases V<;>simp[RV,RR]at j<;>first
   |(cases C;done)
   |(cases j;done)
   |skip
  all_goals first
   |(have:=RR.plain j _ (Xav.2 rfl);cases this;done)
   |(rcases j with⟨a,_,h⟩|⟨_,h,_⟩<;>cases h;done)
   |(let⟨a,_,h⟩:=j;cases h;done)
   |(let⟨a,h,_⟩:=j;cases h;done)
   |(let⟨a,c,h,_⟩:=j;cases h;done)
def Zyu (hT:TysOK P T) (hh:RH φ hp (λa=>H[a]?)) {t A V a x k} (C:ZjY T t hp A V k) (hA:RV φ A a) (hV:RV φ V x):OutOK φ k (ZfW P H t (some a) (some x)):=by
 unfold ZjY at C;split at C;rename_i id i r;split at C;rename_i hb;simp only[Xas]at hb;let⟨hn,hl⟩:=hb
 have hl:=Xay hl;let⟨hc,ad⟩:=Zdp hn hV
 split at C;rename_i ct l j;let⟨y,hy,C⟩:=C
 obtain⟨U,es,m',rfl,hp',ha,I,hm⟩:=hh.ptr j hA;have hm:=hm rfl;subst hm;let⟨c,ae,ah⟩:=I.get hy
 split at C;cases C;rename_i z hle hd ho;have hle:=Xam hle;have J:=(hT.get rfl (λe=>ho e)).sz;have hz:=ZdV hd (RL.spl _ (Ziv ah) hc);refine⟨.tup [],H.set U (.row (es.set i (splice c r (cellsOf x))) ct.w true),φ, .tup [],_, ?_,Le.refl φ, ?_,by simp only[RV,RL];exact⟨_,rfl,rfl⟩,C⟩;simp only[ZfW,Xad,ad,Zdo,show H[U]? =_ from ha,ae,J];rw[if_pos ⟨by rw[<-hc.len];exact hl,by rw[ah.len];exact hle⟩];rfl;rw[ZaA]at j;refine hh.set j rfl hp' ?_;have R:=(Xaf.1 ha).1;simp only[RM];exact⟨_,true,XaN R,I.set hz _,λ_=>rfl⟩;cases C;rename_i cs j;obtain⟨rfl,C⟩:=C;obtain⟨U,aa,m',rfl,hp',ha,af,hm⟩:=hh.ptrC j hA;have hm:=hm rfl;subst hm;split at C;cases C;rename_i hle ho;have hle:=Xam hle;have J:=(hT.get rfl (λe=>ho e)).sz;have ab:=RL.spl r af hc;have hlen:(splice aa r (cellsOf x)).length=aa.length:=by rw[<-ab.len,<-af.len];unfold spl;simp[Xaz];omega
 refine⟨.tup [],H.set U (.row [splice aa r (cellsOf x)] aa.length true),φ, .tup [],_, ?_,Le.refl φ, ?_,by simp only[RV,RL];exact⟨_,rfl,rfl⟩,C⟩;simp only[ZfW,Xad,ad,Zdo,show H[U]? =_ from ha,List.getElem?_cons_zero,J];rw[if_pos ⟨by rw[<-hc.len];exact hl,by rw[<-af.len];exact hle⟩];rfl;rw[ZaA]at j;refine hh.set j rfl hp' ?_;have R:=(Xaf.1 ha).1;simp only[RM];exact⟨U,_,true,rfl,by rw[hlen];exact XaN R,ab,λ_=>rfl⟩;cases C;rename_i ct ak j;obtain⟨hi,C⟩:=C;obtain⟨U,es,m',rfl,hp',ha,I,hm⟩:=hh.ptrM j hA;have hm:=hm rfl;subst hm;split at C;cases C;rename_i hle ho;rw[Xas]at hle;have aj:=Xay hle.1;subst aj;have J:=(hT.get rfl (λe=>ho e)).sz;have ai:=ZjJ hle.2 hn hV;have ag:=hc.len;rw[ai]at ag;obtain⟨c,ae,y,rfl,hy⟩:=I.get (Xac hi);refine⟨.tup [],H.set U (.row (es.set i [x]) 1 true),φ, .tup [],_, ?_,Le.refl φ, ?_,by simp only[RV,RL];exact⟨_,rfl,rfl⟩,C⟩;simp only[ZfW,Xad,ad,Zdo,show H[U]? =_ from ha,ae,J,ai];rw[if_pos ⟨by rw[<-hl,ag],by rw[<-hl,ag];simp⟩];simp[splice];rw[ZaA]at j;refine hh.set j rfl hp' ?_;have R:=(Xaf.1 ha).1;simp only[RM];exact⟨_,true,XaN R,I.set ⟨x,rfl,hV⟩ _,λ_=>rfl⟩;cases C;cases C;cases C;cases C
theorem ZjW (j:RH φ hp (λa=>H[a]?)) o:(φ++ [o])[hp.length]? =some o:=by rw[Xaw (by rw[j.len];exact Xae _),j.len];simp
def Zqu (C:RH φ hp (λa=>H[a]?)) {cs j} (J:RL φ cs j) {k} (I:k (.ptr hp.length 0 0) (hp++ [.cell cs true])):
 OutOK φ k (some (.ptr H.length 0 0,H++ [Mem.row [j] j.length true])):=by refine⟨_,_,φ++ [some H.length],_,_,rfl,Le.app _ _,C.push ?_, ?_,I⟩;simp only[RM];grind [RL.mono,Le.app];simp only[RV];grind [ZjW]
theorem Zkl (j:RH φ hp (λa=>H[a]?)) {ct l es} (hl:All2 (RR ct) l es) {n m k} (C:k (.ref hp.length 0 n m) (hp++ [.row ct l true])):
 OutOK φ k (some (.ref H.length 0 n (m.getD n),H++ [Mem.row es ct.w true])):=by refine⟨_,_,φ++ [some H.length],_,_,rfl,Le.app _ _,j.push ?_, ?_,C⟩;simp only[RM];simp_all;simp only[RV];grind [ZjW]
def PLs (φ:Ph) (l:List (Nat×SV)) (j:List (Nat×PV)):Prop:=All2 (λa b=>a.1=b.1/\RV φ a.2 b.2/\Zcd a.2=true) l j
def Zlm (j:ZwT φ tm ρ): ∀ {l:List (Nat×Operand)} {ps:List (Nat×SV)},ZpS tm l=some ps-> ∃C,Za3 (λx=>((ρ x.2).bind Zj3).map λv=>(x.1,v)) l=some C/\PLs φ ps C
 | [],_,h=>by cases h;exact⟨[],rfl,trivial⟩
 |(i,x)::l,ps,h=>by simp only[ZpS]at h;split at h;rename_i V J;(cases hn:Zcd V with|false=>rw[hn]at h;cases h|true=>rw[hn]at h;simp only[cond_true]at h;split at h;rename_i r R;cases h;(let⟨q,U,I⟩:=j _ _ J);(let⟨C,h3,h4⟩:=Zlm j R);refine⟨(i,q)::C, ?_,⟨rfl,I,hn⟩,h4⟩;rw[Zbn,h3];simp only[U,Xad,(Zdp hn I).2,Xau];cases h);cases h
def ZyR {place fs} (R: ∀i off ty n,nth fs i=some (off,ty,n)->place i=some (off,n)): ∀ {ps:List (Nat×SV)} {J:List (Nat×PV)} {cs C:List SV} {U:List PV},ZCv fs cs ps=some C->PLs φ ps J->RL φ cs U-> ∃I,Zdt place U J=some I/\RL φ C I
 | [],[],cs,C,U,h,_,hr=>by cases h;exact⟨U,rfl,hr⟩
 |(i,V)::ps,(j,q)::J,cs,C,U,h,hp',hr=>by(let⟨⟨h1,h2,h3⟩,h4⟩:=hp');subst h1;simp[ZCv]at h;split at h;rename_i off ty n hn;(cases hb:Nat.beq (Zbr V).length n&&Nat.ble (off+n) cs.length with|false=>rw[hb]at h;cases h|true=>rw[hb,cond_true]at h;simp only[Xas]at hb;have hc:=(Zdp h3 h2).1;(let⟨I,h5,h6⟩:=ZyR R h h4 (RL.spl off hr hc));refine⟨I, ?_,h6⟩;simp only[Zdt,R _ _ _ _ hn,Xad];rw[if_pos ⟨by rw[<-hc.len];exact(Xay hb.1),by rw[<-hr.len];exact(Xam hb.2)⟩];exact h5);cases h
def Zvv {n}: ∀ {ps:List (Nat×SV)} {J:List (Nat×PV)} {cs C:List SV} {R:List PV},ZCu n cs ps=some C->PLs φ ps J->RL φ cs R-> ∃I,Zdt (λi=>some (i*n,n)) R J=some I/\RL φ C I
 | [],[],cs,C,R,h,_,hr=>by cases h;exact⟨R,rfl,hr⟩
 |(i,V)::ps,(j,q)::J,cs,C,R,h,hp',hr=>by(let⟨⟨h1,h2,h3⟩,h4⟩:=hp');subst h1;simp[ZCu]at h;cases U:Nat.beq (Zbr V).length n&&Nat.ble (i*n+n) cs.length with|false=>rw[U]at h;cases h|true=>rw[U,cond_true]at h;simp only[Xas]at U;have hc:=(Zdp h3 h2).1;(let⟨I,h5,h6⟩:=Zvv h h4 (RL.spl _ hr hc));refine⟨I, ?_,h6⟩;simp only[Zdt,Xad];rw[if_pos ⟨by rw[<-hc.len];exact(Xay U.1),by rw[<-hr.len];exact(Xam U.2)⟩];exact h5
def ZuQ {ct}: ∀ {ps:List (Nat×SV)} {C:List (Nat×PV)} {l I:List ct.D} {es:List (List PV)},ZCP ct l ps=some I->PLs φ ps C->All2 (RR ct) l es-> ∃es',ZdO ct.w es C=some es'/\All2 (RR ct) I es'
 | [],[],l,I,es,h,_,J=>by cases h;exact⟨es,rfl,J⟩
 |(i,V)::ps,(j,q)::C,l,I,es,h,hp',J=>by(let⟨⟨h1,h2,h3⟩,h4⟩:=hp');simp only at h1 h2 h3;subst h1;simp only[ZCP]at h;split at h;rename_i x R;have hc:=(Zdp h3 h2).1;have R:=ZdV R hc;(cases U:Nat.ble (i+1) l.length with|false=>rw[U]at h;cases h|true=>rw[U,cond_true]at h;have e2:=Xam U;(let⟨es',h5,h6⟩:=ZuQ h h4 (J.set R i));refine⟨es', ?_,h6⟩;have:=J.len;simp only[ZdO];rw[if_pos ⟨R.len,oM⟩];exact h5);cases h
def Zx5 (hT:TysOK P T) {t ps R k} (j:Zx7 T t ps k) (hp':PLs φ ps R):ValOK φ k (Zju P t R):=by
 unfold Zx7 at j;split at j;rename_i fs J;have U:=hT.get J sM;let⟨zs,hz,C,_⟩:=U.zero
 have hm:=U.k;rw[J]at hm;let⟨a,hu,ae,af⟩:=hm
 split at j;rename_i cs I;let⟨aa,h1,h2⟩:=ZyR (place:=λi=>(a[i]?).bind λf=>(Zbi P f.type).map λn=>(f.offset,n)) (λi off ty n hn=>by(let⟨h3,h4⟩:=Zm0 hT J hn);simp only[fieldAt,hu]at h3;(let⟨f,hf,ab⟩:=ZHD h3);cases ab;simp[hf,Xad,h4]) I hp' (C φ)
 have h3: ∃r,Za3 (λf:Field=>Zbi P f.type) a.toList=some r:=by
    have: ∀l,(∀f∈l,∃n,Zbi P f.type=some n)-> ∃r,Za3 (λf:Field=>Zbi P f.type) l=some r:=by intro l;induction l with|nil=>exact λ_=>⟨[],rfl⟩|cons f r ih=>grind [Xah,Xai,Zbn]
    refine this _ λf hf=> ?_;have:(f.offset,f.type)∈a.toList.map (λf=>(f.offset,f.type)):=XaT.2 ⟨f,hf,rfl⟩;grind
 let⟨r,hr⟩:=h3
 simp[Zju,hz,hu,h1,hr];refine .mk ?_ j;simp only[RV];exact⟨_,rfl,h2⟩;cases j;rename_i n e J;have U:=hT.get J sM;let⟨zs,hz,C,_⟩:=U.zero
 have hm:=U.k;rw[J]at hm;split at j;cases j;rename_i cs I ho;have ad:=(hT.get rfl (λe=>ho e)).sz;let⟨aa,h1,h2⟩:=Zvv I hp' (C φ)
 simp[Zju,hz,show P.underlying t=_ from hm,ad,h1];refine .mk ?_ j;simp only[RV];exact⟨_,rfl,h2⟩;cases j;cases j
def Zfm (hT:TysOK P T) {t e} (C:(T t).k= .slice e):Zmm P t=some e/\P.underlying t=some (.slice e):=by have j:=(hT.get C sM).k;rw[C]at j;exact⟨by simp[Zmm,show P.underlying t=_ from j],j⟩
def Zvz {n}: ∀ {ps:List (Nat×SV)} {I:List (Nat×PV)} {C:List SV} {i:Nat},ZBb i ps=some C->PLs φ ps I->i+ps.length=n-> ∀es,es.length=n-> ∃es',ZdO 1 es I=some es'/\ ∃R,es'=es.take i++R/\All2 (λV c=> ∃q,c=[q]/\RV φ V q) C R
 | [],[],C,i,h,_,hn,es,J=>by cases h;simp[Nat.add_zero]at hn;exact⟨es,rfl,[],by rw[XaQ,Xax oM],trivial⟩
 |(j,V)::ps,(j',q)::I,C,i,h,hp',hn,es,J=>by(let⟨⟨h1,h2,h3⟩,h4⟩:=hp');simp[ZBb]at h;split at h;rename_i U;rw[Xas]at U;have aa:=Xay U.1;split at h;rename_i l hl;cases h;simp at hn;have hc:=ZjJ U.2 h3 h2;(let⟨es',h5,R,h6,h7⟩:=Zvz (n:=n) hl h4 oM (es.set i [q]) (by simp[J]));refine⟨es', ?_,[q]::R, ?_,⟨q,rfl,h2⟩,h7⟩;grind [ZdO];rw[h6,Xa2 (by simp;omega),XbT,XbK (Xae _)];simp;cases h;cases h
def Zml (hT:TysOK P T) (hh:RH φ hp (λa=>H[a]?)) {t n ps I k} (C:Zhn T t n ps hp k) (hp':PLs φ ps I):
 OutOK φ k ((ZbM P t n I).map λm=>(.ref H.length 0 n n,H++ [m])):=by
 unfold Zhn at C;split at C;rename_i e hk;let⟨h1,_⟩:=Zfm hT hk
 split at C;cases C;rename_i hn U ho;have hn:0<n\/I=[]:=by cases n with|succ n=>exact .inl (Nat.succ_pos n)|zero=>cases ps with|nil=>(cases I with|nil=>exact .inr rfl|cons _ _=>cases hp')|cons _ _=>cases hn
 simp only[Xas]at U;have ab:=Xam U.1;have ad:=Xam U.2;have h0:=hT.get rfl (λe=>ho e);let⟨zs,hz,ai,ae⟩:=h0.zero
 have cond:(0<n\/I=[])/\0<(T e).sz/\zs.length=(T e).sz/\n*(T e).sz<=16777216:=⟨hn,ab,ae,ad⟩;have R: ∀V,n=1->ps=[(0,V)]->Nat.beq (Zbr V).length (T e).sz=true->k (.ref hp.length 0 1 none) (hp++ [.cell (Zbr V) true])->OutOK φ k ((ZbM P t n I).map λm=>(.ref H.length 0 n n,H++ [m])):=by
    rintro V rfl rfl hlen C;have hlen:=Xay hlen;obtain⟨_,qr,rfl,h4⟩: ∃q qr,I=(0,q)::qr/\RV φ V q/\Zcd V=true/\qr=[]:=by match I,hp' with| [(j,q)],⟨⟨e1,e2,e3⟩,_⟩=>exact⟨q,[],by rw[<-show 0=j from e1],e2,e3,rfl⟩
    obtain⟨h4,h5,rfl⟩:=h4;have hc:=(Zdp h5 h4).1;have af:=hc.len;simp only[ZbM,h1,Xad,h0.sz,hz];rw[if_pos cond];simp only[ZdO];rw[if_pos ⟨oM,sM⟩];simp[List.replicate_succ];rw[show(T e).sz=(cellsOf _).length from by rw[<-af];exact hlen.symm];refine⟨_,_,φ++ [some H.length],_,_,rfl,Le.app _ _,hh.push ?_, ?_,C⟩;simp only[RM];refine⟨_,_,true,rfl, ?_,RL.mono (Le.app _ _) _ _ hc,λ_=>rfl⟩;simp;simp only[RV];exact .inl ⟨_,ZjW hh _,rfl⟩
 split at C;rename_i ct ag;let⟨hw,ah⟩:=h0.ct ct ag
 split at C;rename_i l hl;let⟨es',h2,h3⟩:=ZuQ hl hp' (All2.rep (ah _ hz) n)
 rw[hw]at h2;simp[ZbM,h1,h0.sz,hz];rw[if_pos cond,h2];simp;rw[<-hw];exact Zkl hh h3 C;split at C;rename_i aj aa J hlen;have J:=Xay J;have hlen:=Xay hlen;let⟨es',h2,tl,h3,h4⟩:=Zvz (n:=n) aa hp' oM (List.replicate n zs) sM
 rw[XbV,Xba]at h3;subst h3;rw[<-J]at h2;simp[ZbM,h1,h0.sz,hz];rw[if_pos cond,h2];simp;rw[J];refine⟨_,_,φ++ [some H.length],_,_,rfl,Le.app _ _,hh.push ?_, ?_,C⟩;simp only[RM];refine⟨es',true, ?_, ?_,λ_=>rfl⟩;simp;exact h4.imp (λ_ _ ⟨q,hq,hr⟩=>⟨q,hq,RV.mono (Le.app _ _) _ _ hr⟩);simp only[RV];exact .inl ⟨_,ZjW hh _,rfl⟩;split at C;split at C;exact R _ rfl rfl (by assumption) C;cases C;cases C;split at C;split at C;exact R _ rfl rfl (by assumption) C;cases C;cases C;cases C;cases C
def ZF2 {x y} (h:ZKK x y=true):evS tm x=evS tm y:=by unfold ZKK at h;split at h;simp_all;grind [Zg6];cases h
def ZnL (hT:TysOK P T) (R:RH φ hp (λa=>H[a]?)) (I:ZwT φ tm ρ) {t lo co k} (j:Zjm T t lo co tm hp k):OutOK φ k (Zj6 H (Zc5 P H.length t (ρ lo) (ρ co))):=by
 unfold Zjm at j;split at j;rename_i l _ c hl hc;let⟨_,h1,h2⟩:=I _ _ hl
 let⟨_,h3,h4⟩:=I _ _ hc
 have e2:=Zc0 h2;have e4:=Zc0 h4;subst e2 e4;split at j;rename_i e hk;let⟨ht,_⟩:=Zfm hT hk
 split at j;cases j;rename_i ct aa hs ho;have hs:=Xam hs;have U:=hT.get rfl (λe=>ho e);let⟨zs,hz,C,ab⟩:=U.zero
 let⟨hw,J⟩:=U.ct ct aa
 obtain⟨ad,j⟩:=j;have hm:Zc5 P H.length t (ρ lo) (ρ co)=some (.ref H.length 0 l.toNat c.toNat,[Mem.row (List.replicate c.toNat zs) ct.w true],[]):=by simp only[Zc5,h1,Xad,ZgO,ht,U.sz,U.by_];grind
 rw[hm];show OutOK φ k (some (_,H++_));split at j;rename_i he;have:=ZF2 (tm:=tm) he;rw[hl,hc]at this;have:l=c:=by simp only[Xaj,SV.v.injEq,CT.i.injEq]at this;obtain⟨rfl,h5⟩:=this;exact eq_of_heq h5
 subst this;split at j;rename_i hzero;have C:=C φ;rw[hzero]at C;simp[RL,RV]at C;obtain⟨_,_,rfl,rfl,rfl⟩:=C;have ae:ct.w=1:=by rw[hw,<-ab];rfl
 rw[ae];refine⟨_,_,φ++ [some H.length],_,_,rfl,Le.app _ _,R.push ?_, ?_,j⟩;simp only[RM];refine⟨List.replicate l.toNat [.nils],true,sM, ?_,λ_=>rfl⟩;generalize l.toNat=n;induction n with|zero=>exact trivial|succ n ih=>exact⟨⟨.nils,rfl,by simp[RV]⟩,ih⟩
 simp only[RV];exact .inl ⟨_,ZjW R _,rfl⟩;exact Zkl R (All2.rep (J _ hz) _) j;exact Zkl R (All2.rep (J _ hz) _) j;cases j;cases j;cases j
def ZdT:Zrs ρ none=some none:=rfl
def Zig {x q} (j:ρ x=some q):Zrs ρ (some x)=some (some q):=by simp[Zrs,j]
def ZMK {n m:Nat} {kk} {l:Int} (j:0<=l) (C:l<=n):ZcR n m (some (.int kk l)) none none=some (l.toNat,n,m)/\(n=m->Zgr n (some (.int kk l)) none=some (l.toNat,n))/\l.toNat<=n:=by grind [ZcR,ZEP,bLo,bMx,Zgr,bHi]
def ZMB {n m:Nat} {kk} {u:Int} (j:0<=u) (C:u<=m):ZcR n m none (some (.int kk u)) none=some (0,u.toNat,m)/\(n=m->Zgr n none (some (.int kk u))=some (0,u.toNat))/\u.toNat<=m:=by grind [ZcR,ZEP,bLo,bMx,Zgr,bHi]
def ZMS {n m:Nat} {j C} {l u:Int} (I:0<=l) (J:l<=u) (R:u<=m):ZcR n m (some (.int j l)) (some (.int C u)) none=some (l.toNat,u.toNat,m)/\(n=m->Zgr n (some (.int j l)) (some (.int C u))=some (l.toNat,u.toNat))/\l.toNat<=u.toNat/\u.toNat<=m:=by grind [ZcR,ZEP,bLo,bMx,Zgr,bHi]
def Zk9 (I:ZwT φ tm ρ) {n m lo hi k} (j:ZEH tm n m lo hi k): ∃l' h' J C,Zrs ρ lo=some l'/\Zrs ρ hi=some h'/\ZcR n m l' h' none=some (J,C,m)/\(n=m->Zgr n l' h'=some (J,C))/\J<=C/\(n<=m->C<=m)/\k J C:=by
 unfold ZEH at j;split at j;exact⟨none,none,0,n,rfl,rfl,rfl,λ_=>rfl,Xak _,id,j⟩;split at j;rename_i l hl;let⟨_,R,U⟩:=I _ _ hl
 have e2:=Zc0 U;subst e2;let⟨⟨h3,h4⟩,j⟩:=j
 obtain⟨e3,e4,e5⟩:=ZMK h3 h4;exact⟨_,none,_,n,Zig R,rfl,e3,e4,e5,id,j⟩;cases j;split at j;rename_i u hu;let⟨_,R,U⟩:=I _ _ hu
 have e2:=Zc0 U;subst e2;let⟨⟨h3,h4⟩,j⟩:=j
 obtain⟨e3,e4,e5⟩:=ZMB h3 h4;exact⟨none,_,0,_,rfl,Zig R,e3,e4,Xak _,λ_=>e5,j⟩;cases j;split at j;rename_i l _ u hl hu;let⟨_,R,U⟩:=I _ _ hl
 let⟨_,aa,ab⟩:=I _ _ hu
 have e2:=Zc0 U;have ad:=Zc0 ab;subst e2 ad;let⟨⟨h3,h4,h5⟩,j⟩:=j
 obtain⟨e3,e4,e5,e6⟩:=ZMS h3 h4 h5;exact⟨_,_,_,_,Zig R,Zig aa,e3,e4,e5,λ_=>e6,j⟩;cases j
def Zl0 {ct l es} (h:All2 (RR ct) l es) {z} (j:ct.w=z):Zge es z=true:=by cases es with|nil=>rfl|cons c r=>cases l with|nil=>exact h.elim|cons x l=>have:=h.1.len;grind [Zge]
def ZyO (hT:TysOK P T) (hh:RH φ hp (λa=>H[a]?)) (aa:ZwT φ tm ρ) {t x V q lo hi k} (I:ZuX T t tm hp V lo hi k) (hx:ρ x=some q) (hV:RV φ V q):ValOK φ k (Zc1 P H ρ t x lo hi none):=by
 unfold ZuX at I;split at I;rename_i hk;have h1:=(hT.get hk sM).k;rw[hk]at h1;let⟨l',h',C,j,e1,R,J,e4,e5,_,I⟩:=Zk9 aa I
 rw[ZfH hV]at hx;simp[Zc1,hx,e1,R,Xad,ZcE,show P.underlying t=_ from h1,ZxM,e4 rfl,Xau,ZdT,ZKf];exact .mk (vs _) I;rename_i e hk;let⟨_,hu⟩:=Zfm hT hk
 split at I;cases I;rename_i hw ho;have hw:=Xay hw;have h0:=hT.get rfl (λe=>ho e);let⟨l',h',C,j,e1,R,J,e4,e5,e6,I⟩:=Zk9 aa I
 rcases ZjN hV with⟨rfl,rfl⟩|⟨es,rfl,ab⟩;simp[Xbq]at J;simp[Zc1,hx,e1,R,Xad,ZcE,hu,h0.sz,J,Xau,ZdT];refine .mk ?_ I;show RR _ _ _;exact .inl ⟨rfl,sM⟩;simp[Zc1,hx,e1,R,Xad,ZcE,hu,h0.sz,<-ab.len,J,ZdT];rw[if_pos (Zl0 ab hw)];refine .mk ?_ I;show RR _ _ _;exact .inr ⟨_,rfl,ab.take _|>.drop _⟩;cases I;rename_i e id i n m hk;let⟨_,hu⟩:=Zfm hT hk
 split at I;cases I;rename_i ct l b ad ho;have h0:=hT.get rfl (λe=>ho e);split at I;rename_i hw;have hw:=Xay hw;have fin: ∀l' h' C j M,Zrs ρ lo=some l'->Zrs ρ hi=some h'->ZcR n (m.getD n) l' h' none=some (C,j,m.getD n)->C<=j->(n<=m.getD n->j<=m.getD n)->Option.getD M (j-C)=m.getD n-C->k (.ref id (i+C) (j-C) M)->ValOK φ k (Zc1 P H ρ t x lo hi none):=by intro l' h' C j M e1 R J e5 e6 hM U;rcases hh.ref ad hV with⟨a,es,m',rfl,hp',ha,ab,_⟩|⟨rfl,rfl,rfl,rfl,hm,hp'⟩;simp[Zc1,hx,e1,R,Xad,ZcE,hu,h0.sz,J,ZdT,show H[a]? =_ from ha];rw[if_pos hw];refine .mk ?_ U;simp only[RV];exact .inl ⟨a,hp',by rw[hM]⟩;rw[hm]at J;simp[Zc1,hx,e1,R,Xad,ZcE,hu,h0.sz,J,Xau,ZdT];refine .mk ?_ U;have:=e6 (Xak _);rw[hm]at this;simp only[RV];exact .inr ⟨hp',trivial,oM,oM,by rw[hM];omega⟩
 split at I;rename_i j m' _ _;let⟨l',h',C,j,e1,R,J,e4,e5,e6,U⟩:=Zk9 aa I
 have j:j=n:=by simp only[ZdT,Xaj]at R;subst R;simp only[ZcR,ZEP,bMx,Option.isSome_none,Bool.false_and,Xbh,if_false,Xad]at J;(let⟨x,_,h4⟩:=Zam J);cases h4;rfl
 subst j;exact fin l' h' C _ none e1 R J e5 e6 rfl U;let⟨l',h',C,j,e1,R,J,e4,e5,e6,I⟩:=Zk9 aa I
 exact fin l' h' C j _ e1 R J e5 e6 rfl I;cases I;cases I;rename_i e hk;let⟨_,hu⟩:=Zfm hT hk
 split at I;cases I;rename_i ho;have h0:=hT.get rfl (λe=>ho e);let⟨l',h',C,j,e1,R,J,e4,e5,_,I⟩:=Zk9 aa I
 simp only[RV]at hV;subst hV;simp only[Zc1,hx,e1,R,Xad,ZcE,hu,h0.sz,J,Xau,ZdT];exact .mk (by simp only[RV]) I;cases I
def ZvG (hT:TysOK P T) (J:RH φ hp (λa=>H[a]?)) (C:ZwT φ tm ρ) {t:TypeId} {x:Operand} {V:SV} {q:PV} {lo hi j:Option Operand} {k:SV->Prop} (I:ZzC T t tm hp V lo hi j k) (R:ρ x=some q) (U:RV φ V q):ValOK φ k (Zc1 P H ρ t x lo hi j):=False.elim I
end
section
variable {P:Program} {h:Hints} {T:TypeId->TI} {φ:Ph} {hp:List SM} {H:List Mem} {tm:TM} {ρ:Operand->Option PV}
def ZsH (U:RH φ hp (λa=>H[a]?)) {ct:CT} {x:SV} {q:PV} {k:List ct.D->Prop} (j:Zrr ct hp x k) (I:RV φ x q): ∃new es,Zrg H q=some es/\All2 (RR ct) new es/\k new:=by
 unfold Zrr at j;split at j;simp[RV]at I;subst I;exact⟨[],[],rfl,trivial,j⟩;split at j;rename_i J;rcases ZjN I with⟨rfl,rfl⟩|⟨es,rfl,C⟩;exact⟨_,[],rfl,Zh6 J [] trivial,j⟩;exact⟨_,es,rfl,Zh6 J _ C,j⟩;cases j;split at j;rw[ZfH I];exact⟨_,_,rfl,Zmz _,j⟩;cases j;split at j;rename_i e l b R;split at j;rename_i J;let⟨hlen,j⟩:=j
 rcases U.ref R I with⟨a,es,m',rfl,hp',ha,C,_⟩|⟨rfl,rfl,rfl,rfl,_,_⟩;refine⟨_,_, ?_,Zh6 J _ (C.sub _ _),j⟩;have:=C.len;grind [Zrg,elems];exact⟨_,[],rfl,Zh6 J _ (show All2 (RR e) (sub [] 0 0) []from trivial),j⟩;cases j;cases j;cases j
def ZhN {hp:List SM} {id:Nat} {t:CT} {l:List t.D} {m:Bool} (h:nth hp id=some (.row t l m)):hp[id]? =some (.row t l m):=by rw[<-ZaA];exact h
def Zlc (R:RH φ hp (λa=>H[a]?)) {ct l es} (hl:All2 (RR ct) l es) {n n' m} (hm:m.getD n=n') {C} (I:C=n) {hlen} (j:hlen=hp.length) {Hl} (J:Hl=H.length) {k} (U:k (.ref hlen 0 n m) (hp++ [.row ct l true])):
 OutOK φ k (some (.ref Hl 0 C n',H++ [Mem.row es ct.w true])):=by grind [Zkl]
def ZtP {ct} (hw:ct.w=1): ∀ {new:List ct.D} {es:List (List PV)},All2 (RR ct) new es->All2 (λV c=> ∃q,c=[q]/\RV φ V q) (new.map λy=>SV.v ct y) es
 | [],[],_=>trivial
 |x::r,c::es,h=>by have hl:=RR.len h.1;rw[hw]at hl;match c,hl with| [q],_=>exact⟨⟨q,rfl,by simp;exact h.1⟩,ZtP hw h.2⟩
def ZmC (R:RH φ hp (λa=>H[a]?)) {ct C es} (hl:All2 (λV c=> ∃q,c=[q]/\RV φ V q) C es) {n n' U} (I:U=n) (hm:n=n') {hlen} (j:hlen=hp.length) {Hl} (J:Hl=H.length) {k} (hk:k (.ref hlen 0 n none) (hp++ [.many ct C true])):
 OutOK φ k (some (.ref Hl 0 U n',H++ [Mem.row es 1 true])):=by subst j J hm I;refine⟨_,_,φ++ [some H.length],_,_,rfl,Le.app _ _,R.push ?_, ?_,hk⟩;simp only[RM];exact⟨es,true,sM,All2.imp (λV c ⟨q,h1,h2⟩=>⟨q,h1,RV.mono (Le.app _ _) _ _ h2⟩) hl,λ_=>rfl⟩;simp only[RV];exact .inl ⟨_,ZjW R _,rfl⟩
def ZFK (U:RH φ hp (λa=>H[a]?)) {ct by_ z} (hz:ct.w=z) {s q new es k} (j:ZsN ct by_ hp s new k) (hs:RV φ s q) (hn:All2 (RR ct) new es):OutOK φ k (ZbQ H z by_ q es):=by
 subst hz;have C:=hn.len;unfold ZsN at j;split at j;simp[RV]at hs;subst hs;cases new with|nil=>(cases es with|cons _ _=>simp at C|nil=>exact⟨_,_,φ,_,_,rfl,Le.refl φ,U,by simp[RV],j⟩)|cons x r=>cases es with|nil=>simp at C|cons e es=>simp[Nat.add_right_cancel_iff]at C;(let⟨h1,h2⟩:=j);rw[C]at h1;simp[ZbQ,List.isEmpty_cons];rw[if_pos h1];exact Zlc U hn (n:=r.length+1) (n':=es.length+1) (m:=none) (by show r.length+1=_;omega) oM rfl rfl h2
 rename_i id i n m;split at j;rename_i e l J;split at j;rename_i hc;have he:=ZiB hc;subst he;let⟨hlen,j⟩:=j
 have aa: ∀xs,Zj1 e e hc xs=xs:=λxs=>rfl
 simp[aa]at j;rcases U.ref J hs with⟨a,es',m',rfl,hp',hL,R,hm⟩|⟨rfl,rfl,rfl,rfl,ab,hp'⟩;have hm:=hm rfl;subst hm;have hL:=hL;have af:=R.len;have ag:=(Xaf.1 hL).1
 have big: ∀ (x:e.D) (r:List e.D) (y:List PV) (ys:List (List PV)) (K:SV->List SM->Prop),All2 (RR e) (x::r) (y::ys)->m.getD n<n+(r.length+1)->
      ((n+(r.length+1))*by_<=140737488355328/\K (.ref hp.length 0 (n+(r.length+1)) none) (hp.set id .dead++ [.row e (sub l i n++x::r) true]))->OutOK φ K (ZbQ H e.w by_ (.ref a i n (m.getD n)) (y::ys)):=by
      intro x r y ys K ad ai hb;have I:=ad.len;simp[Nat.add_right_cancel_iff]at I;simp only[ZbQ,hL,List.isEmpty_cons,Xbh,if_false,Xao];rw[if_pos ⟨trivial,oM⟩,if_neg oM,if_pos (by rw[<-I];exact hb.1)];have hk:=U.killA (m:= .dead) (ZhN J) rfl hp';exact Zlc hk ((R.sub i n).app ad) (n:=n+(r.length+1)) (n':=n+(ys.length+1)) (m:=none) (by show n+(r.length+1)=_;omega) oM (hlen:=hp.length) sM (Hl:=H.length) sM hb.2
 cases new with|nil=>(cases es with|cons _ _=>simp at C|nil=>simp only[ZbQ,hL,List.isEmpty_nil,if_true];rw[if_pos ⟨trivial,oM⟩];exact⟨_,_,φ,_,_,rfl,Le.refl φ,U,hs,j⟩)|cons x r=>cases es with|nil=>simp at C|cons y ys=>have I:=C;simp[Xao,Nat.add_right_cancel_iff]at I;cases m with|none=>exact big x r y ys k hn (by simp only[Option.getD_none];omega) j|some c=>by_cases ae:n+(r.length+1)<=c;(let⟨h1,h2⟩:=j.1 ae);simp only[ZbQ,hL,List.isEmpty_cons,Xbh,if_false,Xao,Option.getD_some];rw[if_pos ⟨trivial,oM⟩,if_pos oM,if_pos oM];refine⟨_,_,φ,_,_,rfl,Le.refl φ,U.set (ZhN J) rfl hp' ?_, ?_,h2⟩;simp only[RM];exact⟨_,true,XaN ag,R.spl _ hn,λ_=>rfl⟩;simp only[RV];exact .inl ⟨a,hp',by rw[I];rfl⟩;exact big x r y ys k hn (by simp[Option.getD_some];omega) (j.2 oM)
 cases new with|nil=>(cases es with|cons _ _=>simp at C|nil=>exact⟨_,_,φ,_,_,rfl,Le.refl φ,U,hs,j⟩)|cons x r=>cases es with|nil=>simp at C|cons y ys=>have I:=C;simp[Xao,Nat.add_right_cancel_iff]at I;have hb:(0+(r.length+1))*by_<=140737488355328/\k (.ref hp.length 0 (0+(r.length+1)) none) (hp.set id .dead++ [.row e (sub [] 0 0++x::r) true]):=(by cases m with|none=>exact j|some c=>simp only[Option.getD_some]at ab;subst ab;exact j.2 oM);(let⟨h1,h2⟩:=hb);simp only[ZbQ,List.isEmpty_cons,Xbh,if_false,Xao];rw[if_pos (by rw[<-I];simpa using h1)];exact Zlc (U.kill id) (l:=sub [] 0 0++x::r) hn (n:=0+(r.length+1)) (n':=ys.length+1) (m:=none) (by show 0+(r.length+1)=_;omega) oM (hlen:=hp.length) sM rfl h2
 cases j;rename_i e ah J;obtain⟨hw,rfl,rfl,rfl,j⟩:=j;cases new with|nil=>exact j.elim|cons x r=>cases es with|nil=>simp at C|cons y ys=>have I:=C;simp only[Xao,Nat.add_right_cancel_iff]at I;have hv:All2 (λV c=> ∃q,c=[q]/\RV φ V q) ((x::r).map λy=>SV.v ct y) (y::ys):=ZtP hw hn;rw[hw];rcases U.refM J hs with⟨a,es',m',rfl,hp',hL,R,hm⟩|⟨rfl,rfl,_,_,_,hp'⟩;have hm:=hm rfl;subst hm;have hL:=hL;have af:=R.len;simp only[ZbQ,hL,List.isEmpty_cons,Xbh,if_false,Xao,Option.getD_none];rw[if_pos ⟨trivial,oM⟩,if_neg oM,if_pos (by rw[<-I];exact j.1)];have hk:=U.killA (m:= .dead) (by rw[<-ZaA];exact J) rfl hp';have e1:(es'.drop 0).take ah.length=es':=(by rw[XaP,Xax oM]);rw[e1];exact ZmC hk (R.app hv) oM oM (hlen:=hp.length) sM (Hl:=H.length) sM j.2;simp only[ZbQ,List.isEmpty_cons,Xbh,if_false,Xao];rw[if_pos (by rw[<-I];simpa using j.1)];exact ZmC (U.kill id) hv (n:=0+(r.length+1)) (n':=ys.length+1) oM oM (hlen:=hp.length) sM rfl j.2
 cases j;cases j
def RH.empty' {L}:RH [] [] L:=⟨rfl,λid sm o h=>by simp at h,λid j sm C a _ h=>by simp at h⟩
def ZvX (hT:TysOK P T) (hh:RH φ hp (λa=>H[a]?)) {ts s x a q k} (C:Zfs h T ts.toList hp s x k) (hs:RV φ s a) (hx:RV φ x q):OutOK φ k (Zev P h H ts a q):=by
 unfold Zfs at C;split at C
 ·rename_i t t2 r R;have h0:ts[0]? =some t:=(by rw[<-Array.getElem?_toList,R];rfl);have h1:ts[1]? =some t2:=(by rw[<-Array.getElem?_toList,R];rfl);split at C;cases C;cases C
  ·rename_i e hk J I;(let⟨U,_⟩:=Zfm hT hk);have aa:Zf9 P (ts[1]?)=true:=by
    rw[h1];(let⟨u,hu⟩:=KM.some (hT.get rfl (λe=>I e)).k (λe=>I e));simp[Zf9,hu];cases u<;>first
     |rfl
     |skip
    rename_i kk;have j:=(hT.get rfl (λe=>I e)).k;exfalso;revert j J I;cases ai:(T t2).k<;>intro J I j<;>simp only[KM]at j<;>first
     |(rw[hu]at j;cases j;done)
     |(let⟨_,j,_⟩:=j;rw[hu]at j;cases j;done)
     |(let⟨_,j⟩:=j;rw[hu]at j;cases j;done)
     |(let⟨_,_,_,j⟩:=j;rw[hu]at j;cases j;done)
     |(let⟨_,_,j,_⟩:=j;rw[hu]at j;cases j;done)
     |(let⟨_,_,_,j,_⟩:=j;rw[hu]at j;cases j;done)
     |exact J _ rfl
     |exact I rfl
   split at C;cases C;rename_i ct ab hb ho;simp only[Xas]at hb;have ad:=Xam hb.1;have ae:=Xam hb.2;have he:=hT.get rfl (λe=>ho e);(let⟨zs,hz,aj,af⟩:=he.zero);(let⟨hw,_⟩:=he.ct ct ab);have fin: ∀ (H':List Mem) (x':PV) (new:List ct.D) (es:List (List PV)) (hp':List SM),RH φ hp' (λa=>H'[a]?)->Zrg H' x'=some es->All2 (RR ct) new es->ZsN ct (T e).by_ hp' s new k->OutOK φ k (Zet P H' ts a x'):=by intro H' x' new es hp' ag h3 h4 h5;have:Zet P H' ts a x'=ZbQ H' (T e).sz (T e).by_ a es:=(by simp only[Zet,h0,Xad,U,he.sz,he.by_,hz,h3];rw[if_pos ⟨aa,ad,ae,af,Zl0 h4 hw⟩]);rw[this];exact ZFK ag hw h5 hs h4
   have ah:Am.frzT h ts=h.frz t:=(by simp[Am.frzT,h0]);unfold Zev;rw[ah];split at C;rename_i hf;(let⟨q',V',e1,e2,e3,e5⟩:=ZkY hh 40 x q _ C hx);rw[hf,cond_true,show exp ZaZ H q=some q' from e1,Xad];(let⟨new,es,g1,g2,g3⟩:=ZsH (H:=Am.freeze (rch ZaZ H q) H) RH.empty' e3 e2);exact fin _ q' new es _ (Zjt hh e5) g1 g2 g3;rename_i hf;(let⟨new,es,e1,e2,e3⟩:=ZsH hh C hx);rw[hf,cond_false];exact fin _ q new es _ hh e1 e2 e3;cases C
  cases C
 cases C
def ZA9 (hT:TysOK P T) (U:RH φ hp (λa=>H[a]?)) {ts d x a q k} (J:ZHs T ts.toList hp d x k) (hd:RV φ d a) (hx:RV φ x q):OutOK φ k (ZvS P H ts a q):=by
 unfold ZHs at J;split at J;rename_i t r ad;have h0:ts[0]? =some t:=by rw[<-Array.getElem?_toList,ad];rfl
 split at J;rename_i e hk;let⟨aa,_⟩:=Zfm hT hk
 split at J;cases J;rename_i ct ae hb ho;have hb:=Xam hb;have he:=hT.get rfl (λe=>ho e);let⟨hw,_⟩:=he.ct ct ae
 let⟨new,es,e1,e2,I⟩:=ZsH U J hx
 simp[ZvS,h0,aa,he.sz,e1];rw[if_pos ⟨hb,Zl0 e2 hw⟩];split at I;simp[RV]at hd;subst hd;exact⟨_,_,φ,_,_,rfl,Le.refl φ,U,vi _ _,I⟩;rename_i id i n m;split at I;rename_i e' l C;split at I;rename_i hc;have af:=ZiB hc;subst af;let⟨hlen,I⟩:=I
 rcases U.ref C hd with⟨b,es',m',rfl,hp',hL,ab,hm⟩|⟨rfl,rfl,rfl,rfl,ag,hp'⟩;have hm:=hm rfl;subst hm;have hL:=hL;have ah:=ab.len;have R:=(Xaf.1 hL).1;simp[hL];rw[if_pos ⟨hw,oM⟩];refine⟨_,_,φ,_,_,rfl,Le.refl φ,U.set (ZhN C) rfl hp' ?_, ?_,I⟩;simp only[RM];rw[hw];exact⟨_,true,XaN R,ab.spl _ (e2.take _),λ_=>rfl⟩;rw[<-e2.len];exact vi _ _;refine⟨_,_,φ,_,_,rfl,Le.refl φ, ?_, ?_,I⟩;have R:=(Xaf.1 (ZhN C)).1;have:(hp.set id (.row e' (spl (Zj1 e' e' hc []) 0 (new.take 0)) true))=hp:=by apply XaR;intro j;by_cases hj:j=id;subst hj;rw[XaN R,ZhN C];rfl;rw[XaL (λe=>hj e.symm)]
 rw[this];exact U;simp;exact vi _ _;cases I;cases I;cases I;cases J;cases J;cases J
def ZxO (hT:TysOK P T) (C:RH φ hp (λa=>H[a]?)) {ts:Array TypeId} {d:SV} {a:PV} {k:SV->List SM->Prop} (j:ZD3 T ts.toList hp d k) (hd:RV φ d a):OutOK φ k (Zmt P H ts a):=False.elim j
mutual
theorem RV.shift {C:Ph} (φ:Ph): ∀ (V:SV) (q:PV),RV C V q->RV (φ++C) (shS φ.length V) q
 | .v _ _,_,h| .nilp,_,h| .nils,_,h| .nilf,_,h| .nili,_,h| .nilmp,_,h| .box _ _ _,_,h=>by simpa only[RV,shS]using h
 | .mp id,q,h=>by have e:(φ++C)[φ.length+id]? =C[id]? :=(by rw[Xaw (by omega)];congr 1;omega);simp only[RV,shS,e]at h|-;exact h
 | .ref id i n m,q,h=>by have e:(φ++C)[φ.length+id]? =C[id]? :=(by rw[Xaw (by omega)];congr 1;omega);simp only[RV,shS,e]at h|-;exact h
 | .ptr id i r,q,h=>by have e:(φ++C)[φ.length+id]? =C[id]? :=(by rw[Xaw (by omega)];congr 1;omega);simp only[RV,shS,e]at h|-;exact h
 | .func f a c,q,h=>by simp only[RV,shS]at h|-;obtain⟨R,U,I,J,h3⟩:=h;exact⟨R,U,I,RL.shift φ a R J,RL.shift φ c U h3⟩
 | .agg cs,q,h=>by simp only[RV,shS]at h|-;obtain⟨j,I,J⟩:=h;exact⟨j,I,RL.shift φ cs j J⟩
 | .tup cs,q,h=>by simp only[RV,shS]at h|-;obtain⟨j,I,J⟩:=h;exact⟨j,I,RL.shift φ cs j J⟩
theorem RL.shift {C:Ph} (φ:Ph): ∀ (l:List SV) (j:List PV),RL C l j->RL (φ++C) (shL φ.length l) j
 | [],_,h=>by simpa only[RL,shL]using h
 |v::vs,j,h=>by simp only[RL,shL]at h|-;obtain⟨q,r,I,J,R⟩:=h;exact⟨q,r,I,RV.shift φ v q J,RL.shift φ vs r R⟩
end
def Zmv {C} φ: ∀ {j:List SV} {es:List (List PV)},All2 (λV c=> ∃q,c=[q]/\RV C V q) j es->All2 (λV c=> ∃q,c=[q]/\RV (φ++C) V q) (shL φ.length j) es
 | [],[],_=>trivial
 |V::j,c::es,h=>by(let⟨⟨q,I,J⟩,R⟩:=h);exact⟨⟨q,I,RV.shift φ V q J⟩,Zmv φ R⟩
def Zoc b: ∀l,ZwY b l=l.map (shH b)
 | []=>rfl
 |m::r=>by simp[ZwY,Zoc b r]
def ZrA b m:live (shH b m)=live m:=by cases m<;>rfl
def RH.join (hh:RH φ hp (λa=>H[a]?)) {ψ hn rows} (hj:RH ψ hn (λa=>if H.length<=a then rows[a-H.length]? else none)):RH (φ++ψ) (hp++ZwY hp.length hn) (λa=>(H++rows)[a]?):=by
 have hlen:=hh.len;rw[Zoc];have cls: ∀ {id:Nat} {x:SM},(hp++hn.map (shH hp.length))[id]? =some x->(id<hp.length/\hp[id]? =some x/\(φ++ψ)[id]? =φ[id]?)\/(hp.length<=id/\ ∃y,hn[id-hp.length]? =some y/\x=shH hp.length y/\(φ++ψ)[id]? =ψ[id-hp.length]?):=by grind
 have Lold: ∀a,a<H.length->(H++rows)[a]? =H[a]? :=λa R=>Xan R
 have Lnew: ∀a m,(if H.length<=a then rows[a-H.length]? else none)=some m->H.length<=a/\(H++rows)[a]? =some m:=by grind
 refine⟨by simp[hlen,hj.len], ?_, ?_⟩;intro id x o hx ho;rcases cls hx with⟨hi,h1,h2⟩|⟨hi,y,hy,rfl,h2⟩;rw[h2]at ho;exact RM.mono (Le.app _ _) (λa R hl=>by subst R;exact Lold a (hh.lt h1 hl ho)) (hh.row _ _ _ h1 ho);rw[h2]at ho;have hm:=hj.row _ _ _ hy ho;cases y with|row t l m=>(simp only[RM]at hm|-;cases o with|none=>exact hm|some a=>(let⟨es,m',U,h4⟩:=hm);exact⟨es,m',(Lnew _ _ U).2,h4⟩)|cell cs m=>simp only[RM]at hm|-;obtain⟨a,ae,m',rfl,U,h4,h5⟩:=hm;exact⟨a,ae,m',rfl,(Lnew _ _ U).2,by rw[<-hlen];exact RL.shift φ cs ae h4,h5⟩|many ct aj m=>(simp only[RM]at hm|-;cases o with|none=>simp only at hm|-;rw[hm];rfl|some a=>(let⟨es,m',U,h4,h5⟩:=hm);refine⟨es,m',(Lnew _ _ U).2, ?_,h5⟩;rw[<-hlen];exact Zmv φ h4)|set ks=>simp only[RM]at hm|-;obtain⟨a,es,rfl,U,h4⟩:=hm;exact⟨a,es,rfl,(Lnew _ _ U).2,h4⟩|im t ks=>simp only[RM]at hm|-;obtain⟨a,es,rfl,U,h4⟩:=hm;exact⟨a,es,rfl,(Lnew _ _ U).2,h4⟩|dead=>trivial
 intro id ak x x' a ag hx af hl J R C;have new: ∀ (y:SM) (j:Nat),hn[j]? =some y->live y=true->ψ[j]? =some (some a)->H.length<=a:=by intro y j hy ah ai;(let⟨m,hm⟩:=(hj.row _ _ _ hy ai).ex ah);exact(Lnew _ _ hm).1
 rcases cls hx with⟨hi,h1,h2⟩|⟨hi,y,hy,rfl,h2⟩;rw[h2]at R;rcases cls af with⟨aa,ab,I⟩|⟨aa,y',ad,rfl,I⟩;rw[I]at C;exact hh.inj _ _ _ _ _ ag h1 ab hl J R C;rw[I]at C;rw[ZrA]at J;have:=new _ _ ad J C;have:=hh.lt h1 hl R;omega;rw[h2]at R;rw[ZrA]at hl;have:=new _ _ hy hl R;rcases cls af with⟨aa,ab,I⟩|⟨aa,y',ad,rfl,I⟩;rw[I]at C;have:=hh.lt ab J C;omega;rw[I]at C;rw[ZrA]at J;exact hj.inj _ _ _ _ _ oM hy ad hl J R C
def nm1:PV->Bool
 | .bool _| .int _ _| .str _| .nilp| .nils| .nilf| .nilm| .nili| .ifc _ _=>true
 | .lst es=>es.isEmpty
 |_=>false
theorem Zqt {V q} (hn:ZkC V=true) (j:RV φ V q):nm1 q=true:=by
 cases V with
 |v t x=>
  cases t<;>simp[ZkC]at hn<;>simp[RV,RR]at j<;>first
   |(subst j;rfl)
   |(subst j;cases x<;>rfl)
   |(cases hn;done)
 |nilp=>simp[RV]at j;subst j;rfl
 |nils=>simp[RV]at j;subst j;rfl
 |nilf=>simp[RV]at j;subst j;rfl
 |nili=>simp[RV]at j;subst j;rfl
 |nilmp=>simp[RV]at j;subst j;rfl
 |_=>cases hn
def Zqn: ∀ (l:List SV) (j:List PV),l.all ZkC=true->RL φ l j-> ∀c∈j,nm1 c=true:=by intro l;induction l with|nil=>intro j _ C c I;simp[RL]at C;subst C;simp at I|cons v r J=>intro j R C c I;obtain⟨U,r',rfl,h3,h4⟩:=C;grind [Zqt]
def ZBf {V q} (hn:ZzN V=true) (j:RV φ V q):Zji q=true:=by
 have one:ZkC V=true->Zji q=true:=by
  intro R;have:=Zqt R j;cases q<;>first
   |exact this
   |(cases this;done)
 cases V with
 |tup vs=>
  obtain⟨C,rfl,I⟩:=j;simp[Zji,XaH];intro c J;have:=Zqn vs C hn I c J;cases c<;>first
   |exact this
   |(cases this;done)
 |agg vs=>
  obtain⟨C,rfl,I⟩:=j;simp[Zji,XaH];intro c J;have:=Zqn vs C hn I c J;cases c<;>first
   |exact this
   |(cases this;done)
 |_=>exact one hn
def ZlK (C:RH φ hp (λa=>H[a]?)) {f args qs k} (hc:ZbY P h f args hp k) (ha:RL φ args qs):OutOK φ k (Zdv h (lim P h) f qs H):=by
 unfold ZbY at hc;unfold Zdv;split at hc;rename_i ho;rw[if_pos ho];let⟨v,H',φ',V,hp',J,I,j,h4,R⟩:=hc.out φ H qs C ha
 exact⟨v,H',φ',V,hp',J,I,j,h4,R⟩;rename_i ho;rw[if_neg (by rw[ho];simp)];let⟨U,l',e1,e2,e3,e4⟩:=ZGJ C hc ha
 unfold ZiO;rw[e1,Xad];split at e3;rename_i hi;rw[hi,cond_true];let⟨v,rows,sf,ψ,V,hn,ab,J,I,j,h4,R⟩:=e3.out U e2 H.length
 simp[ZFH,J];have join: ∀ (H':List Mem) (hp':List SM),H'.length=H.length->hp'.length=hp.length->RH φ hp' (λa=>H'[a]?)->k (shS hp.length V) (hp'++ZwY hp.length hn)->OutOK φ k (some (v,H'++rows)):=by intro H' hp' ad ae af hk;rw[<-ad]at j;have:=af.join j;rw[ae]at this;refine⟨_,_,φ++ψ,_,_,rfl,Le.app _ _,this, ?_,hk⟩;have:=RV.shift φ V v I;rw[C.len]at this;exact this
 have fl: ∀ids (hp:List SM),(frzT hp ids).length=hp.length:=by intro ids;induction ids with|nil=>intro hp;rfl|cons i r ih=>grind [frzT,frz1]
 cases ab with|true=>rw[h4 rfl];exact join H hp rfl rfl C R|false=>cases sf with|true=>exact join H (frzT hp (ZdC hp args)) rfl (fl _ _) (Zs2 _ C) R|false=>exact join _ _ (ZaX _ _) (fl _ _) (Zjt C e4) R
 rename_i hi;rw[hi,cond_false];let⟨q,V,J,I,j⟩:=e3.out U e2
 simp[ZrS,J];have aa:RV φ V q:=RV.mono (λi o h=>by simp at h) V q I;split at j;rename_i hm;rw[if_pos hm];simp[XaQ];exact⟨_,_,φ,_,_,rfl,Le.refl φ,Zjt C e4,aa,j⟩;rename_i hm;rw[if_neg (by rw[hm];simp)];split at j;rename_i ag;rw[if_pos (ZBf ag I)];simp[XaQ];exact⟨_,_,φ,_,_,rfl,Le.refl φ,C,aa,j⟩;cases j
def ZDf (hT:TysOK P T) (U:RH φ hp (λa=>H[a]?)) (aa:ZwT φ tm ρ) {c k} (j:Zhd P h T c tm hp k):OutOK φ k (ZiJ P h (lim P h) H ρ c):=by
 let⟨callee,args,ts⟩:=c
 unfold Zhd at j;split at j;cases j;rename_i vs ab;let⟨qs,J,I⟩:=Zkx aa ab
 simp only at J j;split at j;split at j;obtain⟨q,rfl,C⟩:=RL1 I;split at j;rename_i t r ad;have h0:ts[0]? =some t:=by rw[<-Array.getElem?_toList,ad];rfl
 show OutOK φ k (Zcz H (Zcv P H ρ _ _));simp[Zcv,J,Zcg,h0];exact .of_val U (ZER hT j C);cases j;simp[RL]at I;obtain⟨q,r',rfl,C,R⟩:=I;show OutOK φ k (Zcz H (Zcv P H ρ _ _));simp[Zcv,J];exact .of_val U (ZoK false j C R);simp[RL]at I;obtain⟨q,r',rfl,C,R⟩:=I;show OutOK φ k (Zcz H (Zcv P H ρ _ _));simp[Zcv,J];exact .of_val U (ZoK true j C R);simp only[RL]at I;obtain⟨q,r',rfl,C,q2,r2,rfl,R,rfl⟩:=I;show OutOK φ k (Zfd P h H ρ _);simp[Zfd,J];exact ZvX hT U j C R;simp only[RL]at I;obtain⟨q,r',rfl,C,q2,r2,rfl,R,rfl⟩:=I;show OutOK φ k (Zst P H ρ _);simp[Zst,J];exact ZA9 hT U j C R;simp only[RL]at I;obtain⟨q,r',rfl,C,rfl⟩:=I;show OutOK φ k (Zkw P H ρ _);simp[Zkw,J];exact ZxO hT U j C;cases j;rename_i f;have e:=ZIQ (P:=P) (h:=h) (E:=lim P h) (H:=H) (ρ:=ρ) f args ts;show OutOK φ k (opE P h (lim P h) H ρ (.call ⟨.value (.func f),args,ts⟩));rw[e,J,Xad];exact ZlK U j I;rename_i x hx;split at j;rename_i f a d hf;let⟨q,h1,C⟩:=aa _ _ hf
 simp[RV]at C;obtain⟨a',d',rfl,R,h4⟩:=C;have:ZiJ P h (lim P h) H ρ ⟨.value x,args,ts⟩=Zzy h (lim P h) H ρ x ⟨.value x,args,ts⟩:=by
     cases x<;>first
      |rfl
      |(rename_i g;exact absurd rfl (hx g))
 rw[this];simp only[Zzy,h1,J];exact ZlK U j ((R.app I).app h4);cases j;cases j
def TysOK.smap {P T} (hT:TysOK P T) {t} (j:(T t).k= .smap): ∃k e,P.underlying t=some (.map k e)/\Zjs P t=some (.string,e)/\Zef P e=some (.bool false):=by have h:=(hT.get j sM).k;rw[j]at h;exact h
def ZCn (j:RH φ hp (λa=>H[a]?)) {k:SV->List SM->Prop} (C:k (.mp hp.length) (hp++ [.set []])):OutOK φ k (Zj6 H (some (.map H.length,[Mem.map []],[]))):=by refine⟨_,_,φ++ [some H.length],_,_,rfl,Le.app _ _,j.push ?_, ?_,C⟩;simp only[RM];exact⟨_,[],rfl,sM,trivial⟩;simp only[RV];grind [ZjW]
abbrev ZKj (k:List UInt8) (e:PV×PV):Prop:=e=(.str ⟨List.toArray k⟩, .bool true)
def RH.mp (j:RH φ hp (λa=>H[a]?)) {id:Nat} {ks:List (List UInt8)} {q:PV} (hn:nth hp id=some (.set ks)) (C:RV φ (.mp id) q): ∃a es,φ[id]? =some (some a)/\H[a]? =some (.map es)/\All2 ZKj ks es/\q= .map a:=by obtain⟨a,I,rfl⟩:=C;rw[ZaA]at hn;have hm:=j.row _ _ _ hn I;simp only[RM]at hm;grind
def Zs5 {s:List UInt8}: ∀ {ks:List (List UInt8)} {es:List (PV×PV)},All2 ZKj ks es->ZdX (.s ⟨s.toArray⟩) es=some (bif ZwO s ks then some (.bool true)else none)
 | [],[],_=>rfl
 |k::ks,e::es,h=>by obtain⟨rfl,j⟩:=h;rw[ZdX,ZwO];show(some (s==k)).bind _=_;cases C:(s==k)with|true=>rfl|false=>simp[Xad,(Zs5 (s:=s) j),cond_false]
def Zyr {s:List UInt8}: ∀ {ks:List (List UInt8)} {es:List (PV×PV)},All2 ZKj ks es-> ∃es',Zdy (.s ⟨s.toArray⟩) (.bool true) es=some es'/\All2 ZKj (ZCH s ks) es'
 | [],[],_=>⟨_,rfl,rfl,trivial⟩
 |k::ks,e::es,h=>by obtain⟨rfl,j⟩:=h;(let⟨es',C,I⟩:=Zyr (s:=s) j);have e:Zdy (.s ⟨s.toArray⟩) (.bool true) ((.str ⟨k.toArray⟩, .bool true)::es)=(some (s==k)).bind λb=>bif b then some ((.str ⟨s.toArray⟩, .bool true)::es)else(Zdy (.s ⟨s.toArray⟩) (.bool true) es).map ((.str ⟨k.toArray⟩, .bool true):: ·):=(by rw[Zdy];rfl);rw[e,ZCH,C];cases J:(s==k)with|true=>have R:=eq_of_beq J;subst R;exact⟨_,rfl,rfl,j⟩|false=>exact⟨_,rfl,rfl,I⟩
def TysOK.imap {P:Program} {T:TypeId->TI} (hT:TysOK P T) {t:TypeId} {c:CT} (j:(T t).k= .imap c): ∃k e z,P.underlying t=some (.map k e)/\Zjs P t=some (.int .i64,e)/\Zef P e=some z/\RR c c.z [z]:=by have h:=(hT.get j sM).k;rw[j]at h;exact h
def ZGT (c:CT) (j:RH φ hp (λa=>H[a]?)) {k:SV->List SM->Prop} (C:k (.mp hp.length) (hp++ [.im c []])):OutOK φ k (Zj6 H (some (.map H.length,[Mem.map []],[]))):=by refine⟨_,_,φ++ [some H.length],_,_,rfl,Le.app _ _,j.push ?_, ?_,C⟩;simp only[RM];exact⟨_,[],rfl,sM,trivial⟩;simp only[RV];grind [ZjW]
abbrev ImR (c:CT) (k:Int×c.D) (e:PV×PV):Prop:=e.1= .int .i64 k.1/\RR c k.2 [e.2]
def RH.im (j:RH φ hp (λa=>H[a]?)) {id:Nat} {c:CT} {ks:List (Int×c.D)} {q:PV} (hn:nth hp id=some (.im c ks)) (C:RV φ (.mp id) q): ∃a es,φ[id]? =some (some a)/\H[a]? =some (.map es)/\All2 (ImR c) ks es/\q= .map a:=by obtain⟨a,I,rfl⟩:=C;rw[ZaA]at hn;have hm:=j.row _ _ _ hn I;simp only[RM]at hm;grind
def ZAH {c:CT} {s:Int} {z:PV} (j:RR c c.z [z]): ∀ {ks:List (Int×c.D)} {es:List (PV×PV)},All2 (ImR c) ks es-> ∃r,ZdX (.i .i64 s) es=some r/\RR c (Zin c.z s ks) [r.getD z]
 | [],[],_=>⟨none,rfl,j⟩
 |k::ks,(e1,C)::es,h=>by
  (let⟨⟨I,J⟩,R⟩:=h);(let⟨r,U,h5⟩:=ZAH (s:=s) j R);subst I;rw[ZdX,Zin];show ∃r,(some (s==k.1)).bind _=_/\_
  cases hb:(s==k.1)with|true=>exact⟨some C,rfl,J⟩|false=>exact⟨r,by simp[Xad,U,cond_false],h5⟩
def ZDS {c s v q} (j:RR c v [q]): ∀ {ks:List (Int×c.D)} {es:List (PV×PV)},All2 (ImR c) ks es-> ∃es',Zdy (.i .i64 s) q es=some es'/\All2 (ImR c) (Zu7 s v ks) es'
 | [],[],_=>⟨_,rfl,⟨rfl,j⟩,trivial⟩
 |k::ks,(e1,C)::es,h=>by(let⟨⟨J,R⟩,I⟩:=h);(let⟨es',U,h5⟩:=ZDS (s:=s) j I);subst J;have e:Zdy (.i .i64 s) q ((.int .i64 k.1,C)::es)=(some (s==k.1)).bind λb=>bif b then some ((.int .i64 s,q)::es)else(Zdy (.i .i64 s) q es).map ((.int .i64 k.1,C):: ·):=(by rw[Zdy];rfl);rw[e,Zu7,U];cases hb:(s==k.1)with|true=>exact⟨_,rfl,⟨rfl,j⟩,I⟩|false=>exact⟨_,rfl,⟨rfl,R⟩,h5⟩
def Zzk {c e} (h:ceq c e=true) {x q} (j:RR c x [q]):RR e (ZJd c e h x) [q]:=by have he:=ZiB h;subst he;exact j
def KM.notIfc {P t k} (h:KM P t k) (j:(∃i,k= .int i)\/k= .str):notIfc P t=true:=by rcases j with⟨i,rfl⟩|rfl;simp[KM]at h;unfold Am.notIfc;rw[h];simp[KM]at h;unfold Am.notIfc;rw[h]
def ZwL (hT:TysOK P T) {y:AV} {u:TypeId} {ok:Bool} {k:SV->Prop} {q:PV} (ho:Zya T y u ok k) (j:RV φ (.v .any y) q):ValOK φ k (Zhc P (some q) u ok):=False.elim ho
def ZAm (hT:TysOK P T) (hh:RH φ hp (λa=>H[a]?)) (C:ZwT φ tm ρ) {op k} (ho:opT P h T op tm hp k):OutOK φ k (opE P h (lim P h) H ρ op):=by
 have mv: ∀x,(match evS tm x with|some V=>k V hp|none=>False)->OutOK φ k (Zcz H (ρ x)):=by intro x hx;split at hx;rename_i V U;(let⟨q,I,R⟩:=C _ _ U);rw[I];exact .of_val hh ⟨q,V,rfl,R,hx⟩;cases hx
 unfold opT at ho;split at ho;exact mv _ ho;exact mv _ ho;rename_i c a b;split at ho;rename_i t U;let⟨q,I,R⟩:=C _ _ U
 rw[Zff R]at I;show OutOK φ k (Zcz H (Zwt ρ c a b));simp[Zwt,I];cases t with|true=>exact mv a (ho.1 rfl)|false=>exact mv b (ho.2 rfl)
 cases ho;rename_i t;split at ho;cases ho;rename_i hk;have h0:=hT.get rfl (λe=>hk e);let⟨zs,hz,ah,aj⟩:=h0.zero
 show OutOK φ k (Zj6 H (Zqg P H.length t));simp[Zqg,hz];exact Zqu hh (ah φ) ho;rename_i x;split at ho;rename_i V U;let⟨q,I,R⟩:=C _ _ U
 split at ho;rename_i hn;let⟨h3,h4⟩:=Zdp hn R
 show OutOK φ k (Zj6 H (ZIC H.length (ρ x)));simp[ZIC,I,Xad,h4,Xau];exact Zqu hh h3 ho;cases ho;cases ho;split at ho;rename_i l hl;let⟨qs,I,R⟩:=Zlm C hl
 show OutOK φ k (Zcz H (ZmN P ρ _ _));simp only[ZmN,Zhj,I,Xad];exact .of_val hh (Zx5 hT ho R);cases ho;rename_i t n ps;split at ho;rename_i l hl;let⟨qs,I,R⟩:=Zlm C hl
 show OutOK φ k (Zj6 H (ZcG P H.length ρ t n ps));have:=Zml hT hh ho R;simp only[ZcG,Zhj,I,Xad];cases hm:ZbM P t n qs with|none=>rw[hm]at this;(let⟨_,_,_,_,_,h3,_⟩:=this);cases h3|some m=>rw[hm]at this;exact this
 cases ho;rename_i t a;split at ho;rename_i V U;let⟨q,I,R⟩:=C _ _ U
 show OutOK φ k (Zcz H (Zn6 P H t (ρ a)));simp[Zn6,I,Xad];exact .of_val hh (ZtW hT hh ho R);cases ho;rename_i x;show OutOK φ k (Zcz H (ZdL (ρ x)));split at ho;rename_i U;let⟨q,I,R⟩:=C _ _ U
 have aa:=R;simp[RV]at aa;obtain⟨a,_,rfl⟩:=aa;simp[ZdL,I,Xad];exact .of_val hh (.mk R ho);rename_i U;let⟨q,I,R⟩:=C _ _ U
 have aa:=R;simp[RV]at aa;obtain⟨a,rfl,_⟩:=aa;simp[ZdL,I,Xad];exact .of_val hh (.mk R ho);rename_i U;let⟨q,I,R⟩:=C _ _ U
 have aa:=R;simp[RV]at aa;obtain⟨_,_,rfl,_⟩:=aa;simp[ZdL,I,Xad];exact .of_val hh (.mk R ho);cases ho;rename_i x y _;split at ho;rename_i a b ha hb;let⟨q,I,R⟩:=C _ _ ha
 let⟨q',ad,aa⟩:=C _ _ hb
 show OutOK φ k (Zcz H (Zsh P _ _ y (ρ x) (ρ y)));let⟨r,V,h3,h4,h5⟩:=ZFn hT ho R aa
 rw[Zv9 (show ZKq P _ _ (ρ x) (ρ y)=some r by simp[ZKq,I,ad,Xad,h3])];exact .of_val hh (.mk h4 h5);cases ho;rename_i x;split at ho;rename_i a ha;let⟨q,I,R⟩:=C _ _ ha
 show OutOK φ k (Zcz H (aUn _ (ρ x)));simp[aUn,I,Xad];exact .of_val hh (ZJv ho R);cases ho;rename_i x;split at ho;rename_i a ha;let⟨q,I,R⟩:=C _ _ ha
 show OutOK φ k (Zcz H (Zx6 P H _ _ (ρ x)));simp[Zx6,I,Xad];exact .of_val hh (ZCG hT hh ho R);cases ho;rename_i t x;split at ho;rename_i k0 k' n hk U;let⟨q,I,R⟩:=C _ _ U
 have hi:=hT.get hk sM;show OutOK φ k (Zcz H (Zh4 P t (ρ x)));rw[I,Zc0 R];simp[Zh4,Xad,(hk▸hi.k:KM P t (.int k0)).notIfc (.inl ⟨_,rfl⟩),cond_true,ZHR,Xau];exact .of_val hh (.mk (by simp[RV,RR];rfl) ho);rename_i s hk U;let⟨q,I,R⟩:=C _ _ U
 have hi:=hT.get hk sM;show OutOK φ k (Zcz H (Zh4 P t (ρ x)));rw[I,ZfH R];simp[Zh4,Xad,(hk▸hi.k:KM P t .str).notIfc (.inr rfl),cond_true,ZHR,Xau];exact .of_val hh (.mk (by simp[RV,RR];rfl) ho);cases ho;rename_i x xt u ok;split at ho;rename_i y U;let⟨q,I,R⟩:=C _ _ U
 show OutOK φ k (Zcz H (Zhc P (ρ x) u ok));rw[I];exact .of_val hh (ZwL hT ho R);cases ho;split at ho;split at ho;rename_i a c ha hc;let⟨q,I,R⟩:=Zkx C ha
 let⟨q',ad,aa⟩:=Zkx C hc
 show OutOK φ k (Zcz H (ZvU ρ _ _ _));simp[ZvU,I,ad,Xad,Xau];refine .of_val hh (.mk ?_ ho);simp only[RV];exact⟨_,_,rfl,R,aa⟩;cases ho;cases ho;exact ZnL hT hh C ho;split at ho;rename_i V U;let⟨q,I,R⟩:=C _ _ U
 exact .of_val hh (ZyO hT hh C ho I R);rename_i V U;let⟨q,I,R⟩:=C _ _ U
 exact .of_val hh (ZvG hT hh C ho I R);cases ho;rename_i x _;split at ho;rename_i V U;let⟨q,I,R⟩:=C _ _ U
 show OutOK φ k (Zcz H (ZgA P _ (ρ x) _));simp only[ZgA,I,Xad];exact .of_val hh (ZnW hT ho R);cases ho;rename_i x _;split at ho;rename_i V U;let⟨q,I,R⟩:=C _ _ U
 show OutOK φ k (Zcz H (Zs8 P _ (ρ x) _));simp only[Zs8,I,Xad];exact .of_val hh (ZAy hT ho R);cases ho;rename_i x j;split at ho;rename_i V J U hJ;let⟨q,I,R⟩:=C _ _ U
 let⟨q',ad,aa⟩:=C _ _ hJ
 show OutOK φ k (Zcz H (Zbc P H _ (ρ x) (ρ j)));simp only[Zbc,I,ad,Xad];exact .of_val hh (ZoT hT hh ho R aa);cases ho;rename_i x j;split at ho;rename_i V J U hJ;let⟨q,I,R⟩:=C _ _ U
 let⟨q',ad,aa⟩:=C _ _ hJ
 show OutOK φ k (Zcz H (Zs9 P _ (ρ x) (ρ j)));simp only[Zs9,I,ad,Xad];exact .of_val hh (Zxd hT ho R aa);cases ho;rename_i x i;split at ho;rename_i vs U;let⟨q,I,R⟩:=C _ _ U
 simp only[RV]at R;obtain⟨qs,rfl,R⟩:=R;split at ho;rename_i V hn;rw[ZaA]at hn;let⟨q,h3,h4⟩:=R.get hn
 show OutOK φ k (Zcz H (Zfa (ρ x) i));simp only[Zfa,I,Xad,h3];exact .of_val hh (.mk h4 ho);cases ho;cases ho;exact ZDf hT hh C ho;rename_i t a x;split at ho;rename_i A V hA U;let⟨q,I,R⟩:=C _ _ hA
 let⟨q',ad,aa⟩:=C _ _ U
 show OutOK φ k (ZfW P H t (ρ a) (ρ x));rw[I,ad];exact Zyu hT hh ho R aa;cases ho;rename_i t r;split at ho;rename_i hk;let⟨kk,e,_,I,_⟩:=hT.smap hk
 show OutOK φ k (Zj6 H (Zeb P H.length t none));simp only[Zeb,I,Xau];exact ZCn hh ho;rename_i c hk;let⟨kk,e,z,_,I,_⟩:=hT.imap hk
 show OutOK φ k (Zj6 H (Zeb P H.length t none));simp only[Zeb,I,Xau];exact ZGT c hh ho;cases ho;rename_i t x j ok;split at ho;rename_i id s hk U hJ;let⟨kk,e,_,I,hz⟩:=hT.smap hk
 let⟨q,e1,e2⟩:=C _ _ U
 let⟨q',ae,ab⟩:=C _ _ hJ
 split at ho;rename_i ks hn;obtain⟨a,es,ag,ha,af,rfl⟩:=hh.mp hn e2;show OutOK φ k (Zcz H (Zhx P H t (ρ x) (ρ j) false));rw[e1,ae,ZfH ab];simp only[Zhx,Xad,Zd3,I,Am.keyOf,Zgs,cond_true,Zo5,ha,Zs5 af,hz];refine .of_val hh ?_;cases hb:ZwO s ks with|true=>rw[hb]at ho;show ValOK φ _ (some (.bool true));exact .mk (vb true) ho|false=>rw[hb]at ho;show ValOK φ _ (some (.bool false));exact .mk (vb false) ho
 cases ho;rename_i ce id s hk U hJ;let⟨kk,e,z,_,I,hz,ah⟩:=hT.imap hk
 let⟨q,e1,e2⟩:=C _ _ U
 let⟨q',ae,ab⟩:=C _ _ hJ
 split at ho;rename_i c ks hn;split at ho;rename_i hc;have hc:=ZiB hc;subst hc;obtain⟨a,es,ag,ha,af,rfl⟩:=hh.im hn e2;let⟨r,R,h3⟩:=ZAH (s:=s) ah af
 have ab:q'= .int .i64 s:=by simpa only[RV,RR,List.cons.injEq,and_true]using ab
 subst ab;show OutOK φ k (Zcz H (Zhx P H t (ρ x) (ρ j) false));rw[e1,ae];simp only[Zhx,Xad,Zd3,I,Am.keyOf,Zgs,cond_true,Zo5,ha,R,hz];exact .of_val hh (.mk (V:= .v c (Zin c.z s ks)) (by simp only[RV];exact h3) ho);cases ho;cases ho;cases ho;rename_i t m j x;split at ho;rename_i id s hk U hJ hX;let⟨kk,e,_,I,hz⟩:=hT.smap hk
 let⟨q,e1,e2⟩:=C _ _ U
 let⟨q',ae,ab⟩:=C _ _ hJ
 let⟨q2,e3,e4⟩:=C _ _ hX
 split at ho;rename_i ks hn;obtain⟨a,es,ag,ha,af,rfl⟩:=hh.mp hn e2;let⟨es',h5,h6⟩:=Zyr (s:=s) af
 show OutOK φ k (Zsl P H t (ρ m) (ρ j) (ρ x));have hw:Zsl P H t (some (.map a)) (some (.str ⟨s.toArray⟩)) (some (.bool true))=some (.tup [],H.set a (.map es')):=by simp only[Zsl,I,Xad,Am.keyOf,Zgs,cond_true,ha,h5,Xau]
 rw[e1,ae,e3,ZfH ab,Zff e4,hw];rw[ZaA]at hn;have ai:=(Xaf.1 ha).1;refine⟨_,_,φ, .tup [],_,rfl,Le.refl φ,hh.set hn rfl ag ?_,by simp only[RV];exact⟨[],rfl,by simp only[RL]⟩,ho⟩;simp only[RM];exact⟨a,es',rfl,by rw[XaN ai],h6⟩;cases ho;rename_i ce id s c' v hk U hJ hX;let⟨kk,e,z,_,I,hz,ah⟩:=hT.imap hk
 let⟨q,e1,e2⟩:=C _ _ U
 let⟨q',ae,ab⟩:=C _ _ hJ
 let⟨q2,e3,e4⟩:=C _ _ hX
 split at ho;rename_i c ks hn;split at ho;rename_i hc;obtain⟨a,es,ag,ha,af,rfl⟩:=hh.im hn e2;have e4:RR c' v [q2]:=by simpa only[RV]using e4
 let⟨es',h5,h6⟩:=ZDS (s:=s) (Zzk hc e4) af
 have ab:q'= .int .i64 s:=by simpa only[RV,RR,List.cons.injEq,and_true]using ab
 subst ab;show OutOK φ k (Zsl P H t (ρ m) (ρ j) (ρ x));have hw:Zsl P H t (some (.map a)) (some (.int .i64 s)) (some q2)=some (.tup [],H.set a (.map es')):=by simp only[Zsl,I,Xad,Am.keyOf,Zgs,cond_true,ha,h5,Xau]
 rw[e1,ae,e3,hw];rw[ZaA]at hn;have ai:=(Xaf.1 ha).1;refine⟨_,_,φ, .tup [],_,rfl,Le.refl φ,hh.set hn rfl ag ?_,by simp only[RV];exact⟨[],rfl,by simp only[RL]⟩,ho⟩;simp only[RM];exact⟨a,es',rfl,by rw[XaN ai],h6⟩;cases ho;cases ho;cases ho;cases ho
end
end Go.Tx
