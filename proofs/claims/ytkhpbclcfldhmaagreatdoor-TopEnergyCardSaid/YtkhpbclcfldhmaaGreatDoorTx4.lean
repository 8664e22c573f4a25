/-
 The program logic's operations on own memory; calls.
-/
import Derived.Test.YtkhpbclcfldhmaaGreatDoorTx3
set_option linter.constructorNameAsVariable false
set_option linter.unusedSimpArgs false
set_option linter.unusedVariables false
namespace Go.Tx
open Go.Am
theorem Zg0 {q:PV} (h:ZcE q=true) (n:Nat) (H:List Mem):exp (n+1) H q=some q:=by
 cases q<;>simp only[ZcE]at h<;>first
  |rfl
  |(cases h;done)
theorem ZgR {q:PV} (h:ZcE q=true) (n:Nat) (H:List Mem):rch n H q=[]:=by
 cases n with
 |zero=>rfl
 |succ n=>
  cases q<;>simp only[ZcE]at h<;>first
   |rfl
   |(cases h;done)
theorem ZkR (n:Nat) (H:List Mem) (a i l m:Nat):exp (n+1) H (.ref a i l m)=(match H[a]? with|some (.row es _ _)=>if i+l≤es.length then(ZaQ (ZaQ (exp n H)) ((es.drop i).take l)).map .lst else none|_=>none):=rfl
theorem Ztz (n:Nat) (H:List Mem) (a i r:Nat):exp (n+1) H (.ptr a i r)=(match H[a]? with|some (.row es _ _)=>(es[i]?).bind fun c=>(ZaQ (exp n H) c).map fun q=> .box q r|_=>none):=rfl
theorem ZrD (n:Nat) (H:List Mem) (f:FuncId) (a c:List PV):exp (n+1) H (.func f a c)=(ZaQ (exp n H) a).bind fun a'=>(ZaQ (exp n H) c).map fun c'=> .func f a' c':=rfl
theorem Zuy (n:Nat) (H:List Mem) (a:List PV):exp (n+1) H (.agg a)=(ZaQ (exp n H) a).map .agg:=rfl
theorem ZtG (n:Nat) (H:List Mem) (a:List PV):exp (n+1) H (.tup a)=(ZaQ (exp n H) a).map .tup:=rfl
theorem ZkS (n:Nat) (H:List Mem) (a i l m:Nat):rch (n+1) H (.ref a i l m)=(match H[a]? with|some (.row es _ _)=>a::((es.drop i).take l).flatMap fun c=>c.flatMap (rch n H)|_=> []):=rfl
theorem Ztk (n:Nat) (H:List Mem) (a i r:Nat):rch (n+1) H (.ptr a i r)=(match H[a]? with|some (.row es _ _)=>a::((es[i]?).getD []).flatMap (rch n H)|_=> []):=rfl
theorem ZqS (n:Nat) (H:List Mem) (f:FuncId) (a c:List PV):rch (n+1) H (.func f a c)=a.flatMap (rch n H)++c.flatMap (rch n H):=rfl
theorem Zt5 (n:Nat) (H:List Mem) (a:List PV):rch (n+1) H (.agg a)=a.flatMap (rch n H):=rfl
theorem Zuu (n:Nat) (H:List Mem) (a:List PV):rch (n+1) H (.tup a)=a.flatMap (rch n H):=rfl
theorem Zkv {α:Type} {f:α→Option α}: ∀ {l:List α},(∀x∈l,f x=some x)→ZaQ f l=some l
 | [],_=>rfl
 |x::l,h=>by
  rw[Za2,h x List.mem_cons_self,Zkv fun y hy=>h y (List.mem_cons_of_mem _ hy)];rfl
theorem RRs.plain {t:CT} {l:List t.D} {es:List (List PV)} (h:All2 (RR t) l es): ∀c∈es,∀q∈c,ZcE q=true:=by
 intro c hc q hq
 obtain⟨x,_,hx⟩:=h.mem hc
 exact hx.plain q hq
theorem Zr1 {α:Type} {l:List α} {i n:Nat} {x:α} (h:x∈(l.drop i).take n):x∈l:=List.mem_of_mem_drop (List.mem_of_mem_take h)
section
variable {φ : Ph} {hp : List SM} {H : List Mem}
def Reach (φ:Ph) (hp:List SM) (ids as:List Nat):Prop:= ∀a∈as,∃id∈ids,φ[id]? =some (some a)∧ ∃sm,hp[id]? =some sm∧live sm=true
theorem Reach.nil (ids:List Nat):Reach φ hp ids []:=fun _ h=>by simp at h
theorem Reach.app {i j a b:List Nat} (h:Reach φ hp i a) (h':Reach φ hp j b):Reach φ hp (i++j) (a++b):=by
 intro x hx
 rcases List.mem_append.1 hx with hx|hx
 ·obtain⟨id,h1,h2⟩:=h x hx
  exact⟨id,List.mem_append_left _ h1,h2⟩
 ·obtain⟨id,h1,h2⟩:=h' x hx
  exact⟨id,List.mem_append_right _ h1,h2⟩
def ZwS (φ:Ph) (hp:List SM) (H:List Mem) (n:Nat) (V:SV) (q:PV) (k:SV→Prop):Prop:= ∃q' V',exp n H q=some q'∧RV [] V' q'∧k V'∧Reach φ hp (ZlZ hp n V) (rch n H q)
theorem Zdd {n:Nat} {f:SV→(SV→Prop)→Prop} (hf: ∀V q k,f V k→RV φ V q→ZwS φ hp H n V q k): ∀ {l:List SV} {qs:List PV} {k:List SV→Prop},ZhD f l k→RL φ l qs→ ∃qs' l',ZaQ (exp n H) qs=some qs'∧RL [] l' qs'∧k l'∧Reach φ hp (l.flatMap (ZlZ hp n)) (qs.flatMap (rch n H))
 | [],qs,k,h,hr=>by
  simp only[RL]at hr;subst hr
  exact⟨[],[],rfl,by simp only[RL],h,Reach.nil _⟩
 |v::r,qs,k,h,hr=>by
  simp only[RL]at hr
  obtain⟨q,qr,rfl,h2,h3⟩:=hr
  obtain⟨q',V',e1,e2,e3,e4⟩:=hf v q _ h h2
  obtain⟨qs',l',f1,f2,f3,f4⟩:=Zdd hf e3 h3
  refine⟨q'::qs',V'::l', ?_, ?_,f3, ?_⟩
  ·rw[Za2,e1,f1];rfl
  ·simp only[RL];exact⟨_,_,rfl,e2,f2⟩
  ·simp only[List.flatMap_cons];exact e4.app f4
theorem Zrx: ∀ {els:List SV} {es:List (List PV)},All2 (fun V c=> ∃q,c=[q]∧RV φ V q) els es→ ∃qs:List PV,es=qs.map (fun q=> [q])∧RL φ els qs
 | [],[],_=>⟨[],rfl,by simp only[RL]⟩
 |V::els,c::es,h=>by
  obtain⟨⟨q,rfl,h1⟩,h2⟩:=h
  obtain⟨qs,rfl,h3⟩:=Zrx h2
  exact⟨q::qs,rfl,by simp only[RL];exact⟨_,_,rfl,h1,h3⟩⟩
theorem Zh4 {f:PV→Option PV}: ∀ {qs qs':List PV},ZaQ f qs=some qs'→ZaQ (ZaQ f) (qs.map fun q=> [q])=some (qs'.map fun q=> [q])
 | [],qs',h=>by cases h;rfl
 |q::qs,qs',h=>by
  rw[Za2]at h
  cases h1:f q with
  |none=>rw[h1]at h;cases h
  |some x=>
   cases h2:ZaQ f qs with
   |none=>rw[h1,h2]at h;cases h
   |some r=>
    rw[h1,h2]at h
    cases h
    rw[List.map_cons,Za2,Zh4 h2]
    have:ZaQ f [q]=some [x]:=by rw[Za2,h1];rfl
    rw[this]
    rfl
theorem ZsY {ct:CT}: ∀ {l:List SV} {xs:List ct.D} {qs:List PV},Zxc ct l=some xs→RL [] l qs→All2 (RR ct) xs (qs.map fun q=> [q])
 | [],xs,qs,h,hr=>by
  cases h
  simp only[RL]at hr
  subst hr
  trivial
 |V::l,xs,qs,h,hr=>by
  simp only[RL]at hr
  obtain⟨q,r,rfl,h1,h2⟩:=hr
  simp only[Zxc]at h
  split at h
  ·rename_i x hx
   split at h
   ·rename_i ys hys
    cases h
    exact⟨ZdE (φ:=[]) hx (by simp only[RL];exact⟨_,_,rfl,h1,rfl⟩),ZsY hys h2⟩
   ·cases h
  ·cases h
theorem Zkw (hh:RH φ hp (fun a=>H[a]?)): ∀ (n:Nat) (V:SV) (q:PV) (k:SV→Prop),Zla hp n V k→RV φ V q→ZwS φ hp H n V q k
 |0,_,_,_,h,_=>h.elim
 |1,_,_,_,h,_=>h.elim
 |n+2,V,q,k,h,hr=>by
  have ih:=Zkw hh (n+1)
  have self:ZcE q=true→k V→RV [] V q→ZwS φ hp H (n+2) V q k:=fun h1 h2 h3=>⟨q,V,Zg0 h1 _ _,h3,h2,by rw[ZgR h1];exact Reach.nil _⟩
  cases V with
  |v t x=>
   have hq:ZcE q=true:=by simp only[RV]at hr;exact hr.plain q (by simp)
   exact self hq h (by simpa only[RV]using hr)
  |nilp=>
   have hr':=hr
   simp only[RV]at hr';subst hr'
   exact⟨.nilp, .nilp,rfl,by simp only[RV],h,Reach.nil _⟩
  |nils=>simp only[RV]at hr;subst hr;exact self rfl h (by simp only[RV])
  |nilf=>
   simp only[RV]at hr;subst hr
   exact⟨.nilf, .nilf,rfl,by simp only[RV],h,Reach.nil _⟩
  |nili=>
   simp only[RV]at hr;subst hr
   exact⟨.nili, .nili,rfl,by simp only[RV],h,Reach.nil _⟩
  |nilmp=>
   simp only[RV]at hr;subst hr
   exact⟨.nilm, .nilmp,rfl,by simp only[RV],h,Reach.nil _⟩
  |mp id=>simp only[Zla]at h
  |box t x r=>
   simp only[RV]at hr
   obtain⟨cs,rfl,hcs⟩:=hr
   exact⟨.box cs r, .box t x r,rfl,by simp only[RV];exact⟨cs,rfl,hcs⟩,h,Reach.nil _⟩
  |ref id i m mm=>
   simp only[Zla]at h
   split at h
   ·rename_i t l b hrow
    obtain⟨hlen,hk⟩:=h
    rcases hh.ref hrow hr with⟨a,es,m',rfl,hp',ha,hes,_⟩|⟨rfl,rfl,rfl,rfl,_,_⟩
    ·have hl:=hes.len
     have hpl:=RRs.plain hes
     have ha:H[a]? =_:=ha
     refine⟨.lst ((es.drop i).take m),_, ?_, ?_,hk, ?_⟩
     ·rw[ZkR]
      simp only[ha]
      rw[if_pos (by omega),Zkv (fun c hc=>Zkv fun q hq=>Zg0 (hpl c (Zr1 hc) q hq) _ _)];rfl
     ·simp only[RV,RR]
      exact .inr ⟨_,rfl,hes.sub i m⟩
     ·rw[ZkS]
      simp only[ha,ZlZ,hrow]
      have:(((es.drop i).take m).flatMap fun c=>c.flatMap (rch (n+1) H))=[]:=by
       rw[List.flatMap_eq_nil_iff]
       intro c hc
       rw[List.flatMap_eq_nil_iff]
       intro q hq
       exact ZgR (hpl c (Zr1 hc) q hq) _ _
      rw[this]
      intro x hx
      rw[List.mem_singleton.1 hx]
      rw[Za5]at hrow
      exact⟨id,List.mem_singleton.2 rfl,hp',_,hrow,rfl⟩
    ·refine⟨.nils,_,rfl, ?_,hk,Reach.nil _⟩
     show RR _ _ _
     exact .inl ⟨rfl,rfl⟩
   ·rename_i ct els b hrow
    obtain⟨hlen,hk⟩:=h
    rcases hh.refM hrow hr with⟨a,es,m',rfl,hp',ha,hes,_⟩|⟨rfl,rfl,rfl,rfl,_,_⟩
    ·have hl:=hes.len
     have ha:H[a]? =_:=ha
     have hsub:All2 (fun V c=> ∃q,c=[q]∧RV φ V q) (sub els i m) ((es.drop i).take m):=hes.sub i m
     obtain⟨qs,hqs,hrl⟩:=Zrx hsub
     obtain⟨qs',l',e1,e2,e3,e4⟩:=Zdd ih hk hrl
     split at e3
     ·rename_i xs hxs
      refine⟨.lst (qs'.map fun q=> [q]),_, ?_, ?_,e3, ?_⟩
      ·rw[ZkR]
       simp only[ha]
       rw[if_pos (by omega),hqs,Zh4 e1];rfl
      ·simp only[RV,RR]
       exact .inr ⟨_,rfl,ZsY hxs e2⟩
      ·rw[ZkS]
       simp only[ha,ZlZ,hrow,hqs]
       have hfl:((qs.map fun q=> [q]).flatMap fun c=>c.flatMap (rch (n+1) H))=qs.flatMap (rch (n+1) H):=by
        rw[List.flatMap_map]
        simp
       rw[hfl]
       have hself:Reach φ hp [id] [a]:=by
        intro x hx
        rw[List.mem_singleton.1 hx]
        rw[Za5]at hrow
        exact⟨id,List.mem_singleton.2 rfl,hp',_,hrow,rfl⟩
       exact hself.app e4
     ·cases e3
    ·simp only[sub,List.drop_nil,List.take_nil,ZhD,Zxc]at hk
     refine⟨.nils,_,rfl, ?_,hk,Reach.nil _⟩
     show RR _ _ _
     exact .inl ⟨rfl,rfl⟩
   ·rename_i cs b hrow
    obtain⟨⟨rfl,rfl⟩,hk⟩:=h
    obtain⟨a,cs',m',rfl,hp',ha,hcs,_⟩:=hh.refC hrow hr
    have ha:H[a]? =_:=ha
    obtain⟨qs',l',e1,e2,e3,e4⟩:=Zdd ih hk hcs
    obtain⟨ct,x,hx,hk⟩:=e3
    refine⟨.lst [qs'],_, ?_, ?_,hk, ?_⟩
    ·rw[ZkR]
     simp only[ha]
     rw[if_pos (by simp)]
     have:ZaQ (ZaQ (exp (n+1) H)) [cs']=some [qs']:=by rw[Za2,e1];rfl
     simp only[List.drop_zero,List.take_succ_cons,List.take_zero,this]
     rfl
    ·simp only[RV,RR]
     exact .inr ⟨_,rfl,ZdE (φ:=[]) hx e2,trivial⟩
    ·rw[ZkS]
     simp only[ha,ZlZ,hrow,List.drop_zero,List.take_succ_cons,List.take_zero,List.flatMap_cons,List.flatMap_nil,List.append_nil]
     have hself:Reach φ hp [id] [a]:=by
      intro x hx
      rw[List.mem_singleton.1 hx]
      rw[Za5]at hrow
      exact⟨id,List.mem_singleton.2 rfl,hp',_,hrow,rfl⟩
     exact hself.app e4
   ·cases h
  |ptr id i r=>
   simp only[Zla]at h
   split at h
   ·rename_i t l b hrow
    obtain⟨y,hy,hk⟩:=h
    obtain⟨a,es,m',rfl,hp',ha,hes,_⟩:=hh.ptr hrow hr
    have ha:H[a]? =_:=ha
    have hpl:=RRs.plain hes
    obtain⟨c,hc,hyc⟩:=hes.get hy
    have hcm:=List.mem_of_getElem? hc
    refine⟨.box c r,_, ?_, ?_,hk, ?_⟩
    ·rw[Ztz]
     simp only[ha,hc,Option.bind_some]
     rw[Zkv fun q hq=>Zg0 (hpl c hcm q hq) _ _];rfl
    ·simp only[RV]
     exact⟨c,rfl,hyc⟩
    ·rw[Ztk]
     simp only[ha,hc,ZlZ,Option.getD_some]
     have:(c.flatMap (rch (n+1) H))=[]:=by
      rw[List.flatMap_eq_nil_iff]
      intro q hq
      exact ZgR (hpl c hcm q hq) _ _
     rw[this]
     intro x hx
     rw[List.mem_singleton.1 hx]
     rw[Za5]at hrow
     exact⟨id,List.mem_singleton.2 rfl,hp',_,hrow,rfl⟩
   ·cases h
  |func f a c=>
   simp only[RV]at hr
   obtain⟨a',c',rfl,h1,h2⟩:=hr
   obtain⟨qs,l,e1,e2,e3,e4⟩:=Zdd ih h h1
   obtain⟨qs',l',f1,f2,f3,f4⟩:=Zdd ih e3 h2
   refine⟨.func f qs qs', .func f l l', ?_, ?_,f3, ?_⟩
   ·rw[ZrD,e1,Option.bind_some,f1];rfl
   ·simp only[RV];exact⟨_,_,rfl,e2,f2⟩
   ·rw[ZqS];simp only[ZlZ];exact e4.app f4
  |agg cs=>
   simp only[RV]at hr
   obtain⟨a',rfl,h1⟩:=hr
   obtain⟨qs,l,e1,e2,e3,e4⟩:=Zdd ih h h1
   refine⟨.agg qs, .agg l, ?_, ?_,e3, ?_⟩
   ·rw[Zuy,e1];rfl
   ·simp only[RV];exact⟨_,rfl,e2⟩
   ·rw[Zt5];simp only[ZlZ];exact e4
  |tup cs=>
   simp only[RV]at hr
   obtain⟨a',rfl,h1⟩:=hr
   obtain⟨qs,l,e1,e2,e3,e4⟩:=Zdd ih h h1
   refine⟨.tup qs, .tup l, ?_, ?_,e3, ?_⟩
   ·rw[ZtG,e1];rfl
   ·simp only[RV];exact⟨_,rfl,e2⟩
   ·rw[Zuu];simp only[ZlZ];exact e4
theorem ZwM (hh:RH φ hp (fun a=>H[a]?)) {l:List SV} {qs:List PV} {k:List SV→Prop} (h:ZyB hp l k) (hr:RL φ l qs): ∃qs' l',ZaQ (exp ZaE H) qs=some qs'∧RL [] l' qs'∧k l'∧Reach φ hp (Zqk hp l) (qs.flatMap (rch ZaE H)):=Zdd (Zkw hh 40) h hr
theorem RM.mono {φ φ':Ph} {L L':Nat→Option Mem} {o:Option Nat} {sm:SM} (hl:Le φ φ') (hL: ∀a,o=some a→live sm=true→L' a=L a) (h:RM φ L o sm):RM φ' L' o sm:=by
 cases sm with
 |row t l m=>
  simp only[RM]at h⊢
  cases o with
  |none=>exact h
  |some a=>
   obtain⟨es,m',h1,h2⟩:=h
   exact⟨es,m',by rw[hL a rfl rfl];exact h1,h2⟩
 |cell cs m=>
  simp only[RM]at h⊢
  obtain⟨a,cs',m',rfl,h1,h2,h3⟩:=h
  exact⟨a,cs',m',rfl,by rw[hL a rfl rfl];exact h1,RL.mono hl _ _ h2,h3⟩
 |many ct els m=>
  simp only[RM]at h⊢
  cases o with
  |none=>exact h
  |some a=>
   obtain⟨es,m',h1,h2,h3⟩:=h
   exact⟨es,m',by rw[hL a rfl rfl];exact h1,h2.imp (fun _ _ ⟨q,hq,hr⟩=>⟨q,hq,RV.mono hl _ _ hr⟩),h3⟩
 |set ks=>
  simp only[RM]at h⊢
  obtain⟨a,es,rfl,h1,h2⟩:=h
  exact⟨a,es,rfl,by rw[hL a rfl rfl];exact h1,h2⟩
 |dead=>trivial
theorem RM.ex {L:Nat→Option Mem} {a:Nat} {sm:SM} (h:RM φ L (some a) sm) (hl:live sm=true): ∃m,L a=some m:=by
 cases sm with
 |row t l m=>
  simp only[RM]at h
  obtain⟨es,m',h1,_⟩:=h
  exact⟨_,h1⟩
 |cell cs m=>
  simp only[RM]at h
  obtain⟨a,cs',m',h0,h1,_⟩:=h
  cases h0
  exact⟨_,h1⟩
 |many ct els m=>
  simp only[RM]at h
  obtain⟨es,m',h1,_⟩:=h
  exact⟨_,h1⟩
 |set ks=>
  simp only[RM]at h
  obtain⟨a,es,h0,h1,_⟩:=h
  cases h0
  exact⟨_,h1⟩
 |dead=>cases hl
theorem RH.lt (hh:RH φ hp (fun a=>H[a]?)) {id a:Nat} {sm:SM} (h:hp[id]? =some sm) (hl:live sm=true) (hφ:φ[id]? =some (some a)):a<H.length:=by
 obtain⟨m,hm⟩:=(hh.row _ _ _ h hφ).ex hl
 exact(List.getElem?_eq_some_iff.1 hm).1
theorem RH.push (hh:RH φ hp (fun a=>H[a]?)) {sm:SM} {m:Mem} (h:RM (φ++ [some H.length]) (fun a=>(H++ [m])[a]?) (some H.length) sm):RH (φ++ [some H.length]) (hp++ [sm]) (fun a=>(H++ [m])[a]?):=by
 have hlen:=hh.len
 have old: ∀ {id:Nat} {x:SM},(hp++ [sm])[id]? =some x→(id<hp.length∧hp[id]? =some x)∨(id=hp.length∧x=sm):=by
  intro id x hx
  by_cases hi:id<hp.length
  ·rw[List.getElem?_append_left hi]at hx;exact .inl ⟨hi,hx⟩
  ·rw[List.getElem?_append_right (by omega)]at hx
   obtain⟨hj,hj'⟩:=List.getElem?_eq_some_iff.1 hx
   simp only[List.length_singleton]at hj
   have:id=hp.length:=by omega
   subst this
   simp at hx
   exact .inr ⟨rfl,hx.symm⟩
 have oldφ: ∀ {id:Nat},id<hp.length→(φ++ [some H.length])[id]? =φ[id]? :=fun hi=>List.getElem?_append_left (by omega)
 have newφ:(φ++ [some H.length])[hp.length]? =some (some H.length):=by
  rw[List.getElem?_append_right (by omega)];simp[hlen]
 refine⟨by simp[hlen], ?_, ?_⟩
 ·intro id x o hx ho
  rcases old hx with⟨hi,hx⟩|⟨rfl,rfl⟩
  ·rw[oldφ hi]at ho
   refine RM.mono (Le.app _ _) (fun a ha hl=> ?_) (hh.row _ _ _ hx ho)
   subst ha
   exact List.getElem?_append_left (hh.lt hx hl ho)
  ·rw[newφ]at ho;cases ho
   exact h
 ·intro id id' x x' a hne hx hx' hl hl' ha ha'
  rcases old hx with⟨hi,h1⟩|⟨h1,h2⟩
  ·rw[oldφ hi]at ha
   rcases old hx' with⟨hi',h1'⟩|⟨h1',h2'⟩
   ·rw[oldφ hi']at ha'
    exact hh.inj _ _ _ _ _ hne h1 h1' hl hl' ha ha'
   ·rw[h1',newφ]at ha';cases ha'
    have:=hh.lt h1 hl ha
    omega
  ·rw[h1,newφ]at ha;cases ha
   rcases old hx' with⟨hi',h1'⟩|⟨h1',h2'⟩
   ·rw[oldφ hi']at ha'
    have:=hh.lt h1' hl' ha'
    omega
   ·exact hne (h1.trans h1'.symm)
theorem RH.set (hh:RH φ hp (fun a=>H[a]?)) {id a:Nat} {sm0 sm:SM} {m:Mem} (h0:hp[id]? =some sm0) (hl0:live sm0=true) (hφ:φ[id]? =some (some a)) (h:RM φ (fun b=>(H.set a m)[b]?) (some a) sm):RH φ (hp.set id sm) (fun b=>(H.set a m)[b]?):=by
 have hid:=(List.getElem?_eq_some_iff.1 h0).1
 have at_: ∀ {j:Nat} {x:SM},(hp.set id sm)[j]? =some x→(j=id∧x=sm)∨(j≠id∧hp[j]? =some x):=by
  intro j x hx
  by_cases hj:j=id
  ·subst hj
   rw[List.getElem?_set_self hid]at hx
   exact .inl ⟨rfl,(Option.some.inj hx).symm⟩
  ·rw[List.getElem?_set_ne (fun e=>hj e.symm)]at hx
   exact .inr ⟨hj,hx⟩
 refine⟨by simp[hh.len], ?_, ?_⟩
 ·intro j x o hx ho
  rcases at_ hx with⟨rfl,rfl⟩|⟨hj,hx⟩
  ·rw[hφ]at ho;cases ho
   exact h
  ·refine RM.mono (Le.refl _) (fun b hb hl=> ?_) (hh.row _ _ _ hx ho)
   subst hb
   have:a≠b:=fun e=>by subst e;exact hh.inj _ _ _ _ _ hj hx h0 hl hl0 ho hφ
   exact List.getElem?_set_ne this
 ·intro i j x x' b hne hx hx' hl hl' hb hb'
  rcases at_ hx with⟨e1,_⟩|⟨hi,h1⟩
  ·rcases at_ hx' with⟨e2,_⟩|⟨hj,h2⟩
   ·exact hne (e1.trans e2.symm)
   ·rw[e1]at hne hb;exact hh.inj _ _ _ _ _ hne h0 h2 hl0 hl' hb hb'
  ·rcases at_ hx' with⟨e2,_⟩|⟨hj,h2⟩
   ·rw[e2]at hne hb';exact hh.inj _ _ _ _ _ hne h1 h0 hl hl0 hb hb'
   ·exact hh.inj _ _ _ _ _ hne h1 h2 hl hl' hb hb'
theorem RH.kill {L:Nat→Option Mem} (hh:RH φ hp L) (id:Nat):RH φ (hp.set id .dead) L:=by
 have at_: ∀ {j:Nat} {x:SM},(hp.set id .dead)[j]? =some x→x= .dead∨hp[j]? =some x:=by
  intro j x hx
  by_cases hj:j=id
  ·subst hj
   rw[List.getElem?_set]at hx
   simp only[if_true]at hx
   split at hx
   ·exact .inl (Option.some.inj hx).symm
   ·cases hx
  ·rw[List.getElem?_set_ne (fun e=>hj e.symm)]at hx
   exact .inr hx
 refine⟨by simp[hh.len], ?_, ?_⟩
 ·intro j x o hx ho
  rcases at_ hx with rfl|hx
  ·trivial
  ·exact hh.row _ _ _ hx ho
 ·intro i j x x' b hne hx hx' hl hl' hb hb'
  rcases at_ hx with rfl|hx
  ·cases hl
  ·rcases at_ hx' with rfl|hx'
   ·cases hl'
   ·exact hh.inj _ _ _ _ _ hne hx hx' hl hl' hb hb'
theorem RH.killA (hh:RH φ hp (fun a=>H[a]?)) {id a:Nat} {sm0:SM} {m:Mem} (h0:hp[id]? =some sm0) (hl0:live sm0=true) (hφ:φ[id]? =some (some a)):RH φ (hp.set id .dead) (fun b=>(H.set a m)[b]?):=
 hh.set h0 hl0 hφ trivial
theorem Zwa (hh:RH φ hp (fun a=>H[a]?)) (id:Nat):RH φ (frz1 hp id) (fun a=>H[a]?):=by
 have go: ∀sm sm',hp[id]? =some sm→live sm=true→(∀o,RM φ (fun a=>H[a]?) o sm→RM φ (fun a=>H[a]?) o sm')→RH φ (hp.set id sm') (fun a=>H[a]?):=by
  intro sm sm' h0 hl0 hm
  have hid:=(List.getElem?_eq_some_iff.1 h0).1
  have at_: ∀ {j:Nat} {x:SM},(hp.set id sm')[j]? =some x→(j=id∧x=sm')∨(j≠id∧hp[j]? =some x):=by
   intro j x hx
   by_cases hj:j=id
   ·subst hj
    rw[List.getElem?_set_self hid]at hx
    exact .inl ⟨rfl,(Option.some.inj hx).symm⟩
   ·rw[List.getElem?_set_ne (fun e=>hj e.symm)]at hx
    exact .inr ⟨hj,hx⟩
  refine⟨by simp[hh.len], ?_, ?_⟩
  ·intro j x o hx ho
   rcases at_ hx with⟨rfl,rfl⟩|⟨hj,hx⟩
   ·exact hm o (hh.row _ _ _ h0 ho)
   ·exact hh.row _ _ _ hx ho
  ·intro i j x x' b hne hx hx' hl hl' hb hb'
   rcases at_ hx with⟨e1,_⟩|⟨hi,h1⟩
   ·rcases at_ hx' with⟨e2,_⟩|⟨hj,h2⟩
    ·exact hne (e1.trans e2.symm)
    ·rw[e1]at hne hb;exact hh.inj _ _ _ _ _ hne h0 h2 hl0 hl' hb hb'
   ·rcases at_ hx' with⟨e2,_⟩|⟨hj,h2⟩
    ·rw[e2]at hne hb';exact hh.inj _ _ _ _ _ hne h1 h0 hl hl0 hb hb'
    ·exact hh.inj _ _ _ _ _ hne h1 h2 hl hl' hb hb'
 unfold frz1
 rw[Za5]
 split
 ·rename_i t l m h0
  refine go _ _ h0 rfl fun o hr=> ?_
  simp only[RM]at hr⊢
  cases o with
  |none=>exact hr
  |some a=>
   obtain⟨es,m',h1,h2,_⟩:=hr
   exact⟨es,m',h1,h2,fun h=>by cases h⟩
 ·rename_i cs m h0
  refine go _ _ h0 rfl fun o hr=> ?_
  simp only[RM]at hr⊢
  obtain⟨a,cs',m',h0,h1,h2,_⟩:=hr
  exact⟨a,cs',m',h0,h1,h2,fun h=>by cases h⟩
 ·rename_i ct els m h0
  refine go _ _ h0 rfl fun o hr=> ?_
  simp only[RM]at hr⊢
  cases o with
  |none=>exact hr
  |some a=>
   obtain⟨es,m',h1,h2,_⟩:=hr
   exact⟨es,m',h1,h2,fun h=>by cases h⟩
 ·exact hh
theorem ZnQ: ∀ (ids:List Nat) {hp:List SM},RH φ hp (fun a=>H[a]?)→RH φ (frzT hp ids) (fun a=>H[a]?)
 | [],_,h=>h
 |i::r,_,h=>ZnQ r (Zwa h i)
def Zw9:SM→Bool
 | .row _ _ m| .cell _ m| .many _ _ m=>m
 | .set _=>false
 | .dead=>false
theorem Znl (hp:List SM) (id j:Nat) {sm:SM} (h:(frz1 hp id)[j]? =some sm):(∃sm0,hp[j]? =some sm0∧live sm0=live sm)∧(j=id→Zw9 sm=false)∧(Zw9 sm=true→hp[j]? =some sm):=by
 unfold frz1 at h
 rw[Za5]at h
 split at h
 ·rename_i t l m h0
  by_cases hj:j=id
  ·subst hj
   rw[List.getElem?_set_self (List.getElem?_eq_some_iff.1 h0).1]at h
   cases h
   exact⟨⟨_,h0,rfl⟩,fun _=>rfl,fun hm=>by cases hm⟩
  ·rw[List.getElem?_set_ne (fun e=>hj e.symm)]at h
   exact⟨⟨_,h,rfl⟩,fun e=>absurd e hj,fun _=>h⟩
 ·rename_i cs m h0
  by_cases hj:j=id
  ·subst hj
   rw[List.getElem?_set_self (List.getElem?_eq_some_iff.1 h0).1]at h
   cases h
   exact⟨⟨_,h0,rfl⟩,fun _=>rfl,fun hm=>by cases hm⟩
  ·rw[List.getElem?_set_ne (fun e=>hj e.symm)]at h
   exact⟨⟨_,h,rfl⟩,fun e=>absurd e hj,fun _=>h⟩
 ·rename_i cs els m h0
  by_cases hj:j=id
  ·subst hj
   rw[List.getElem?_set_self (List.getElem?_eq_some_iff.1 h0).1]at h
   cases h
   exact⟨⟨_,h0,rfl⟩,fun _=>rfl,fun hm=>by cases hm⟩
  ·rw[List.getElem?_set_ne (fun e=>hj e.symm)]at h
   exact⟨⟨_,h,rfl⟩,fun e=>absurd e hj,fun _=>h⟩
 ·rename_i h1 h2 h3
  refine⟨⟨_,h,rfl⟩, ?_,fun _=>h⟩
  intro e
  subst e
  cases sm with
  |row t l m=>exact absurd h (h1 _ _ _)
  |cell cs m=>exact absurd h (h2 _ _)
  |many ct els m=>exact absurd h (h3 _ _ _)
  |set ks=>rfl
  |dead=>rfl
theorem Zq5: ∀ (ids:List Nat) (hp:List SM) (j:Nat) {sm:SM},(frzT hp ids)[j]? =some sm→(∃sm0,hp[j]? =some sm0∧live sm0=live sm)∧(j∈ids→Zw9 sm=false)∧(Zw9 sm=true→hp[j]? =some sm)
 | [],hp,j,sm,h=>⟨⟨_,h,rfl⟩,fun h=>by simp at h,fun _=>h⟩
 |i::r,hp,j,sm,h=>by
  obtain⟨⟨s1,h1,l1⟩,h2,h3⟩:=Zq5 r (frz1 hp i) j h
  obtain⟨⟨s0,h4,l0⟩,h5,h6⟩:=Znl hp i j h1
  refine⟨⟨s0,h4,l0.trans l1⟩, ?_, ?_⟩
  ·intro hj
   rcases List.mem_cons.1 hj with rfl|hj
   ·cases hm:Zw9 sm with
    |false=>rfl
    |true=>
     have h7:=h3 hm
     obtain⟨_,h8,_⟩:=Znl hp j j h7
     rw[h8 rfl]at hm;cases hm
   ·exact h2 hj
  ·intro hm
   have h7:=h3 hm
   obtain⟨_,_,h8⟩:=Znl hp i j h7
   exact h8 hm
theorem Zg9: ∀ (as:List Nat) (H:List Mem) (b:Nat),b ∉ as→(Am.freeze as H)[b]? =H[b]?
 | [],_,_,_=>rfl
 |a::r,H,b,h=>by
  show(Am.freeze r (freeze1 H a))[b]? =_
  rw[Zg9 r _ b fun e=>h (List.mem_cons_of_mem _ e)]
  rcases ZaG H a b with h1|⟨rfl,_⟩
  ·exact h1
  ·exact absurd List.mem_cons_self h
theorem ZcU: ∀ (as:List Nat) (H:List Mem) (b:Nat) (es:List (List PV)) (z:Nat) (m:Bool),H[b]? =some (.row es z m)→ ∃m',(Am.freeze as H)[b]? =some (.row es z m')
 | [],_,_,_,_,m,h=>⟨m,h⟩
 |a::r,H,b,es,z,m,h=>by
  show ∃m',(Am.freeze r (freeze1 H a))[b]? =_
  rcases ZaG H a b with h1|⟨rfl,es',z',m',h2,h3⟩
  ·exact ZcU r _ b es z m (h1.trans h)
  ·rw[h]at h2;cases h2
   exact ZcU r _ a es z false h3
theorem ZjG: ∀ (as:List Nat) (H:List Mem) (b:Nat) (es:List (PV×PV)),H[b]? =some (.map es)→(Am.freeze as H)[b]? =some (.map es)
 | [],_,_,_,h=>h
 |a::r,H,b,es,h=>by
  show(Am.freeze r (freeze1 H a))[b]? =_
  rcases ZaG H a b with h1|⟨rfl,es',z',m',h2,h3⟩
  ·exact ZjG r _ b es (h1.trans h)
  ·rw[h]at h2;cases h2
theorem Zgw (hh:RH φ hp (fun a=>H[a]?)) {ids as:List Nat} (hr:Reach φ hp ids as):RH φ (frzT hp ids) (fun a=>(Am.freeze as H)[a]?):=by
 have hf:=ZnQ ids hh
 refine⟨hf.len, ?_,hf.inj⟩
 intro j sm o hj ho
 obtain⟨⟨sm0,h0,hl⟩,h1,h2⟩:=Zq5 ids hp j hj
 have hm:=hf.row _ _ _ hj ho
 have keep: ∀a,o=some a→Zw9 sm=true→(Am.freeze as H)[a]? =H[a]? :=by
  intro a ha hmu
  refine Zg9 _ _ _ fun hin=> ?_
  obtain⟨id,h3,h4,sm',h5,h6⟩:=hr a hin
  subst ha
  by_cases hid:id=j
  ·subst hid
   rw[h1 h3]at hmu;cases hmu
  ·refine hh.inj _ _ _ _ _ hid h5 h0 h6 ?_ h4 ho
   rw[hl]
   cases sm with
   |dead=>cases hmu
   |_=>rfl
 cases sm with
 |row t l m=>
  simp only[RM]at hm⊢
  cases o with
  |none=>exact hm
  |some a=>
   obtain⟨es,m',h3,h4,h5⟩:=hm
   cases m with
   |true=>exact⟨es,m',by rw[keep a rfl rfl];exact h3,h4,h5⟩
   |false=>
    obtain⟨m2,h6⟩:=ZcU as H a _ _ _ h3
    exact⟨es,m2,h6,h4,fun h=>by cases h⟩
 |cell cs m=>
  simp only[RM]at hm⊢
  obtain⟨a,cs',m',rfl,h3,h4,h5⟩:=hm
  cases m with
  |true=>exact⟨a,cs',m',rfl,by rw[keep a rfl rfl];exact h3,h4,h5⟩
  |false=>
   obtain⟨m2,h6⟩:=ZcU as H a _ _ _ h3
   exact⟨a,cs',m2,rfl,h6,h4,fun h=>by cases h⟩
 |many ct els m=>
  simp only[RM]at hm⊢
  cases o with
  |none=>exact hm
  |some a=>
   obtain⟨es,m',h3,h4,h5⟩:=hm
   cases m with
   |true=>exact⟨es,m',by rw[keep a rfl rfl];exact h3,h4,h5⟩
   |false=>
    obtain⟨m2,h6⟩:=ZcU as H a _ _ _ h3
    exact⟨es,m2,h6,h4,fun h=>by cases h⟩
 |set ks=>
  simp only[RM]at hm⊢
  obtain⟨a,es,rfl,h3,h4⟩:=hm
  exact⟨a,es,rfl,ZjG as H a es h3,h4⟩
 |dead=>trivial
end
end Go.Tx
