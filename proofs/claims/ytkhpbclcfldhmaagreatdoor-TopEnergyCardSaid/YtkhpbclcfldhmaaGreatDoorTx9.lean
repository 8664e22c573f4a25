/-
 The program logic: functions whose result is the caller's own memory.
-/
import Derived.Test.YtkhpbclcfldhmaaGreatDoorTx8
set_option linter.constructorNameAsVariable false
set_option linter.unusedSimpArgs false
set_option linter.unusedVariables false
namespace Go.Tx
open Go.Am
section
variable {φ : Ph} {hp : List SM}
theorem Ztq {V:SV} {v:PV} (hr:RV φ V v):RL φ (ZcZ V) (Zb2 v)∧(Zbr V=true→ ∀y,Zg8 v [y]=y)∧(Zbr V=false→ ∀ys,Zg8 v ys= .tup ys):=by
 have one:(∀vs,v≠ .tup vs)→ZcZ V=[V]→Zbr V=true→RL φ (ZcZ V) (Zb2 v)∧(Zbr V=true→ ∀y,Zg8 v [y]=y)∧(Zbr V=false→ ∀ys,Zg8 v ys= .tup ys):=by
  intro h1 h2 h3
  have e1:Zb2 v=[v]:=by
   cases v<;>first
    |rfl
    |exact absurd rfl (h1 _)
  refine⟨?_,fun _ y=> ?_,fun h=>by rw[h3]at h;cases h⟩
  ·rw[h2,e1]
   simp only[RL]
   exact⟨_,_,rfl,hr,rfl⟩
  ·cases v<;>first
    |rfl
    |exact absurd rfl (h1 _)
 have hr':=hr
 cases V<;>simp only[RV]at hr'
 case v t x=>
  have hp:ZcE v=true:=hr'.plain v (by simp)
  exact one (fun vs e=>by subst e;cases hp) rfl rfl
 case nilp=>subst hr';exact one (by simp) rfl rfl
 case nils=>subst hr';exact one (by simp) rfl rfl
 case nilf=>subst hr';exact one (by simp) rfl rfl
 case nili=>subst hr';exact one (by simp) rfl rfl
 case nilmp=>subst hr';exact one (by simp) rfl rfl
 case mp=>obtain⟨a,_,rfl⟩:=hr';exact one (by simp) rfl rfl
 case ref=>rcases hr' with⟨a,_,rfl⟩|⟨_,rfl,_⟩<;>exact one (by simp) rfl rfl
 case ptr=>obtain⟨a,_,rfl⟩:=hr';exact one (by simp) rfl rfl
 case box=>obtain⟨a,rfl,_⟩:=hr';exact one (by simp) rfl rfl
 case func=>obtain⟨_,_,rfl,_⟩:=hr';exact one (by simp) rfl rfl
 case agg=>obtain⟨_,rfl,_⟩:=hr';exact one (by simp) rfl rfl
 case tup vs=>
  obtain⟨vs',rfl,h⟩:=hr'
  exact⟨h,fun h=>by(cases h),fun _ ys=>rfl⟩
theorem ZjW: ∀ (l:List SV) (n i:Nat),ZcR (n+i) (ZcB n l)=l[i]?
 | [],n,i=>by simp[ZcB,ZcR]
 |V::r,n,0=>by
  simp only[ZcB,Zem,Nat.add_zero,List.getElem?_cons_zero]
  rw[show Nat.beq n n=true from by simp];rfl
 |V::r,n,i+1=>by
  simp only[ZcB,Zem,List.getElem?_cons_succ]
  have:Nat.beq (n+(i+1)) n=false:=by
   cases hb:Nat.beq (n+(i+1)) n with
   |true=>have:=Nat.eq_of_beq_eq_true hb;omega
   |false=>rfl
  rw[this,cond_false,show n+(i+1)=(n+1)+i from by omega]
  exact ZjW r (n+1) i
theorem ZlY: ∀ {l:List SV} {qs:List PV},l.length=qs.length→(∀ (i:Nat) (V:SV),l[i]? =some V→ ∃q,qs[i]? =some q∧RV φ V q)→RL φ l qs
 | [],[],_,_=>by simp only[RL]
 |V::l,q::qs,hl,h=>by
  simp only[RL]
  obtain⟨q',h1,h2⟩:=h 0 V rfl
  simp at h1
  subst h1
  exact⟨q,qs,rfl,h2,ZlY (by simpa using hl) fun i W hW=>by simpa using h (i+1) W (by simpa using hW)⟩
theorem ZfF {i:Nat}: ∀ {l:List Nat},ZyQ i l=true→i∈l
 | [],h=>by cases h
 |j::r,h=>by
  simp only[ZyQ]at h
  split at h
  ·rename_i hb
   rw[Nat.eq_of_beq_eq_true hb];exact List.mem_cons_self
  ·exact List.mem_cons_of_mem _ (ZfF h)
theorem Zb1 {ids:List Nat}: ∀ {l:List SM} {n j:Nat} {m:SM},Zee ids n l=true→l[j]? =some m→live m=true→n+j∈ids
 | .dead::r,n,0,m,h,hm,hl=>by simp at hm;subst hm;cases hl
 | .dead::r,n,j+1,m,h,hm,hl=>by
  have:=Zb1 (l:=r) (n:=n+1) (j:=j) h (by simpa using hm) hl
  rw[show n+(j+1)=n+1+j from by omega];exact this
 | .row _ _ _::r,n,0,m,h,hm,hl=>by
  simp only[Zee,Bool.and_eq_true]at h
  exact ZfF h.1
 | .row _ _ _::r,n,j+1,m,h,hm,hl=>by
  simp only[Zee,Bool.and_eq_true]at h
  have:=Zb1 (l:=r) (n:=n+1) (j:=j) h.2 (by simpa using hm) hl
  rw[show n+(j+1)=n+1+j from by omega];exact this
 | .cell _ _::r,n,0,m,h,hm,hl=>by
  simp only[Zee,Bool.and_eq_true]at h
  exact ZfF h.1
 | .cell _ _::r,n,j+1,m,h,hm,hl=>by
  simp only[Zee,Bool.and_eq_true]at h
  have:=Zb1 (l:=r) (n:=n+1) (j:=j) h.2 (by simpa using hm) hl
  rw[show n+(j+1)=n+1+j from by omega];exact this
 | .many _ _ _::r,n,0,m,h,hm,hl=>by
  simp only[Zee,Bool.and_eq_true]at h
  exact ZfF h.1
 | .many _ _ _::r,n,j+1,m,h,hm,hl=>by
  simp only[Zee,Bool.and_eq_true]at h
  have:=Zb1 (l:=r) (n:=n+1) (j:=j) h.2 (by simpa using hm) hl
  rw[show n+(j+1)=n+1+j from by omega];exact this
 | .set _::r,n,0,m,h,hm,hl=>by
  simp only[Zee,Bool.and_eq_true]at h
  exact ZfF h.1
 | .set _::r,n,j+1,m,h,hm,hl=>by
  simp only[Zee,Bool.and_eq_true]at h
  have:=Zb1 (l:=r) (n:=n+1) (j:=j) h.2 (by simpa using hm) hl
  rw[show n+(j+1)=n+1+j from by omega];exact this
theorem Zfp: ∀ {l:List SM} {j:Nat} {m:SM},ZhS l=true→l[j]? =some m→live m=true→ ∃t r b,m= .row t r b
 | .row t x b::r,0,m,_,hm,_=>by simp at hm;subst hm;exact⟨t,x,b,rfl⟩
 | .row _ _ _::r,j+1,m,h,hm,hl=>Zfp (l:=r) h (by simpa using hm) hl
 | .dead::r,0,m,_,hm,hl=>by simp at hm;subst hm;cases hl
 | .dead::r,j+1,m,h,hm,hl=>Zfp (l:=r) h (by simpa using hm) hl
theorem Zk8: ∀ {l:List SM} {j:Nat} {t:CT} {x:List t.D} {b:Bool},Zqm l=true→l[j]? =some (.row t x b)→ZpG t=true
 | .row t x b::r,0,_,_,_,h,hm=>by
  simp only[Zqm,Bool.and_eq_true]at h
  simp at hm
  obtain⟨rfl,_⟩:=hm
  exact h.1
 | .row _ _ _::r,j+1,_,_,_,h,hm=>by
  simp only[Zqm,Bool.and_eq_true]at h
  exact Zk8 (l:=r) h.2 (by simpa using hm)
 | .dead::r,0,_,_,_,_,hm=>by simp at hm
 | .dead::r,j+1,_,_,_,h,hm=>Zk8 (l:=r) h (by simpa using hm)
theorem Zkg: ∀ {t:CT} {x:t.D} {cs:List PV},ZpG t=true→RR t x cs→ ∀q∈cs,ZcY q=true
 | .i _,_,_,_,h,q,hq| .b,_,_,_,h,q,hq| .s,_,_,_,h,q,hq=>by simp only[RR]at h;subst h;rw[List.mem_singleton.1 hq];rfl
 | .any,x,_,_,h,q,hq=>by simp only[RR]at h;subst h;rw[List.mem_singleton.1 hq];cases x<;>rfl
 | .p a c,x,cs,hs,h,q,hq=>by
  simp only[ZpG,Bool.and_eq_true]at hs
  obtain⟨u,v,rfl,h1,h2⟩:=h
  rcases List.mem_append.1 hq with hq|hq
  ·exact Zkg hs.1 h1 q hq
  ·exact Zkg hs.2 h2 q hq
theorem ZjQ {hp:List SM}: ∀ {l:List Nat} {j:Nat},Zpn hp l=true→j∈l→ ∃t x b,hp[j]? =some (.row t x b)
 |i::r,j,h,hj=>by
  simp only[Zpn]at h
  split at h
  ·rename_i hn
   rcases List.mem_cons.1 hj with rfl|hj
   ·rw[Za5]at hn;exact⟨_,_,_,hn⟩
   ·exact ZjQ h hj
  ·cases h
theorem Zv5 {P:Program} {h:Hints} {f:FuncId} {qs:List PV} {v:PV} {H:List Mem} {V:SV} {Q:SV→List SM→Bool→Prop} (hrn:(lim P h).rn f qs []=some (v,H)) (hh:RH φ hp (fun a=>H[a]?)) (hv:RV φ V v) (hk:ZzC Q V hp) (base:Nat):
 ∃v rows sf φ V hp sf',Zdt (lim P h) f qs base=some (v,rows,sf)∧RV φ V v∧RH φ hp (fun a=>if base≤a then rows[a-base]? else none)∧(sf'=true→sf=true)∧Q V hp sf':=by
 obtain⟨V',hp',hent,hchk,hQ⟩:=hk
 simp only[Bool.and_eq_true]at hchk
 obtain⟨⟨⟨⟨⟨hlen,htup⟩,hok⟩,hrows⟩,hled⟩,hat⟩:=hchk
 have hlen:=Nat.eq_of_beq_eq_true hlen
 obtain⟨hparts,hrj1,hrj2⟩:=Ztq hv
 obtain⟨ψ,_,hs⟩:=hent.out φ ⟨Zbi 0 (Zb2 v),H⟩ (Nat.zero_le _) ⟨ZkG hparts,hh⟩
 have hps:RL ψ (ZcZ V') (Zb2 v):=by
  refine ZlY (by rw[←hlen];exact hparts.len) fun i W hW=> ?_
  obtain⟨q,h1,h2⟩:=hs.tm i W (by have:=ZjW (ZcZ V') 0 i;rw[Nat.zero_add]at this;rw[this];exact hW)
  have h3:=ZgT (Zb2 v) 0 i
  rw[Nat.zero_add]at h3
  exact⟨q,by rw[←h3];exact h1,h2⟩
 have hψ:=hs.hp
 obtain⟨hoks,hids⟩:=ZoN hok hps
 have hroots:((Zbi 0 (Zb2 v)).flatMap fun x=>Zcr x.2)=(Zb2 v).flatMap Zcr:=by
  have:=ZbC (Zb2 v) 0
  conv=>rhs;rw[←this]
  rw[List.flatMap_map]
 obtain⟨ids,hidsdef⟩: ∃ids,ZyZ (Zbi 0 (Zb2 v))=ids:=⟨_,rfl⟩
 have hmem: ∀i,i∈ids↔ ∃id,id∈(ZcZ V').flatMap ZuS∧ψ[id]? =some (some i):=by
  intro i
  rw[←hids i,←hidsdef]
  unfold ZyZ
  rw[hroots]
  constructor
  ·intro hm
   rcases Zrh hm with hm|hm
   ·simp at hm
   ·exact hm
  ·exact(ZdW _ [] List.nodup_nil).2.2 i
 have hrow: ∀i∈ids,∃ (j:Nat) (t:CT) (l:List t.D) (b:Bool) (es:List (List PV)) (m':Bool),hp'[j]? =some (.row t l b)∧ψ[j]? =some (some i)∧H[i]? =some (.row es t.w m')∧All2 (RR t) l es∧(b=true→m'=true):=by
  intro i hi
  obtain⟨j,h1,h2⟩:=(hmem i).1 hi
  obtain⟨t,l,b,hm⟩:=ZjQ hat h1
  have hr:=hψ.row _ _ _ hm h2
  simp only[RM]at hr
  obtain⟨es,m',h3,h4,h5⟩:=hr
  exact⟨j,t,l,b,es,m',hm,h2,h3,h4,h5⟩
 have hflat: ∀i∈ids,Zm9 H i=[]:=by
  intro i hi
  obtain⟨j,t,l,b,es,m',_,_,h3,h4,_⟩:=hrow i hi
  rw[Ztj,h3,ZrF,Zgd (ZeI h4 _ _).1]
 obtain⟨Hc,hHc⟩: ∃Hc,ZaQ (fun i=>(H[i]?).bind fun m=>if(okM m&&(ZmD m).all ids.contains)=true then some (Znm ids m)else none) ids=some Hc:=by
  have: ∀l:List Nat,(∀i∈l,i∈ids)→ ∃Hc,ZaQ (fun i=>(H[i]?).bind fun m=>if(okM m&&(ZmD m).all ids.contains)=true then some (Znm ids m)else none) l=some Hc:=by
   intro l
   induction l with
   |nil=>intro _;exact⟨[],rfl⟩
   |cons i r ih=>
    intro hl
    obtain⟨Hr,hr⟩:=ih fun x hx=>hl x (List.mem_cons_of_mem _ hx)
    obtain⟨j,t,l,b,es,m',_,_,h3,h4,_⟩:=hrow i (hl i List.mem_cons_self)
    have hf:=(ZeI h4 t.w m').1
    refine⟨.row es t.w m'::Hr, ?_⟩
    rw[Za2,hr,h3]
    simp only[Option.bind_some,ZkM hf,Zgd hf,List.all_nil,Bool.and_self,if_true,Zi2 hf]
  exact this ids fun _ h=>h
 have hHat: ∀ (i:Nat) (es:List (List PV)) (z:Nat) (m':Bool),i∈ids→H[i]? =some (.row es z m')→Zfu (.row es z m')=true→Hc[pos i ids]? =some (.row es z m'):=by
  intro i es z m' hi h3 hf
  rw[(ZmQ hHc).2,ZiR hi]
  simp only[Option.bind_some,h3,ZkM hf,Zgd hf,List.all_nil,Bool.and_self,if_true,Zi2 hf]
 have hHmem: ∀m∈Hc,∃i∈ids,H[i]? =some m:=by
  intro m hm
  obtain⟨i,hi,h1⟩:=ZkD hHc m hm
  refine⟨i,hi, ?_⟩
  obtain⟨j,t,l,b,es,m',_,_,h3,h4,_⟩:=hrow i hi
  have hf:=(ZeI h4 t.w m').1
  rw[h3]at h1
  simp only[Option.bind_some,ZkM hf,Zgd hf,List.all_nil,Bool.and_self,if_true,Zi2 hf,Option.some.injEq]at h1
  rw[h3,h1]
 have hcomp:ZdY (Zbi 0 (Zb2 v)) H=some ⟨(Zbi 0 (Zb2 v)).map fun x=>(x.1,ren ids x.2),Hc⟩:=by
  rw[Znb,hidsdef,Zdx hflat,Zdx hflat,Zdx hflat]
  unfold ZoY
  rw[if_pos ?_,hHc]
  ·rfl
  ·rw[List.all_eq_true]
   intro x hx
   refine hoks x.2 ?_
   have:=List.mem_map_of_mem (f:=fun y:Nat×PV=>y.2) hx
   rw[ZbC]at this
   exact this
 obtain⟨hren,hokr,hselfr⟩:=ZoG (φ:=ψ) ids base hok hps
 have hvals:((Zbi 0 (Zb2 v)).map fun x=>(x.1,ren ids x.2)).map (fun y=>sh base y.2)=(Zb2 v).map fun q=>sh base (ren ids q):=by
  have:=ZbC (Zb2 v) 0
  rw[List.map_map]
  conv=>rhs;rw[←this]
  rw[List.map_map];rfl
 have hok2:((((Zbi 0 (Zb2 v)).map fun x=>(x.1,ren ids x.2)).all fun y=>Zbp y.2)&&Hc.all ZwN)=true:=by
  rw[Bool.and_eq_true,List.all_eq_true,List.all_eq_true]
  refine⟨fun y hy=> ?_,fun m hm=> ?_⟩
  ·obtain⟨x,hx,rfl⟩:=List.mem_map.1 hy
   refine hokr x.2 ?_
   have:=List.mem_map_of_mem (f:=fun y:Nat×PV=>y.2) hx
   rw[ZbC]at this
   exact this
  ·obtain⟨i,hi,h1⟩:=hHmem m hm
   obtain⟨j,t,l,b,es,m',_,_,h3,h4,_⟩:=hrow i hi
   rw[h1]at h3;cases h3
   exact(ZeI h4 _ _).2.1
 have hsh:Hc.map (shM base)=Hc:=by
  conv=>rhs;rw[←List.map_id Hc]
  refine List.map_congr_left fun m hm=> ?_
  obtain⟨i,hi,h1⟩:=hHmem m hm
  obtain⟨j,t,l,b,es,m',_,_,h3,h4,_⟩:=hrow i hi
  rw[h1]at h3;cases h3
  exact(ZeI h4 _ _).2.2 base
 refine⟨Zg8 v ((Zb2 v).map fun q=>sh base (ren ids q)),Hc,(((Zbi 0 (Zb2 v)).map fun x=>(x.1,ren ids x.2)).all fun y=>ZcY y.2)&&Hc.all Zl6,ψ.map (Option.map fun a=>base+pos a ids),V',hp',_, ?_, ?_,⟨by simp[hψ.len], ?_, ?_⟩, ?_,hQ⟩
 ·simp only[Zdt,hrn,Option.bind_some,hcomp]
  rw[if_pos hok2,hvals,hsh]
 ·cases hn:Zbr V' with
  |true=>
   have hn':Zbr V=true:=by rw[hn]at htup;cases h:Zbr V<;>simp[h]at htup⊢
   have hp1:ZcZ V'=[V']:=by cases V'<;>first|rfl|cases hn
   rw[hp1]at hren
   obtain⟨q,h1,h2⟩:=RL1 hren
   rw[h1,hrj1 hn']
   exact h2
  |false=>
   have hn':Zbr V=false:=by rw[hn]at htup;cases h:Zbr V<;>simp[h]at htup⊢
   rw[hrj2 hn']
   cases V'<;>first
    |cases hn
    |skip
   simp only[RV]
   exact⟨_,rfl,hren⟩
 ·intro j m o hm ho
  by_cases hl:live m=true
  ·obtain⟨t,l,b,rfl⟩:=Zfp hrows hm hl
   rw[List.getElem?_map]at ho
   obtain⟨o',ho',rfl⟩:=ZwC ho
   have hr:=hψ.row _ _ _ hm ho'
   have hmem':=Zb1 hled hm hl
   rw[Nat.zero_add]at hmem'
   simp only[RM]at hr⊢
   cases o' with
   |none=>exact hr
   |some a=>
    obtain⟨es,m',h3,h4,h5⟩:=hr
    have ha:a∈ids:=(hmem a).2 ⟨j,hmem',ho'⟩
    refine⟨es,m', ?_,h4,h5⟩
    show(if base≤base+pos a ids then Hc[base+pos a ids-base]? else none)=_
    rw[if_pos (by omega),show base+pos a ids-base=pos a ids from by omega]
    exact hHat a es _ m' ha h3 (ZeI h4 _ _).1
  ·cases m with
   |dead=>trivial
   |_=>exact absurd rfl hl
 ·intro j j' m m' a hne hm hm' hl hl' ho ho'
  rw[List.getElem?_map]at ho ho'
  obtain⟨o,h1,h2⟩:=ZwC ho
  obtain⟨o',h1',h2'⟩:=ZwC ho'
  cases o with
  |none=>cases h2
  |some x=>
   cases o' with
   |none=>cases h2'
   |some x'=>
    simp only[Option.map_some,Option.some.injEq]at h2 h2'
    have g:=Zb1 hled hm hl
    have g':=Zb1 hled hm' hl'
    rw[Nat.zero_add]at g g'
    have e1:=ZiR ((hmem x).2 ⟨j,g,h1⟩)
    have e2:=ZiR ((hmem x').2 ⟨j',g',h1'⟩)
    rw[show pos x ids=pos x' ids from by omega]at e1
    rw[e1]at e2
    cases e2
    exact hψ.inj _ _ _ _ _ hne hm hm' hl hl' h1 h1'
 ·intro hsf
  rw[Bool.and_eq_true]at hsf
  rw[Bool.and_eq_true,List.all_eq_true,List.all_eq_true]
  refine⟨fun y hy=> ?_,fun m hm=> ?_⟩
  ·obtain⟨x,hx,rfl⟩:=List.mem_map.1 hy
   refine hselfr hsf.1 x.2 ?_
   have:=List.mem_map_of_mem (f:=fun y:Nat×PV=>y.2) hx
   rw[ZbC]at this
   exact this
  ·obtain⟨i,hi,h1⟩:=hHmem m hm
   obtain⟨j,t,l,b,es,m',h6,_,h3,h4,_⟩:=hrow i hi
   rw[h1]at h3;cases h3
   have hc:=Zk8 hsf.2 h6
   simp only[Zl6,List.all_eq_true]
   intro c hc' q hq
   obtain⟨x,_,hx⟩:=h4.mem hc'
   exact Zkg hc hx q hq
theorem Zpl {P:Program} {h:Hints} {T:TypeId→TI} (hT:TysOK P T) {f:FuncId} {fn:Func} {code:Code} {Vs:List SV} {Q:SV→List SM→Bool→Prop} (hok:h.ok f=true) (hf:P.funcs[f]? =some fn) (hb:fn.body=some code) (hn:Vs.length≤fn.ntmps)
 (hw:wp P h T 0 ⟨f,0,fn.ntmps⟩ code (ZcB 0 Vs) [] (Zw0 T fn.results.toList fun V hp=>ZzC Q V hp)):ImpOK P h f Vs Q:=by
 refine⟨fun qs hr base=> ?_⟩
 obtain⟨v,H',φ',V,hp',h1,_,h3,h4,h5⟩:=ZwA (φ:=[]) (H:=[]) hT hok hf hb hn hw (Nat.zero_le _) RH.empty hr
 exact Zv5 h1 h3 h4 h5 base
end
theorem Zae {P:Program} {h:Hints} {T:TypeId→TI} (hT:TysOK P T) {f:FuncId} {fn:Func} {Vs:List SV} {Q:SV→Prop} (hf:P.funcs[f]? =some fn)
 (hw:wp P h T 0 ⟨f,0,fn.ntmps⟩ (Zdg fn) (ZcB 0 Vs) [] (Zw0 T fn.results.toList fun V hp=>Zla hp 40 V Q))
 (hok:h.ok f=true:=by kernel_rfl) (hp:h.prim f=none:=by exact rfl) (hb:fn.body=some (Zdg fn):=by kernel_rfl) (hn:Vs.length≤fn.ntmps:=by exact Nat.le_of_ble_eq_true (by kernel_rfl)):PureOK P h f Vs Q:=
 ZiH hT hok hp hf hb hn hw
end Go.Tx
