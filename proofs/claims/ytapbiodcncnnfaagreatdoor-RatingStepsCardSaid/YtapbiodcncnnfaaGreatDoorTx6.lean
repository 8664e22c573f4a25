/- The program logic: 'append', 'copy', calls; every operation. -/
import Derived.Test.YtapbiodcncnnfaaGreatDoorDp
set_option linter.all false
namespace Go.Tx
open Go.Am
section
variable {P : Program} {h : Hints} {T : TypeId → TI} {φ : Ph} {hp : List SM} {H : List Mem} {tm : TM} {ρ : Operand → Option PV}
theorem ZnE (U:RH φ hp (fun a=>H[a]?)) {ct:CT} {x:SV} {q:PV} {k:List ct.D→Prop} (j:ZsW ct hp x k) (I:RV φ x q): ∃new es,Zmz H q=some es∧All2 (RR ct) new es∧k new:=by
 unfold ZsW at j
 split at j
 ·simp only[RV]at I;subst I
  exact⟨[],[],rfl,trivial,j⟩
 ·split at j
  ·rename_i J
   rcases ZhN I with⟨rfl,rfl⟩|⟨es,rfl,C⟩
   ·exact⟨_,[],rfl,Zgb J [] trivial,j⟩
   ·exact⟨_,es,rfl,Zgb J _ C,j⟩
  ·cases j
 ·split at j
  ·rw[ZeG I]
   exact⟨_,_,rfl,Zj7 _,j⟩
  ·cases j
 ·split at j
  ·rename_i e l b R
   split at j
   ·rename_i J
    obtain⟨hlen,j⟩:=j
    rcases U.ref R I with⟨a,es,m',rfl,hp',ha,C,_⟩|⟨rfl,rfl,rfl,rfl,_,_⟩
    ·refine⟨_,_, ?_,Zgb J _ (C.sub _ _),j⟩
     have:=C.len
     simp only[Zmz,elems,show H[a]? =_ from ha]
     rw[if_pos (by omega)]
    ·exact⟨_,[],rfl,Zgb J _ (show All2 (RR e) (sub [] 0 0) []from trivial),j⟩
   ·cases j
  ·cases j
 ·cases j
theorem ZdK {hp:List SM} {id:Nat} {t:CT} {l:List t.D} {m:Bool} (h:nth hp id=some (.row t l m)):hp[id]? =some (.row t l m):=by rw[←Za5];exact h
theorem Zjg (R:RH φ hp (fun a=>H[a]?)) {ct:CT} {l:List ct.D} {es:List (List PV)} (U:All2 (RR ct) l es) {n n':Nat} {m:Option Nat} (hm:m.getD n=n') {J:Nat} (C:J=n) {hlen:Nat} (j:hlen=hp.length) {Hl:Nat} (I:Hl=H.length) {k:SV→List SM→Prop} (hk:k (.ref hlen 0 n m) (hp++ [.row ct l true])):
 OutOK φ k (some (.ref Hl 0 J n',H++ [Mem.row es ct.w true])):=by
 subst j
 subst I
 subst hm
 subst C
 exact Zh8 R U hk
theorem Zw1 (U:RH φ hp (fun a=>H[a]?)) {ct:CT} {by_ z:Nat} (hz:ct.w=z) {s:SV} {q:PV} {new:List ct.D} {es:List (List PV)} {k:SV→List SM→Prop} (C:Zvs ct by_ hp s new k) (hs:RV φ s q) (hn:All2 (RR ct) new es):OutOK φ k (ZbE H z by_ q es):=by
 subst hz
 have j:=hn.len
 unfold Zvs at C
 split at C
 ·simp only[RV]at hs;subst hs
  cases new with
  |nil=>
   cases es with
   |cons _ _=>simp at j
   |nil=>exact⟨_,_,φ,_,_,rfl,Le.refl φ,U,by simp only[RV],C⟩
  |cons x r=>
   cases es with
   |nil=>simp at j
   |cons e es=>
    simp only[Xap,Nat.add_right_cancel_iff]at j
    obtain⟨h1,h2⟩:=C
    rw[j]at h1
    simp only[ZbE,List.isEmpty_cons,XaG,if_false,Xap]
    rw[if_pos h1]
    exact Zjg U hn (n:=r.length+1) (n':=es.length+1) (m:=none) (by show r.length+1=_;omega) (by omega) rfl rfl h2
 ·rename_i id i n m
  split at C
  ·rename_i e l J
   split at C
   ·rename_i hc
    have he:=ZiI hc
    subst he
    obtain⟨hlen,C⟩:=C
    have aa: ∀xs:List e.D,ZgV e e hc xs=xs:=fun xs=>rfl
    simp only[aa]at C
    rcases U.ref J hs with⟨a,es',m',rfl,hp',hL,ab,hm⟩|⟨rfl,rfl,rfl,rfl,ad,hp'⟩
    ·have hm:=hm rfl
     subst hm
     have hL:H[a]? =_:=hL
     have ai:=ab.len
     have ag:=(Xae.1 hL).1
     have big: ∀ (x:e.D) (r:List e.D) (y:List PV) (R:List (List PV)) (K:SV→List SM→Prop),All2 (RR e) (x::r) (y::R)→m.getD n<n+(r.length+1)→
      ((n+(r.length+1))*by_≤140737488355328∧K (.ref hp.length 0 (n+(r.length+1)) none) (hp.set id .dead++ [.row e (sub l i n++x::r) true]))→OutOK φ K (ZbE H e.w by_ (.ref a i n (m.getD n)) (y::R)):=by
      intro x r y R K ae ah hb
      have I:=ae.len
      simp only[Xap,Nat.add_right_cancel_iff]at I
      simp only[ZbE,hL,List.isEmpty_cons,XaG,if_false,Xap]
      rw[if_pos ⟨trivial,by omega⟩,if_neg (by omega),if_pos (by rw[←I];exact hb.1)]
      have hk:=U.killA (m:= .dead) (ZdK J) rfl hp'
      exact Zjg hk ((ab.sub i n).app ae) (n:=n+(r.length+1)) (n':=n+(R.length+1)) (m:=none) (by show n+(r.length+1)=_;omega) (by omega) (hlen:=hp.length) (by simp) (Hl:=H.length) (by simp) hb.2
     cases new with
     |nil=>
      cases es with
      |cons _ _=>simp at j
      |nil=>
       simp only[ZbE,hL,List.isEmpty_nil,if_true]
       rw[if_pos ⟨trivial,by omega⟩]
       exact⟨_,_,φ,_,_,rfl,Le.refl φ,U,hs,C⟩
     |cons x r=>
      cases es with
      |nil=>simp at j
      |cons y R=>
       have I:=j
       simp only[Xap,Nat.add_right_cancel_iff]at I
       cases m with
       |none=>exact big x r y R k hn (by simp only[Option.getD_none];omega) C
       |some c=>
        by_cases af:n+(r.length+1)≤c
        ·obtain⟨h1,h2⟩:=C.1 af
         simp only[ZbE,hL,List.isEmpty_cons,XaG,if_false,Xap,Xby]
         rw[if_pos ⟨trivial,by omega⟩,if_pos (by omega),if_pos (by omega)]
         refine⟨_,_,φ,_,_,rfl,Le.refl φ,U.set (ZdK J) rfl hp' ?_, ?_,h2⟩
         ·simp only[RM]
          exact⟨_,true,XaK ag,ab.spl _ hn,fun _=>rfl⟩
         ·simp only[RV]
          exact .inl ⟨a,hp',by rw[I];rfl⟩
        ·exact big x r y R k hn (by simp only[Xby];omega) (C.2 (by omega))
    ·cases new with
     |nil=>
      cases es with
      |cons _ _=>simp at j
      |nil=>exact⟨_,_,φ,_,_,rfl,Le.refl φ,U,hs,C⟩
     |cons x r=>
      cases es with
      |nil=>simp at j
      |cons y R=>
       have I:=j
       simp only[Xap,Nat.add_right_cancel_iff]at I
       have hb:(0+(r.length+1))*by_≤140737488355328∧k (.ref hp.length 0 (0+(r.length+1)) none) (hp.set id .dead++ [.row e (sub [] 0 0++x::r) true]):=by
        cases m with
        |none=>exact C
        |some c=>
         simp only[Xby]at ad
         subst ad
         exact C.2 (by omega)
       obtain⟨h1,h2⟩:=hb
       simp only[ZbE,List.isEmpty_cons,XaG,if_false,Xap]
       rw[if_pos (by rw[←I];simpa using h1)]
       exact Zjg (U.kill id) (l:=sub [] 0 0++x::r) hn (n:=0+(r.length+1)) (n':=R.length+1) (m:=none) (by show 0+(r.length+1)=_;omega) (by omega) (hlen:=hp.length) (by simp) rfl h2
   ·cases C
  ·cases C
 ·cases C
theorem RH.empty' {L:Nat→Option Mem}:RH [] [] L:=⟨rfl,fun id sm o h=>by simp at h,fun id j sm C a _ h=>by simp at h⟩
theorem Zqc (hT:TysOK P T) (hh:RH φ hp (fun a=>H[a]?)) {ts:Array TypeId} {s x:SV} {a q:PV} {k:SV→List SM→Prop} (C:Zi5 h T ts.toList hp s x k) (hs:RV φ s a) (hx:RV φ x q):OutOK φ k (ZdO P h H ts a q):=by
 unfold Zi5 at C
 split at C
 ·rename_i t t2 r R
  have h0:ts[0]? =some t:=by rw[←Array.getElem?_toList,R];rfl
  have h1:ts[1]? =some t2:=by rw[←Array.getElem?_toList,R];rfl
  split at C
  ·cases C
  ·cases C
  ·rename_i e hk J I
   obtain⟨U,_⟩:=Zc2 hT hk
   have aa:Ze7 P (ts[1]?)=true:=by
    rw[h1]
    obtain⟨u,hu⟩:=KM.some (hT.get rfl (fun e=>I e)).k (fun e=>I e)
    simp only[Ze7,hu]
    cases u<;>first
     |rfl
     |skip
    rename_i kk
    have j:=(hT.get rfl (fun e=>I e)).k
    exfalso
    revert j J I
    cases ai:(T t2).k<;>intro J I j<;>simp only[KM]at j<;>first
     |(rw[hu]at j;cases j;done)
     |(obtain⟨_,j,_⟩:=j;rw[hu]at j;cases j;done)
     |(obtain⟨_,j⟩:=j;rw[hu]at j;cases j;done)
     |(obtain⟨_,_,_,j⟩:=j;rw[hu]at j;cases j;done)
     |(obtain⟨_,_,j,_⟩:=j;rw[hu]at j;cases j;done)
     |exact J _ rfl
     |exact I rfl
   split at C
   ·cases C
   ·rename_i ct ab hb ho
    simp only[Xag]at hb
    have ad:=Xal hb.1
    have ae:=Xal hb.2
    have he:=hT.get rfl (fun e=>ho e)
    obtain⟨zs,hz,aj,af⟩:=he.zero
    obtain⟨hw,_⟩:=he.ct ct ab
    have fin: ∀ (H':List Mem) (x':PV) (new:List ct.D) (es:List (List PV)) (hp':List SM),RH φ hp' (fun a=>H'[a]?)→Zmz H' x'=some es→All2 (RR ct) new es→Zvs ct (T e).by_ hp' s new k→OutOK φ k (Zcw P H' ts a x'):=by
     intro H' x' new es hp' ag h3 h4 h5
     have:Zcw P H' ts a x'=ZbE H' (T e).sz (T e).by_ a es:=by
      simp only[Zcw,h0,Xab,U,he.sz,he.by_,hz,h3]
      rw[if_pos ⟨aa,ad,ae,af,Zjc h4 hw⟩]
     rw[this]
     exact Zw1 ag hw h5 hs h4
    have ah:Am.frzT h ts=h.frz t:=by simp only[Am.frzT,h0]
    unfold ZdO
    rw[ah]
    split at C
    ·rename_i hf
     obtain⟨q',V',e1,e2,e3,e5⟩:=ZkY hh 40 x q _ C hx
     rw[hf,cond_true,show exp ZaL H q=some q' from e1,Xab]
     obtain⟨new,es,g1,g2,g3⟩:=ZnE (φ:=[]) (hp:=[]) (H:=Am.freeze (rch ZaL H q) H) RH.empty' e3 e2
     exact fin _ q' new es _ (ZgT hh e5) g1 g2 g3
    ·rename_i hf
     obtain⟨new,es,e1,e2,e3⟩:=ZnE hh C hx
     rw[hf,cond_false]
     exact fin _ q new es _ hh e1 e2 e3
   ·cases C
  ·cases C
 ·cases C
theorem ZuX (hT:TysOK P T) (U:RH φ hp (fun a=>H[a]?)) {ts:Array TypeId} {d x:SV} {a q:PV} {k:SV→List SM→Prop} (J:ZwM T ts.toList hp d x k) (hd:RV φ d a) (hx:RV φ x q):OutOK φ k (ZnZ P H ts a q):=by
 unfold ZwM at J
 split at J
 ·rename_i t r ad
  have h0:ts[0]? =some t:=by rw[←Array.getElem?_toList,ad];rfl
  split at J
  ·rename_i e hk
   obtain⟨aa,_⟩:=Zc2 hT hk
   split at J
   ·cases J
   ·rename_i ct ae hb ho
    have hb:=Xal hb
    have he:=hT.get rfl (fun e=>ho e)
    obtain⟨hw,_⟩:=he.ct ct ae
    obtain⟨new,es,e1,e2,I⟩:=ZnE U J hx
    simp only[ZnZ,h0,Xab,aa,he.sz,e1]
    rw[if_pos ⟨hb,Zjc e2 hw⟩]
    split at I
    ·simp only[RV]at hd;subst hd
     exact⟨_,_,φ,_,_,rfl,Le.refl φ,U,vi _ _,I⟩
    ·rename_i id i n m
     split at I
     ·rename_i e' l C
      split at I
      ·rename_i hc
       have af:=ZiI hc
       subst af
       obtain⟨hlen,I⟩:=I
       rcases U.ref C hd with⟨b,es',m',rfl,hp',hL,ab,hm⟩|⟨rfl,rfl,rfl,rfl,ag,hp'⟩
       ·have hm:=hm rfl
        subst hm
        have hL:H[b]? =_:=hL
        have ah:=ab.len
        have R:=(Xae.1 hL).1
        simp only[hL]
        rw[if_pos ⟨hw,by omega⟩]
        refine⟨_,_,φ,_,_,rfl,Le.refl φ,U.set (ZdK C) rfl hp' ?_, ?_,I⟩
        ·simp only[RM]
         rw[hw]
         exact⟨_,true,XaK R,ab.spl _ (e2.take _),fun _=>rfl⟩
        ·rw[←e2.len];exact vi _ _
       ·refine⟨_,_,φ,_,_,rfl,Le.refl φ, ?_, ?_,I⟩
        ·have R:=(Xae.1 (ZdK C)).1
         have:(hp.set id (.row e' (spl (ZgV e' e' hc []) 0 (new.take 0)) true))=hp:=by
          apply List.ext_getElem?
          intro j
          by_cases hj:j=id
          ·subst hj
           rw[XaK R,ZdK C]
           rfl
          ·rw[XaD (fun e=>hj e.symm)]
         rw[this]
         exact U
        ·simp only[Nat.min_zero];exact vi _ _
      ·cases I
     ·cases I
    ·cases I
   ·cases J
  ·cases J
 ·cases J
theorem ZtU (hT:TysOK P T) (hh:RH φ hp (fun a=>H[a]?)) {ts:Array TypeId} {d:SV} {a:PV} {k:SV→List SM→Prop} (C:Ztz T ts.toList hp d k) (hd:RV φ d a):OutOK φ k (Zji P H ts a):=by
 unfold Ztz at C
 split at C
 ·rename_i t r ab
  have h0:ts[0]? =some t:=by rw[←Array.getElem?_toList,ab];rfl
  split at C
  ·rename_i e hk
   obtain⟨U,_⟩:=Zc2 hT hk
   split at C
   ·cases C
   ·rename_i ct ad hb ho
    have hb:=Xal hb
    have he:=hT.get rfl (fun e=>ho e)
    obtain⟨zs,hz,ah,ae⟩:=he.zero
    obtain⟨hw,af⟩:=he.ct ct ad
    have J:RV φ (.tup []) (.tup []):=by simp[RV,RL]
    simp only[Zji,h0,Xab,U,he.sz,hz]
    rw[if_pos ⟨hb,ae⟩]
    split at C
    ·simp only[RV]at hd;subst hd
     exact⟨_,_,φ,_,_,rfl,Le.refl φ,hh,J,C⟩
    ·rename_i id i n m
     split at C
     ·rename_i e' l I
      split at C
      ·rename_i hc
       have ag:=ZiI hc
       subst ag
       obtain⟨hlen,C⟩:=C
       rcases hh.ref I hd with⟨b,es',m',rfl,hp',hL,aa,hm⟩|⟨rfl,rfl,rfl,rfl,ai,hp'⟩
       ·have hm:=hm rfl
        subst hm
        have hL:H[b]? =_:=hL
        have aj:=aa.len
        have R:=(Xae.1 hL).1
        simp only[hL]
        rw[if_pos ⟨hw,by omega⟩]
        refine⟨_,_,φ,_,_,rfl,Le.refl φ,hh.set (ZdK I) rfl hp' ?_,J,C⟩
        simp only[RM]
        rw[hw]
        exact⟨_,true,XaK R,aa.spl _ (All2.rep (af _ hz) _),fun _=>rfl⟩
       ·refine⟨_,_,φ,_,_,rfl,Le.refl φ, ?_,J,C⟩
        have R:=(Xae.1 (ZdK I)).1
        have:(hp.set id (.row e' (spl (ZgV e' e' hc []) 0 (List.replicate 0 e'.z)) true))=hp:=by
         apply List.ext_getElem?
         intro j
         by_cases hj:j=id
         ·subst hj
          rw[XaK R,ZdK I]
          rfl
         ·rw[XaD (fun e=>hj e.symm)]
        rw[this]
        exact hh
      ·cases C
     ·cases C
    ·cases C
   ·cases C
  ·cases C
 ·cases C
mutual
theorem RV.shift {C:Ph} (φ:Ph): ∀ (V:SV) (q:PV),RV C V q→RV (φ++C) (shS φ.length V) q
 | .v _ _,_,h| .nilp,_,h| .nils,_,h| .nilf,_,h| .nili,_,h| .nilmp,_,h| .box _ _ _,_,h=>by simpa only[RV,shS]using h
 | .mp id,q,h=>by
  have e:(φ++C)[φ.length+id]? =C[id]? :=by rw[XaE (by omega)];congr 1;omega
  simp only[RV,shS,e]at h⊢
  exact h
 | .ref id i n m,q,h=>by
  have e:(φ++C)[φ.length+id]? =C[id]? :=by rw[XaE (by omega)];congr 1;omega
  simp only[RV,shS,e]at h⊢
  exact h
 | .ptr id i r,q,h=>by
  have e:(φ++C)[φ.length+id]? =C[id]? :=by rw[XaE (by omega)];congr 1;omega
  simp only[RV,shS,e]at h⊢
  exact h
 | .func f a c,q,h=>by
  simp only[RV,shS]at h⊢
  obtain⟨R,U,I,J,h3⟩:=h
  exact⟨R,U,I,RL.shift φ a R J,RL.shift φ c U h3⟩
 | .agg cs,q,h=>by
  simp only[RV,shS]at h⊢
  obtain⟨j,I,J⟩:=h
  exact⟨j,I,RL.shift φ cs j J⟩
 | .tup cs,q,h=>by
  simp only[RV,shS]at h⊢
  obtain⟨j,I,J⟩:=h
  exact⟨j,I,RL.shift φ cs j J⟩
theorem RL.shift {C:Ph} (φ:Ph): ∀ (l:List SV) (j:List PV),RL C l j→RL (φ++C) (shL φ.length l) j
 | [],_,h=>by simpa only[RL,shL]using h
 |v::vs,j,h=>by
  simp only[RL,shL]at h⊢
  obtain⟨q,r,I,J,R⟩:=h
  exact⟨q,r,I,RV.shift φ v q J,RL.shift φ vs r R⟩
end
theorem ZjX {C:Ph} (φ:Ph): ∀ {j:List SV} {es:List (List PV)},All2 (fun V c=> ∃q,c=[q]∧RV C V q) j es→All2 (fun V c=> ∃q,c=[q]∧RV (φ++C) V q) (shL φ.length j) es
 | [],[],_=>trivial
 |V::j,c::es,h=>by
  obtain⟨⟨q,I,J⟩,R⟩:=h
  exact⟨⟨q,I,RV.shift φ V q J⟩,ZjX φ R⟩
theorem ZsE (b:Nat): ∀l:List SM,ZxK b l=l.map (shH b)
 | []=>rfl
 |m::r=>by simp only[ZxK,ZsE b r,Xbb]
theorem ZnN (b:Nat) (m:SM):live (shH b m)=live m:=by cases m<;>rfl
theorem RH.join (hh:RH φ hp (fun a=>H[a]?)) {ψ:Ph} {hn:List SM} {rows:List Mem} (hj:RH ψ hn (fun a=>if H.length≤a then rows[a-H.length]? else none)):RH (φ++ψ) (hp++ZxK hp.length hn) (fun a=>(H++rows)[a]?):=by
 have hlen:=hh.len
 rw[ZsE]
 have cls: ∀ {id:Nat} {x:SM},(hp++hn.map (shH hp.length))[id]? =some x→(id<hp.length∧hp[id]? =some x∧(φ++ψ)[id]? =φ[id]?)∨(hp.length≤id∧ ∃y,hn[id-hp.length]? =some y∧x=shH hp.length y∧(φ++ψ)[id]? =ψ[id-hp.length]?):=by
  intro id x U
  by_cases hi:id<hp.length
  ·rw[Xar hi]at U
   exact .inl ⟨hi,U,Xar (by omega)⟩
  ·rw[XaE (by omega),Xa2]at U
   obtain⟨y,hy,rfl⟩:=Zxf U
   exact .inr ⟨by omega,y,hy,rfl,by rw[XaE (by omega),hlen]⟩
 have Lold: ∀a,a<H.length→(H++rows)[a]? =H[a]? :=fun a R=>Xar R
 have Lnew: ∀a m,(if H.length≤a then rows[a-H.length]? else none)=some m→H.length≤a∧(H++rows)[a]? =some m:=by
  intro a m hm
  split at hm
  ·rename_i hle
   exact⟨hle,by rw[XaE hle];exact hm⟩
  ·cases hm
 refine⟨by simp[hlen,hj.len], ?_, ?_⟩
 ·intro id x o U ho
  rcases cls U with⟨hi,h1,h2⟩|⟨hi,y,hy,rfl,h2⟩
  ·rw[h2]at ho
   exact RM.mono (Le.app _ _) (fun a R hl=>by subst R;exact Lold a (hh.lt h1 hl ho)) (hh.row _ _ _ h1 ho)
  ·rw[h2]at ho
   have hm:=hj.row _ _ _ hy ho
   cases y with
   |row t l m=>
    simp only[shH,RM]at hm⊢
    cases o with
    |none=>exact hm
    |some a=>
     obtain⟨es,m',h3,h4⟩:=hm
     exact⟨es,m',(Lnew _ _ h3).2,h4⟩
   |cell cs m=>
    simp only[shH,RM]at hm⊢
    obtain⟨a,ae,m',rfl,h3,h4,h5⟩:=hm
    exact⟨a,ae,m',rfl,(Lnew _ _ h3).2,by rw[←hlen];exact RL.shift φ cs ae h4,h5⟩
   |many ct aj m=>
    simp only[shH,RM]at hm⊢
    cases o with
    |none=>
     simp only at hm⊢
     rw[hm]
     rfl
    |some a=>
     obtain⟨es,m',h3,h4,h5⟩:=hm
     refine⟨es,m',(Lnew _ _ h3).2, ?_,h5⟩
     rw[←hlen]
     exact ZjX φ h4
   |set ks=>
    simp only[shH,RM]at hm⊢
    obtain⟨a,es,rfl,h3,h4⟩:=hm
    exact⟨a,es,rfl,(Lnew _ _ h3).2,h4⟩
   |dead=>trivial
 ·intro id ak x x' a ag U af hl J R C
  have new: ∀ (y:SM) (j:Nat),hn[j]? =some y→live y=true→ψ[j]? =some (some a)→H.length≤a:=by
   intro y j hy ah ai
   obtain⟨m,hm⟩:=(hj.row _ _ _ hy ai).ex ah
   exact(Lnew _ _ hm).1
  rcases cls U with⟨hi,h1,h2⟩|⟨hi,y,hy,rfl,h2⟩
  ·rw[h2]at R
   rcases cls af with⟨aa,ab,I⟩|⟨aa,y',ad,rfl,I⟩
   ·rw[I]at C
    exact hh.inj _ _ _ _ _ ag h1 ab hl J R C
   ·rw[I]at C
    rw[ZnN]at J
    have:=new _ _ ad J C
    have:=hh.lt h1 hl R
    omega
  ·rw[h2]at R
   rw[ZnN]at hl
   have:=new _ _ hy hl R
   rcases cls af with⟨aa,ab,I⟩|⟨aa,y',ad,rfl,I⟩
   ·rw[I]at C
    have:=hh.lt ab J C
    omega
   ·rw[I]at C
    rw[ZnN]at J
    exact hj.inj _ _ _ _ _ (by omega) hy ad hl J R C
def nm1:PV→Bool
 | .bool _| .int _ _| .str _| .nilp| .nils| .nilf| .nilm| .nili| .ifc _ _=>true
 | .lst es=>es.isEmpty
 |_=>false
theorem ZmL {V:SV} {q:PV} (C:Zim V=true) (j:RV φ V q):nm1 q=true:=by
 cases V with
 |v t x=>
  cases t<;>simp only[Zim]at C<;>simp only[RV,RR,List.cons.injEq,and_true]at j<;>first
   |(subst j;rfl)
   |(subst j;cases x<;>rfl)
   |(cases C;done)
 |nilp=>simp only[RV]at j;subst j;rfl
 |nils=>simp only[RV]at j;subst j;rfl
 |nilf=>simp only[RV]at j;subst j;rfl
 |nili=>simp only[RV]at j;subst j;rfl
 |nilmp=>simp only[RV]at j;subst j;rfl
 |_=>cases C
theorem ZlV: ∀ (l:List SV) (C:List PV),l.all Zim=true→RL φ l C→ ∀c∈C,nm1 c=true:=by
 intro l
 induction l with
 |nil=>intro C _ j c hc;simp only[RL]at j;subst j;simp at hc
 |cons v r J=>
  intro C I j c hc
  simp only[RL]at j
  obtain⟨q',R,rfl,U,h4⟩:=j
  simp only[XbL,Xag]at I
  rcases Xav.1 hc with rfl|hc
  ·exact ZmL I.1 U
  ·exact J R I.2 h4 c hc
theorem Zui {V:SV} {q:PV} (C:ZsJ V=true) (j:RV φ V q):Zha q=true:=by
 have one:Zim V=true→Zha q=true:=by
  intro U
  have:=ZmL U j
  cases q<;>first
   |exact this
   |(cases this;done)
 cases V with
 |tup vs=>
  simp only[RV]at j
  obtain⟨I,rfl,J⟩:=j
  simp only[Zha,Xau]
  intro c R
  have:=ZlV vs I C J c R
  cases c<;>first
   |exact this
   |(cases this;done)
 |agg vs=>
  simp only[RV]at j
  obtain⟨I,rfl,J⟩:=j
  simp only[Zha,Xau]
  intro c R
  have:=ZlV vs I C J c R
  cases c<;>first
   |exact this
   |(cases this;done)
 |_=>exact one C
theorem ZiB (C:RH φ hp (fun a=>H[a]?)) {f:FuncId} {args:List SV} {qs:List PV} {k:SV→List SM→Prop} (hc:Ze8 P h f args hp k) (ha:RL φ args qs):OutOK φ k (Zcu h (lim P h) f qs H):=by
 unfold Ze8 at hc
 unfold Zcu
 split at hc
 ·rename_i ho
  rw[if_pos ho]
  obtain⟨v,H',φ',V,hp',J,I,j,h4,R⟩:=hc.out φ H qs C ha
  exact⟨v,H',φ',V,hp',J,I,j,h4,R⟩
 ·rename_i ho
  rw[if_neg (by rw[ho];simp)]
  obtain⟨U,l',e1,e2,e3,e4⟩:=Zxv C hc ha
  unfold Zgt
  rw[e1,Xab]
  split at e3
  ·rename_i hi
   rw[hi,cond_true]
   obtain⟨v,rows,sf,ψ,V,hn,ab,J,I,j,h4,R⟩:=e3.out U e2 H.length
   simp only[ZwC,J,Xak]
   have join: ∀ (H':List Mem) (hp':List SM),H'.length=H.length→hp'.length=hp.length→RH φ hp' (fun a=>H'[a]?)→k (shS hp.length V) (hp'++ZxK hp.length hn)→OutOK φ k (some (v,H'++rows)):=by
    intro H' hp' ad ae af hk
    rw[←ad]at j
    have:=af.join j
    rw[ae]at this
    refine⟨_,_,φ++ψ,_,_,rfl,Le.app _ _,this, ?_,hk⟩
    have:=RV.shift φ V v I
    rw[C.len]at this
    exact this
   have fl: ∀ids (hp:List SM),(frzT hp ids).length=hp.length:=by
    intro ids
    induction ids with
    |nil=>intro hp;rfl
    |cons i r ih=>
     intro hp
     show(frzT (frz1 hp i) r).length=_
     rw[ih]
     unfold frz1
     split<;>simp
   cases ab with
   |true=>
    rw[h4 rfl]
    exact join H hp rfl rfl C R
   |false=>
    cases sf with
    |true=>exact join H (frzT hp (Zsm hp args)) rfl (fl _ _) (Zog _ C) R
    |false=>exact join _ _ (ZaS _ _) (fl _ _) (ZgT C e4) R
  ·rename_i hi
   rw[hi,cond_false]
   obtain⟨q,V,J,I,j⟩:=e3.out U e2
   simp only[Zoe,J,Xab]
   have aa:RV φ V q:=RV.mono (fun i o h=>by simp at h) V q I
   split at j
   ·rename_i hm
    rw[if_pos hm]
    simp only[Xak,XaF]
    exact⟨_,_,φ,_,_,rfl,Le.refl φ,ZgT C e4,aa,j⟩
   ·rename_i hm
    rw[if_neg (by rw[hm];simp)]
    split at j
    ·rename_i ag
     rw[if_pos (Zui ag I)]
     simp only[Xak,XaF]
     exact⟨_,_,φ,_,_,rfl,Le.refl φ,C,aa,j⟩
    ·cases j
theorem ZvQ (hT:TysOK P T) (U:RH φ hp (fun a=>H[a]?)) (aa:Zq2 φ tm ρ) {c:Call} {k:SV→List SM→Prop} (j:Zn1 P h T c tm hp k):OutOK φ k (Zg3 P h (lim P h) H ρ c):=by
 obtain⟨callee,args,ts⟩:=c
 unfold Zn1 at j
 split at j
 ·cases j
 ·rename_i vs ab
  obtain⟨qs,J,I⟩:=Zje aa ab
  simp only at J j
  split at j
  ·split at j
   ·obtain⟨q,rfl,C⟩:=RL1 I
    split at j
    ·rename_i t r ad
     have h0:ts[0]? =some t:=by rw[←Array.getElem?_toList,ad];rfl
     show OutOK φ k (ZbY H (Zb1 P H ρ _ _))
     simp only[Zb1,J,Xab,Zbp,h0]
     exact .of_val U (ZwF hT j C)
    ·cases j
   ·simp only[RL]at I
    obtain⟨q,r',rfl,C,R⟩:=I
    show OutOK φ k (ZbY H (Zb1 P H ρ _ _))
    simp only[Zb1,J,Xab,Zbp]
    exact .of_val U (Zlj false j C R)
   ·simp only[RL]at I
    obtain⟨q,r',rfl,C,R⟩:=I
    show OutOK φ k (ZbY H (Zb1 P H ρ _ _))
    simp only[Zb1,J,Xab,Zbp]
    exact .of_val U (Zlj true j C R)
   ·simp only[RL]at I
    obtain⟨q,r',rfl,C,q2,r2,rfl,R,rfl⟩:=I
    show OutOK φ k (ZdU P h H ρ _)
    simp only[ZdU,J,Xab]
    exact Zqc hT U j C R
   ·simp only[RL]at I
    obtain⟨q,r',rfl,C,q2,r2,rfl,R,rfl⟩:=I
    show OutOK φ k (ZnW P H ρ _)
    simp only[ZnW,J,Xab]
    exact ZuX hT U j C R
   ·simp only[RL]at I
    obtain⟨q,r',rfl,C,rfl⟩:=I
    show OutOK φ k (Zjn P H ρ _)
    simp only[Zjn,J,Xab]
    exact ZtU hT U j C
   ·cases j
  ·rename_i f
   have e:=ZzG (P:=P) (h:=h) (E:=lim P h) (H:=H) (ρ:=ρ) f args ts
   show OutOK φ k (opE P h (lim P h) H ρ (.call ⟨.value (.func f),args,ts⟩))
   rw[e,J,Xab]
   exact ZiB U j I
  ·rename_i x hx
   split at j
   ·rename_i f a d hf
    obtain⟨q,h1,C⟩:=aa _ _ hf
    simp only[RV]at C
    obtain⟨a',d',rfl,R,h4⟩:=C
    have:Zg3 P h (lim P h) H ρ ⟨.value x,args,ts⟩=ZqZ h (lim P h) H ρ x ⟨.value x,args,ts⟩:=by
     cases x<;>first
      |rfl
      |(rename_i g;exact absurd rfl (hx g))
    rw[this]
    simp only[ZqZ,h1,Xab,J]
    exact ZiB U j ((R.app I).app h4)
   ·cases j
  ·cases j
theorem TysOK.smap {P:Program} {T:TypeId→TI} (C:TysOK P T) {t:TypeId} (j:(T t).k= .smap): ∃k e,P.underlying t=some (.map k e)∧Zjy P t=some (.string,e)∧ZcU P e=some (.bool false):=by
 have h:=(C.get j (by simp)).k
 rw[j]at h
 exact h
theorem Zvv (j:RH φ hp (fun a=>H[a]?)) {k:SV→List SM→Prop} (C:k (.mp hp.length) (hp++ [.set []])):OutOK φ k (ZiN H (some (.map H.length,[Mem.map []],[]))):=by
 refine⟨_,_,φ++ [some H.length],_,_,rfl,Le.app _ _,j.push ?_, ?_,C⟩
 ·simp only[RM]
  exact⟨_,[],rfl,by simp,trivial⟩
 ·simp only[RV]
  exact⟨_,Zkh j _,rfl⟩
abbrev Zz6 (k:List UInt8) (e:PV×PV):Prop:=e=(.str ⟨List.toArray k⟩, .bool true)
theorem RH.mp (J:RH φ hp (fun a=>H[a]?)) {id:Nat} {ks:List (List UInt8)} {q:PV} (j:nth hp id=some (.set ks)) (C:RV φ (.mp id) q): ∃a es,φ[id]? =some (some a)∧H[a]? =some (.map es)∧All2 Zz6 ks es∧q= .map a:=by
 simp only[RV]at C
 obtain⟨a,I,rfl⟩:=C
 rw[Za5]at j
 have hm:=J.row _ _ _ j I
 simp only[RM]at hm
 obtain⟨a',es,R,U,h3⟩:=hm
 cases R
 exact⟨a,es,I,U,h3,rfl⟩
theorem Zpm {s:List UInt8}: ∀ {ks:List (List UInt8)} {es:List (PV×PV)},All2 Zz6 ks es→Zek (.s ⟨s.toArray⟩) es=some (bif Zq0 s ks then some (.bool true)else none)
 | [],[],_=>rfl
 |k::ks,e::es,h=>by
  obtain⟨rfl,j⟩:=h
  have C:=Zpm (s:=s) j
  rw[Zek,Zq0]
  show(some (s==k)).bind _=_
  cases I:(s==k)with
  |true=>rfl
  |false=>simp only[Xab,C,cond_false]
theorem ZsA {s:List UInt8}: ∀ {ks:List (List UInt8)} {es:List (PV×PV)},All2 Zz6 ks es→ ∃es',ZeD (.s ⟨s.toArray⟩) (.bool true) es=some es'∧All2 Zz6 (ZuE s ks) es'
 | [],[],_=>⟨_,rfl,rfl,trivial⟩
 |k::ks,e::es,h=>by
  obtain⟨rfl,j⟩:=h
  obtain⟨es',C,I⟩:=ZsA (s:=s) j
  have e:ZeD (.s ⟨s.toArray⟩) (.bool true) ((.str ⟨k.toArray⟩, .bool true)::es)=(some (s==k)).bind fun b=>bif b then some ((.str ⟨s.toArray⟩, .bool true)::es)else(ZeD (.s ⟨s.toArray⟩) (.bool true) es).map ((.str ⟨k.toArray⟩, .bool true):: ·):=by rw[ZeD];rfl
  rw[e,ZuE,C]
  cases J:(s==k)with
  |true=>
   have R:s=k:=eq_of_beq J
   subst R
   exact⟨_,rfl,rfl,j⟩
  |false=>exact⟨_,rfl,rfl,I⟩
theorem KM.notIfc {P:Program} {t:TypeId} {k:TK} (h:KM P t k) (j:(∃i,k= .int i)∨k= .str):notIfc P t=true:=by
 rcases j with⟨i,rfl⟩|rfl
 ·simp only[KM]at h;unfold Am.notIfc;rw[h]
 ·simp only[KM]at h;unfold Am.notIfc;rw[h]
theorem ZvW {y:AV} {u:TypeId} {ok:Bool} {k:SV→Prop} {Z:SV} {z q:PV} (R:Am.notIfc P u=true) (hz:ZcU P u=some z) (hZ:RV φ Z z) (C:asT (y.is u) Z ok k) (hr:RV φ (.v .any y) q):ValOK φ k (Zdf P (some q) u ok):=by
 have hq:q=y.pv:=by simp only[RV,RR]at hr;simpa using hr
 subst hq
 have two: ∀ {V:SV} {v:PV} {b:Bool},RV φ V v→k (.tup [V, .v .b b])→ValOK φ k (some (.tup [v, .bool b])):=fun{V v b} J hk=>ValOK.mk (φ:=φ) (V:= .tup [V, .v .b b]) (by simp only[RV,RL];exact⟨_,rfl,_,_,rfl,J,_,_,rfl,by simp only[RR],rfl⟩) hk
 have j:y.is u=none→ValOK φ k (bif ok then(ZcU P u).map fun z=> .tup [z, .bool false]else none):=fun U=>by
  rw[U]at C
  cases ok with
  |true=>rw[cond_true,hz];exact two hZ C
  |false=>exact C.elim
 have hit: ∀ {V:SV} {v:PV},y.is u=some V→RV φ V v→ValOK φ k (some (bif ok then .tup [v, .bool true]else v)):=fun U J=>by
  rw[U]at C
  cases ok with
  |true=>exact two J C
  |false=>exact .mk J C
 cases y with
 |nil=>
  simp only[Zdf,Xab,R,cond_true,AV.pv]
  exact j rfl
 |i t k' n=>
  simp only[Zdf,Xab,R,cond_true,AV.pv]
  cases I:Nat.beq t u with
  |true=>rw[cond_true];exact hit (by simp only[AV.is,I]) (vi k' n)
  |false=>rw[cond_false];exact j (by simp only[AV.is,I])
 |s t x=>
  simp only[Zdf,Xab,R,cond_true,AV.pv]
  cases I:Nat.beq t u with
  |true=>rw[cond_true];exact hit (by simp only[AV.is,I]) (vs x)
  |false=>rw[cond_false];exact j (by simp only[AV.is,I])
theorem ZqT (I:TysOK P T) {y:AV} {u:TypeId} {ok:Bool} {k:SV→Prop} {q:PV} (C:Zod T y u ok k) (J:RV φ (.v .any y) q):ValOK φ k (Zdf P (some q) u ok):=by
 unfold Zod at C
 split at C
 ·rename_i R j
  have hi:=I.get j (by simp)
  exact ZvW ((j▸hi.k:KM P u (.int R)).notIfc (.inl ⟨_,rfl⟩)) (hi.zi _ j) (vi _ _) C J
 ·rename_i j
  have hi:=I.get j (by simp)
  exact ZvW ((j▸hi.k:KM P u .str).notIfc (.inr rfl)) (hi.zs j) (vs []) C J
 ·cases C
theorem Ztm (hT:TysOK P T) (hh:RH φ hp (fun a=>H[a]?)) (I:Zq2 φ tm ρ) {op:Op} {k:SV→List SM→Prop} (C:opT P h T op tm hp k):OutOK φ k (opE P h (lim P h) H ρ op):=by
 have mv: ∀x,(match evS tm x with|some V=>k V hp|none=>False)→OutOK φ k (ZbY H (ρ x)):=by
  intro x hx
  split at hx
  ·rename_i V hV
   obtain⟨q,R,U⟩:=I _ _ hV
   rw[R]
   exact .of_val hh ⟨q,V,rfl,U,hx⟩
  ·cases hx
 unfold opT at C
 split at C
 ·exact mv _ C
 ·exact mv _ C
 ·rename_i c a b
  split at C
  ·rename_i t hV
   obtain⟨q,R,U⟩:=I _ _ hV
   rw[ZeM U]at R
   show OutOK φ k (ZbY H (Zqb ρ c a b))
   simp only[Zqb,R,Xab]
   cases t with
   |true=>exact mv a (C.1 rfl)
   |false=>exact mv b (C.2 rfl)
  ·cases C
 ·rename_i t
  split at C
  ·cases C
  ·rename_i hk
   have h0:=hT.get rfl (fun e=>hk e)
   obtain⟨zs,hz,ah,aj⟩:=h0.zero
   show OutOK φ k (ZiN H (Zm1 P H.length t))
   simp only[Zm1,hz,Xak]
   exact Zl4 hh (ah φ) C
 ·rename_i x
  split at C
  ·rename_i V hV
   obtain⟨q,R,U⟩:=I _ _ hV
   split at C
   ·rename_i hn
    obtain⟨h3,h4⟩:=ZcN hn U
    show OutOK φ k (ZiN H (Zzq H.length (ρ x)))
    simp only[Zzq,R,Xab,h4,Xak]
    exact Zl4 hh h3 C
   ·cases C
  ·cases C
 ·split at C
  ·rename_i l hl
   obtain⟨qs,R,U⟩:=Ziy I hl
   show OutOK φ k (ZbY H (Zkf P ρ _ _))
   simp only[Zkf,ZfN,R,Xab]
   exact .of_val hh (Zsq hT C U)
  ·cases C
 ·rename_i t n ps
  split at C
  ·rename_i l hl
   obtain⟨qs,R,U⟩:=Ziy I hl
   show OutOK φ k (ZiN H (ZbM P H.length ρ t n ps))
   have:=Zjz hT hh C U
   simp only[ZbM,ZfN,R,Xab]
   cases hm:Zbm P t n qs with
   |none=>
    rw[hm]at this
    obtain⟨_,_,_,_,_,h3,_⟩:=this
    cases h3
   |some m=>rw[hm]at this;exact this
  ·cases C
 ·rename_i t a
  split at C
  ·rename_i V hV
   obtain⟨q,R,U⟩:=I _ _ hV
   show OutOK φ k (ZbY H (Zjv P H t (ρ a)))
   simp only[Zjv,R,Xab]
   exact .of_val hh (ZpF hT hh C U)
  ·cases C
 ·rename_i x
  show OutOK φ k (ZbY H (Zdl (ρ x)))
  split at C
  ·rename_i hV
   obtain⟨q,R,U⟩:=I _ _ hV
   have aa:=U
   simp only[RV]at aa
   obtain⟨a,_,rfl⟩:=aa
   simp only[Zdl,R,Xab]
   exact .of_val hh (.mk U C)
  ·rename_i hV
   obtain⟨q,R,U⟩:=I _ _ hV
   have aa:=U
   simp only[RV]at aa
   obtain⟨a,rfl,_⟩:=aa
   simp only[Zdl,R,Xab]
   exact .of_val hh (.mk U C)
  ·rename_i hV
   obtain⟨q,R,U⟩:=I _ _ hV
   have aa:=U
   simp only[RV]at aa
   obtain⟨_,_,rfl,_⟩:=aa
   simp only[Zdl,R,Xab]
   exact .of_val hh (.mk U C)
  ·cases C
 ·rename_i x y _
  split at C
  ·rename_i a b ha hb
   obtain⟨q,R,U⟩:=I _ _ ha
   obtain⟨q',ab,aa⟩:=I _ _ hb
   show OutOK φ k (ZbY H (Znk P _ _ y (ρ x) (ρ y)))
   obtain⟨r,V,h3,h4,h5⟩:=ZxX hT C U aa
   rw[ZqN (show ZAb P _ _ (ρ x) (ρ y)=some r by simp only[ZAb,R,ab,Xab,h3])]
   exact .of_val hh (.mk h4 h5)
  ·cases C
 ·rename_i x
  split at C
  ·rename_i a ha
   obtain⟨q,R,U⟩:=I _ _ ha
   show OutOK φ k (ZbY H (aUn _ (ρ x)))
   simp only[aUn,R,Xab]
   exact .of_val hh (Zzi C U)
  ·cases C
 ·rename_i x
  split at C
  ·rename_i a ha
   obtain⟨q,R,U⟩:=I _ _ ha
   show OutOK φ k (ZbY H (Zst P H _ _ (ρ x)))
   simp only[Zst,R,Xab]
   exact .of_val hh (Zuc hT hh C U)
  ·cases C
 ·rename_i t x
  split at C
  ·rename_i k0 k' n hk hV
   obtain⟨q,R,U⟩:=I _ _ hV
   have hi:=hT.get hk (by simp)
   show OutOK φ k (ZbY H (Zgj P t (ρ x)))
   rw[R,ZbX U]
   simp only[Zgj,Xab,(hk▸hi.k:KM P t (.int k0)).notIfc (.inl ⟨_,rfl⟩),cond_true,Zyy,Xak]
   exact .of_val hh (.mk (by simp only[RV,RR];rfl) C)
  ·rename_i s hk hV
   obtain⟨q,R,U⟩:=I _ _ hV
   have hi:=hT.get hk (by simp)
   show OutOK φ k (ZbY H (Zgj P t (ρ x)))
   rw[R,ZeG U]
   simp only[Zgj,Xab,(hk▸hi.k:KM P t .str).notIfc (.inr rfl),cond_true,Zyy,Xak]
   exact .of_val hh (.mk (by simp only[RV,RR];rfl) C)
  ·cases C
 ·rename_i x xt u ok
  split at C
  ·rename_i y hV
   obtain⟨q,R,U⟩:=I _ _ hV
   show OutOK φ k (ZbY H (Zdf P (ρ x) u ok))
   rw[R]
   exact .of_val hh (ZqT hT C U)
  ·cases C
 ·split at C
  ·split at C
   ·rename_i a c ha hc
    obtain⟨q,R,U⟩:=Zje I ha
    obtain⟨q',ab,aa⟩:=Zje I hc
    show OutOK φ k (ZbY H (Zqt ρ _ _ _))
    simp only[Zqt,R,ab,Xab,Xak]
    refine .of_val hh (.mk ?_ C)
    simp only[RV]
    exact⟨_,_,rfl,U,aa⟩
   ·cases C
  ·cases C
 ·exact ZkO hT hh I C
 ·split at C
  ·rename_i V hV
   obtain⟨q,R,U⟩:=I _ _ hV
   exact .of_val hh (ZrS hT hh I C R U)
  ·rename_i V hV
   obtain⟨q,R,U⟩:=I _ _ hV
   exact .of_val hh (Zqp hT hh I C R U)
  ·cases C
 ·rename_i x _
  split at C
  ·rename_i V hV
   obtain⟨q,R,U⟩:=I _ _ hV
   show OutOK φ k (ZbY H (Zft P _ (ρ x) _))
   simp only[Zft,R,Xab]
   exact .of_val hh (Zk4 hT C U)
  ·cases C
 ·rename_i x _
  split at C
  ·rename_i V hV
   obtain⟨q,R,U⟩:=I _ _ hV
   show OutOK φ k (ZbY H (Zpz P _ (ρ x) _))
   simp only[Zpz,R,Xab]
   exact .of_val hh (Zsp hT C U)
  ·cases C
 ·rename_i x j
  split at C
  ·rename_i V J hV hJ
   obtain⟨q,R,U⟩:=I _ _ hV
   obtain⟨q',ab,aa⟩:=I _ _ hJ
   show OutOK φ k (ZbY H (Zbh P H _ (ρ x) (ρ j)))
   simp only[Zbh,R,ab,Xab]
   exact .of_val hh (ZlC hT hh C U aa)
  ·cases C
 ·rename_i x j
  split at C
  ·rename_i V J hV hJ
   obtain⟨q,R,U⟩:=I _ _ hV
   obtain⟨q',ab,aa⟩:=I _ _ hJ
   show OutOK φ k (ZbY H (Zpv P _ (ρ x) (ρ j)))
   simp only[Zpv,R,ab,Xab]
   exact .of_val hh (Zry hT C U aa)
  ·cases C
 ·rename_i x i
  split at C
  ·rename_i vs hV
   obtain⟨q,R,U⟩:=I _ _ hV
   simp only[RV]at U
   obtain⟨qs,rfl,U⟩:=U
   split at C
   ·rename_i V hn
    rw[Za5]at hn
    obtain⟨q,h3,h4⟩:=U.get hn
    show OutOK φ k (ZbY H (Zes (ρ x) i))
    simp only[Zes,R,Xab,h3]
    exact .of_val hh (.mk h4 C)
   ·cases C
  ·cases C
 ·exact ZvQ hT hh I C
 ·rename_i t a x
  split at C
  ·rename_i A V hA hV
   obtain⟨q,R,U⟩:=I _ _ hA
   obtain⟨q',ab,aa⟩:=I _ _ hV
   show OutOK φ k (ZeE P H t (ρ a) (ρ x))
   rw[R,ab]
   exact ZrW hT hh C U aa
  ·cases C
 ·rename_i t r
  split at C
  ·rename_i hk
   obtain⟨kk,e,_,R,_⟩:=hT.smap hk
   show OutOK φ k (ZiN H (Zff P H.length t none))
   simp only[Zff,R,Xak]
   exact Zvv hh C
  ·cases C
 ·rename_i t x j ok
  split at C
  ·rename_i id s hk hV hJ
   obtain⟨kk,e,_,R,hz⟩:=hT.smap hk
   obtain⟨q,e1,e2⟩:=I _ _ hV
   obtain⟨q',ad,ae⟩:=I _ _ hJ
   split at C
   ·rename_i ks hn
    obtain⟨a,es,ag,ha,af,rfl⟩:=hh.mp hn e2
    show OutOK φ k (ZbY H (Zia P H t (ρ x) (ρ j) false))
    rw[e1,ad,ZeG ae]
    simp only[Zia,Xab,Zen,R,Am.keyOf,ZfH,cond_true,Zmg,ha,Zpm af,hz]
    refine .of_val hh ?_
    cases hb:Zq0 s ks with
    |true=>rw[hb]at C;show ValOK φ _ (some (.bool true));exact .mk (vb true) C
    |false=>rw[hb]at C;show ValOK φ _ (some (.bool false));exact .mk (vb false) C
   ·cases C
  ·cases C
 ·rename_i t m j x
  split at C
  ·rename_i id s hk hV hJ hX
   obtain⟨kk,e,_,R,hz⟩:=hT.smap hk
   obtain⟨q,e1,e2⟩:=I _ _ hV
   obtain⟨q',ad,ae⟩:=I _ _ hJ
   obtain⟨q2,e3,e4⟩:=I _ _ hX
   split at C
   ·rename_i ks hn
    obtain⟨a,es,ag,ha,af,rfl⟩:=hh.mp hn e2
    obtain⟨es',h5,h6⟩:=ZsA (s:=s) af
    show OutOK φ k (ZpS P H t (ρ m) (ρ j) (ρ x))
    have hw:ZpS P H t (some (.map a)) (some (.str ⟨s.toArray⟩)) (some (.bool true))=some (.tup [],H.set a (.map es')):=by
     simp only[ZpS,R,Xab,Am.keyOf,ZfH,cond_true,ha,h5,Xak]
    rw[e1,ad,e3,ZeG ae,ZeM e4,hw]
    rw[Za5]at hn
    have ai:a<H.length:=(Xae.1 ha).1
    refine⟨_,_,φ, .tup [],_,rfl,Le.refl φ,hh.set hn rfl ag ?_,by simp only[RV];exact⟨[],rfl,by simp only[RL]⟩,C⟩
    simp only[RM]
    exact⟨a,es',rfl,by rw[XaK ai],h6⟩
   ·cases C
  ·cases C
 ·cases C
end
open Go.Am
section
variable {P : Program} {h : Hints} {T : TypeId → TI} {φ : Ph} {hp : List SM} {tm : TM} {F : Nat}
theorem ZeU (i d:Nat) (V:SV) (tm:TM):ZcD i ((d,V)::tm)=bif Nat.beq i d then some V else ZcD i tm:=rfl
theorem SRep.put {st:St} (C:SRep φ tm hp st) {V:SV} {q:PV} (J:RV φ V q) (d:Nat):SRep φ ((d,V)::tm) hp ⟨(d,q)::st.tm,st.hp⟩:=by
 refine⟨fun i W j=> ?_,C.hp⟩
 rw[ZeU]at j
 show ∃R,(bif Nat.beq i d then some q else Am.get st.tm i)=some R∧_
 cases I:Nat.beq i d with
 |true=>
  rw[I]at j
  cases j
  exact⟨q,rfl,J⟩
 |false=>
  rw[I]at j
  exact C.tm i W j
theorem SRep.mono {st:St} (j:SRep φ tm hp st) {φ':Ph} (C:Le φ φ') {hp':List SM} {H':List Mem} (I:RH φ' hp' (fun a=>H'[a]?)):SRep φ' tm hp' ⟨st.tm,H'⟩:=
 ⟨fun i V J=>by obtain⟨q,R,U⟩:=j.tm i V J;exact⟨q,R,RV.mono C V q U⟩,I⟩
theorem SRep.ev {st:St} (hs:SRep φ tm hp st):Zq2 φ tm (ev st.tm):=by
 have I: ∀v V,Zk6 v=some V→ ∃q,ZfD v=some q∧RV φ V q:=by
  intro v V C
  unfold Zk6 at C
  split at C<;>first
   |(cases C;exact⟨.nilp,rfl,by simp only[RV]⟩)
   |(cases C;exact⟨.nils,rfl,by simp only[RV]⟩)
   |(cases C;exact⟨.nilf,rfl,by simp only[RV]⟩)
   |(cases C;exact⟨.nili,rfl,by simp only[RV]⟩)
   |(cases C;exact⟨.nilm,rfl,by simp only[RV]⟩)
   |(cases C;exact⟨_,rfl,vb _⟩)
   |(cases C;exact⟨_,rfl,vi _ _⟩)
   |(cases C;exact⟨_,rfl,vs' _⟩)
   |(cases C;done)
 intro x V j
 cases x with
 |tmp t=>exact hs.tm t V j
 |const v=>
  change Ztx v=some V at j
  show ∃q,Znl v=some q∧_
  unfold Ztx at j
  split at j
  ·rename_i cs
   have lst: ∀ (l:List Value) (Vs:List SV),Zh1 l=some Vs→ ∃J,ZaV ZfD l=some J∧RL φ Vs J:=by
    intro l
    induction l with
    |nil=>intro Vs h;cases h;exact⟨[],rfl,by simp only[RL]⟩
    |cons v r ih=>
     intro Vs h
     simp only[Zh1]at h
     split at h
     ·rename_i x j
      split at h
      ·rename_i y hy
       cases h
       obtain⟨q,R,U⟩:=I v x j
       obtain⟨J,h3,h4⟩:=ih y hy
       exact⟨q::J,by rw[Za7,R,h3];rfl,by simp only[RL];exact⟨_,_,rfl,U,h4⟩⟩
      ·cases h
     ·cases h
   split at j
   ·rename_i l hl
    cases j
    obtain⟨J,R,U⟩:=lst _ _ hl
    exact⟨.agg J,by simp only[Znl,R,Xak],by simp only[RV];exact⟨_,rfl,U⟩⟩
   ·cases j
  ·rename_i aa
   have e:Znl v=ZfD v:=by cases v<;>first|rfl|exact absurd rfl (aa _)
   rw[e]
   exact I v V j
 |global g=>cases j
 |func f=>
  cases j
  exact⟨.func f [] [],rfl,by simp only[RV,RL];exact⟨_,_,rfl,rfl,rfl⟩⟩
theorem Zkx {st:St} (I:SRep φ tm hp st) {V:SV} {q:PV} (J:RV φ V q) {N:Nat} {dst:Option Tmp} {k:TM→Prop} (j:Zdj N dst V tm k): ∃tm0 tm',Zfg N dst q st.tm=some tm0∧SRep φ tm' hp ⟨tm0,st.hp⟩∧k tm':=by
 unfold Zdj at j
 split at j
 ·exact⟨st.tm,tm,rfl,I,j⟩
 ·rename_i d
  split at j
  ·rename_i C
   have C:d+1≤N:=Xal C
   exact⟨(d,q)::st.tm,(d,V)::tm,if_pos (Nat.lt_of_succ_le C),I.put J d,j⟩
  ·cases j
theorem Zlc (hT:TysOK P T) {N:Nat} {ds:List (Option Tmp)}: ∀ (l:List Oper) (tm:TM) (hp:List SM) (k:TM→List SM→Prop) (φ:Ph) (st:St),wpOps P h T N ds l tm hp k→SRep φ tm hp st→
 ∃C φ' tm' hp',ZdV P h (lim P h) N ds l st=some C∧Le φ φ'∧SRep φ' tm' hp' C∧k tm' hp'
 | [],tm,hp,k,φ,st,hw,I=>⟨st,φ,tm,hp,rfl,Le.refl φ,I,hw⟩
 |⟨dst,op,ty,pos,after,g⟩::l,tm,hp,k,φ,⟨t0,H⟩,hw,I=>by
  have run:opT P h T op tm hp (fun V hp'=>Zdj N dst V tm fun tm'=>wpOps P h T N ds l tm' hp' k)→ ∃C φ' tm' hp',ZqX P h (lim P h) N ds dst l t0 (opE P h (lim P h) H (ev t0) op)=some C∧Le φ φ'∧SRep φ' tm' hp' C∧k tm' hp':=by
   intro ho
   obtain⟨q,H',ae,V,hp1,h1,J,h3,h4,h5⟩:=Ztm hT I.hp I.ev ho
   have af:=I.mono J h3
   obtain⟨tm0,tm',h6,h7,h8⟩:=Zkx af h4 h5
   obtain⟨C,φ',R,U,h9,aa,ab,ad⟩:=Zlc hT l tm' hp1 k ae _ h8 h7
   refine⟨C,φ',R,U, ?_,J.trans aa,ab,ad⟩
   rw[h1]
   simp only[ZqX,Xab]
   rw[show Zfg N dst q t0=some tm0 from h6]
   exact h9
  have skip:Zdj N dst (.tup []) tm (fun tm'=>wpOps P h T N ds l tm' hp k)→ ∃C φ' tm' hp',ZqX P h (lim P h) N ds dst l t0 (some (.tup [],H))=some C∧Le φ φ'∧SRep φ' tm' hp' C∧k tm' hp':=by
   intro ho
   obtain⟨tm0,tm',h6,h7,h8⟩:=Zkx I (V:= .tup []) (q:= .tup []) (by simp only[RV,RL];exact⟨_,rfl,rfl⟩) ho
   obtain⟨C,φ',R,U,h9,aa,ab,ad⟩:=Zlc hT l tm' hp k φ _ h8 h7
   refine⟨C,φ',R,U, ?_,aa,ab,ad⟩
   simp only[ZqX,Xab]
   rw[show Zfg N dst (.tup []) t0=some tm0 from h6]
   exact h9
  cases g with
  |none=>
   rw[ZzJ]
   exact run hw
  |some jw=>
   obtain⟨j,w⟩:=jw
   rw[Zq6,ZwP]
   simp only[wpOps]at hw
   split at hw
   ·rename_i d hd
    rw[Za5]at hd
    split at hw
    ·rename_i t ht
     obtain⟨q,h1,J⟩:=I.tm _ _ ht
     rw[ZeM J]at h1
     simp only[hd,Xab,id,show Am.get t0 d=_ from h1,ZwN]
     cases hb:t==w with
     |true=>rw[Zq4];exact run (hw.1 (by simpa using hb))
     |false=>rw[Zkk];exact skip (hw.2 (by cases t<;>cases w<;>simp at hb⊢))
    ·rename_i ht
     obtain⟨q,h1,J⟩:=I.tm _ _ ht
     simp only[RV,RL]at J
     obtain⟨_,rfl,rfl⟩:=J
     simp only[hd,Xab,id,show Am.get t0 d=_ from h1,ZwN]
     rw[Zkk]
     exact skip hw
    ·cases hw
   ·cases hw
theorem Zlq {id j:Nat}: ∀ {l:List Nat},Zsa id l=false→j∈l→id≠j
 |i::r,h,hj=>by
  simp only[Zsa]at h
  split at h
  ·cases h
  ·rename_i C
   rcases Xav.1 hj with rfl|hj
   ·intro e;subst e;simp at C
   ·exact Zlq h hj
theorem ZgM {j:Nat}: ∀ {l:List Nat},Zi4 hp l=true→j∈l→Zka hp j=true
 |i::r,h,hj=>by
  simp only[Zi4,Xag]at h
  rcases Xav.1 hj with rfl|hj
  ·exact h.1
  ·exact ZgM h.2 hj
theorem Zey {id:Nat} (h:Zka hp id=true): ∃m,hp[id]? =some m∧live m=true:=by
 unfold Zka at h
 split at h
 ·rename_i m hm
  rw[Za5]at hm
  exact⟨m,hm,h⟩
 ·cases h
theorem Zhp {H H':List Mem} {t:TypeId} {a i r b:Nat} {x:PV} (j:ZcL P H t (.ptr a i r) x=some H') (J:b≠a):H'[b]? =H[b]? :=by
 unfold ZcL at j
 simp only at j
 split at j
 ·rename_i es z he
  cases C:es[i]? with
  |none=>simp[C]at j
  |some c=>
   cases I:Za1 P t with
   |none=>simp[C,I]at j
   |some n=>
    simp only[C,I,Xab]at j
    split at j
    ·cases j
     rw[XaD (Ne.symm J)]
    ·cases j
 ·cases j
theorem ZvO {H H':List Mem} {t:TypeId} {a i r b:Nat} {x:PV} {es:List (List PV)} {z:Nat} {m:Bool} (j:ZcL P H t (.ptr a i r) x=some H') (I:H[b]? =some (.row es z m)): ∃es' U,H'[b]? =some (.row es' z U):=by
 by_cases C:b=a
 ·subst C
  unfold ZcL at j
  simp only[I]at j
  split at j
  ·rename_i aa z2 he
   cases he
   have hl:=(Xae.1 I).1
   cases J:es[i]? with
   |none=>simp[J]at j
   |some c=>
    cases R:Za1 P t with
    |none=>simp[J,R]at j
    |some n=>
     simp only[J,R,Xab]at j
     split at j
     ·cases j
      exact⟨_,true,XaK hl⟩
     ·cases j
  ·cases j
 ·exact⟨es,m,by rw[Zhp j C];exact I⟩
def ZAI (P:Program) (φ:Ph) (ks:List (Nat×Nat×Bool)) (H:List Mem) (x:Nat×Oper×List (Nat×PV)×PV):Prop:=
 ∃dst op ty pos after g,x.2.1=⟨dst,op,ty,pos,after,g⟩∧
  ((∀ (h:Hints) (E:Ev) (H':List Mem),ZaK P h E H' (Am.ev x.2.2.1) ⟨dst,op,ty,pos,after,g⟩=some x.2.2.2)∨
   (∃t y j es C,op= .indexAddr t y j∧Am.ev x.2.2.1 y=some (.lst es)∧Am.ev x.2.2.1 j=some C∧Zav P H t (.lst es) C=some x.2.2.2)∨
   (∃t y j place i n m C id,op= .indexAddr t y j∧Am.ev x.2.2.1 y=some (.ref place i n m)∧Am.ev x.2.2.1 j=some C∧(x.1,id,false)∈ks∧φ[id]? =some (some place)∧Zav P H t (.ref place i n m) C=some x.2.2.2)∨
   (∃t a c r,op= .load t a∧Am.ev x.2.2.1 a=some (.box c r)∧Zdd P t c r=some x.2.2.2)∨
   (∃t a place i r id,op= .load t a∧Am.ev x.2.2.1 a=some (.ptr place i r)∧(x.1,id,true)∈ks∧φ[id]? =some (some place)∧ZbF P H t (.ptr place i r)=some x.2.2.2))
def Accs (P:Program) (φ:Ph) (ks:List (Nat×Nat×Bool)) (H:List Mem) (acc:List (Nat×Oper×List (Nat×PV)×PV)):Prop:= ∀x∈acc,ZAI P φ ks H x
theorem Zpu {ks:List (Nat×Nat×Bool)} {H:List Mem}: ∀ {acc:List (Nat×Oper×List (Nat×PV)×PV)},Accs P φ ks H acc→Zdp P h (lim P h) acc H=some ()
 | [],_=>rfl
 |(n,o,tm0,v)::acc,R=>by
  have U:Zdp P h (lim P h) acc H=some ():=Zpu fun x hx=>R x (Xai _ hx)
  obtain⟨dst,op,ty,pos,after,g,rfl,hc⟩:=R _ Xah
  have fin: ∀ {r:Option PV},r=some v→ZpB P h (lim P h) acc H v r=some ():=fun h=>by rw[h,Zn7 _ _ _ _ (Znd v)];exact U
  rw[Zp5]
  rcases hc with C|⟨t,y,j,es,jv,rfl,C,I,J⟩|⟨t,y,j,place,i,n,m,jv,id,rfl,C,I,_,_,J⟩|⟨t,a,c,r,rfl,C,I⟩|⟨t,a,place,i,r,id,rfl,C,_,_,I⟩
  ·exact fin (C _ _ _)
  ·rw[Zco]
   refine fin ?_
   simp only at C I J
   simp only[Zbh,C,I,Xab,J]
  ·rw[Zco]
   refine fin ?_
   simp only at C I J
   simp only[Zbh,C,I,Xab,J]
  ·rw[Zfo]
   refine fin ?_
   simp only at C I
   simp only[Zjv,C,Xab,ZbF,I]
  ·rw[Zfo]
   refine fin ?_
   simp only at C I
   simp only[Zjv,C,Xab,I]
def Keeps (H H':List Mem):Prop:= ∀ (a:Nat) (es:List (List PV)) (z:Nat) (m:Bool),H[a]? =some (.row es z m)→ ∃j,H'[a]? =some (.row es z j)
theorem Keeps.refl (H:List Mem):Keeps H H:=fun _ _ _ m h=>⟨m,h⟩
theorem ZhE (ids:List Nat) (H rows:List Mem):Keeps H (Am.freeze ids H++rows):=by
 intro a es z m h
 obtain⟨J,I,j⟩:=Zc8 ids H a _ h
 have R:=(Xae.1 I).1
 cases J with
 |row es' z' C=>
  simp only[simM]at j
  obtain⟨rfl,rfl⟩:=j
  exact⟨C,by rw[Xar R];exact I⟩
 |_=>simp[simM]at j
theorem Zj6 {H:List Mem} {v:Option PV} {q:PV} {H':List Mem} (h:ZbY H v=some (q,H')):Keeps H H':=by
 cases v with
 |none=>cases h
 |some v=>cases h;exact Keeps.refl H
theorem ZjK {H:List Mem} {r:Res} {q:PV} {H':List Mem} (h:ZiN H r=some (q,H')):Keeps H H':=by
 cases r with
 |none=>cases h
 |some x=>cases h;exact ZhE _ _ _
theorem Zoc {H:List Mem} {ρ:Operand→Option PV} {E:Ev} {dst:Option Tmp} {op:Op} {ty:TypeId} {pos:String} {after:Array Edge} {g:Option (Nat×Bool)} {q:PV} {H':List Mem} (hw:isW h ⟨dst,op,ty,pos,after,g⟩=false) (j:opE P h E H ρ op=some (q,H')):Keeps H H':=by
 cases op<;>first
  |exact Zj6 j
  |exact ZjK j
  |(cases j;done)
  |(cases hw;done)
  |skip
 rename_i c
 have j:Zg3 P h E H ρ c=some (q,H'):=j
 have hw:ZzE h c=false:=hw
 unfold Zg3 at j
 unfold ZzE at hw
 split at j
 ·rename_i b I
  rw[I]at hw
  cases b<;>first
   |exact Zj6 j
   |(cases hw;done)
 ·rename_i f J
  rw[J]at hw
  have hw:h.opn f=false:=hw
  rw[hw]at j
  exact ZjK j
 ·rename_i x R U
  rw[U]at hw
  split at hw
  ·rename_i C;cases C
  ·rename_i f C
   cases C
   exact absurd rfl (R _)
  ·cases hw
 ·cases j
theorem ZsS {H:List Mem} {ρ:Operand→Option PV} {E:Ev} {c:Call} {q:PV} {H':List Mem} (J:Zq2 φ tm ρ) (C:ZAK h tm c=true) (j:opE P h E H ρ (.call c)=some (q,H')):Keeps H H':=by
 have j:Zg3 P h E H ρ c=some (q,H'):=j
 unfold ZAK at C
 unfold Zg3 at j
 split at C
 ·cases C
 ·rename_i x R hx
  rw[hx]at j
  split at C
  ·rename_i f a cc U
   obtain⟨p,hp1,I⟩:=J _ _ U
   simp only[RV]at I
   obtain⟨a',c',rfl,_,_⟩:=I
   have aa:h.opn f=false:=by simpa using C
   have j:ZqZ h E H ρ x c=some (q,H'):=by
    cases x<;>first
     |exact j
     |exact absurd rfl (R _)
   unfold ZqZ at j
   rw[hp1]at j
   simp only[Xab]at j
   cases hv:ZaV ρ c.args.toList with
   |none=>simp[hv]at j
   |some vs=>
    simp only[hv,Xab,Zcu,aa,XaG,if_false]at j
    obtain⟨r,_,hr⟩:=Option.map_eq_some_iff.1 j
    rw[← (Prod.mk.inj hr).2]
    exact ZhE _ _ _
  ·cases C
 ·cases C
theorem Keeps.load {H H':List Mem} (C:Keeps H H') {t:TypeId} {place i r:Nat} {v:PV} (j:ZbF P H t (.ptr place i r)=some v):ZbF P H' t (.ptr place i r)=some v:=by
 unfold ZbF at j⊢
 simp only at j⊢
 split at j
 ·rename_i es z m hm
  obtain⟨J,I⟩:=C _ _ _ _ hm
  rw[I]
  exact j
 ·cases j
def KeepsZ (H H':List Mem) (a:Nat):Prop:= ∀ (es:List (List PV)) (z:Nat) (m:Bool),H[a]? =some (.row es z m)→ ∃es' j,H'[a]? =some (.row es' z j)
theorem Keeps.z {H H':List Mem} (j:Keeps H H') (a:Nat):KeepsZ H H' a:=fun es z m h=>by
 obtain⟨C,I⟩:=j a es z m h
 exact⟨es,C,I⟩
theorem KeepsZ.index {H H':List Mem} {place:Nat} (R:KeepsZ H H' place) {t:TypeId} {i n m:Nat} {I v:PV} (C:Zav P H t (.ref place i n m) I=some v):Zav P H' t (.ref place i n m) I=some v:=by
 cases I with
 |int kk j=>
  cases hu:P.underlying t with
  |none=>simp[Zav,hu]at C
  |some u=>
   cases u with
   |slice e=>
    cases J:Za1 P e with
    |none=>simp[Zav,hu,J]at C
    |some z=>
     simp only[Zav,hu,J,Xab]at C⊢
     split at C
     ·rename_i U
      rw[if_pos U]
      split at C
      ·rename_i es z' m' hm
       obtain⟨es',aa,h2⟩:=R _ _ _ hm
       rw[h2]
       exact C
      ·cases C
     ·cases C
   |_=>simp[Zav,hu]at C
 |_=>simp[Zav]at C
theorem Zsb {H H':List Mem} {t:TypeId} {es:List (List PV)} {I v:PV} (C:Zav P H t (.lst es) I=some v):Zav P H' t (.lst es) I=some v:=by
 cases I with
 |int kk j=>
  cases hu:P.underlying t with
  |none=>simp[Zav,hu]at C
  |some u=>cases u<;>first
   |(simp only[Zav,hu]at C⊢;exact C)
   |(simp[Zav,hu]at C;done)
 |_=>simp[Zav]at C
theorem ZsV {o:Oper} {acc:List (Nat×Oper×List (Nat×PV)×PV)} {x:Nat×Oper×List (Nat×PV)×PV} (hx:x∈Zb9 h o acc):x∈acc∧(isW h o=true→ZdT o x.1=false):=by
 refine⟨Zr8 hx,fun hw=> ?_⟩
 unfold Zb9 at hx
 rw[hw,cond_true]at hx
 clear hw
 induction acc with
 |nil=>cases hx
 |cons y acc C=>
  have hx:x∈(bif ZdT o y.1 then _ else y::_:List _):=hx
  cases j:ZdT o y.1 with
  |true=>rw[j,cond_true]at hx;exact C hx
  |false=>
   rw[j,cond_false]at hx
   rcases Xav.1 hx with rfl|hx
   ·exact j
   ·exact C hx
theorem ZiA {o:Oper} {y:Nat×Nat×Bool} (j:ZdT o y.1=false): ∀ {ks:List (Nat×Nat×Bool)},y∈ks→y∈ZrH o ks
 |x::r,hm=>by
  simp only[ZrH]
  rcases Xav.1 hm with rfl|hm
  ·rw[j]
   exact Xah
  ·split
   ·exact ZiA j hm
   ·exact Xai _ (ZiA j hm)
theorem Zmt {o:Oper} {y:Nat×Nat×Bool} {ks:List (Nat×Nat×Bool)} (hm:y∈ks) (j:isW h o=true→ZdT o y.1=false):y∈ZqJ h o ks:=by
 unfold ZqJ
 split
 ·rename_i hw
  exact ZiA (j hw) hm
 ·exact hm
theorem Accs.drop {o:Oper} {ks:List (Nat×Nat×Bool)} {H:List Mem} {acc:List (Nat×Oper×List (Nat×PV)×PV)} (ha:Accs P φ ks H acc):Accs P φ (ZqJ h o ks) H (Zb9 h o acc):=by
 intro x hx
 obtain⟨h1,h2⟩:=ZsV hx
 obtain⟨dst,op,ty,pos,after,g,e,hc⟩:=ha x h1
 refine⟨dst,op,ty,pos,after,g,e, ?_⟩
 rcases hc with hc|hc|⟨t,y,j,place,i,n,m,jv,id,C,I,J,R,U,e6⟩|hc|⟨t,a,place,i,r,id,C,I,J,R,U⟩
 ·exact .inl hc
 ·exact .inr (.inl hc)
 ·exact .inr (.inr (.inl ⟨t,y,j,place,i,n,m,jv,id,C,I,J,Zmt R h2,U,e6⟩))
 ·exact .inr (.inr (.inr (.inl hc)))
 ·exact .inr (.inr (.inr (.inr ⟨t,a,place,i,r,id,C,I,Zmt J h2,R,U⟩)))
theorem Accs.more {ks:List (Nat×Nat×Bool)} {H:List Mem} {acc:List (Nat×Oper×List (Nat×PV)×PV)} {φ':Ph} (ha:Accs P φ ks H acc) (hl:Le φ φ') (y:Nat×Nat×Bool):Accs P φ' (y::ks) H acc:=by
 intro x hx
 obtain⟨dst,op,ty,pos,after,g,e,hc⟩:=ha x hx
 refine⟨dst,op,ty,pos,after,g,e, ?_⟩
 rcases hc with hc|hc|⟨t,y,j,place,i,n,m,jv,id,C,I,J,R,U,e6⟩|hc|⟨t,a,place,i,r,id,C,I,J,R,U⟩
 ·exact .inl hc
 ·exact .inr (.inl hc)
 ·exact .inr (.inr (.inl ⟨t,y,j,place,i,n,m,jv,id,C,I,J,Xai _ R,hl _ _ U,e6⟩))
 ·exact .inr (.inr (.inr (.inl hc)))
 ·exact .inr (.inr (.inr (.inr ⟨t,a,place,i,r,id,C,I,Xai _ J,hl _ _ R,U⟩)))
theorem Accs.mono {ks:List (Nat×Nat×Bool)} {H:List Mem} {acc:List (Nat×Oper×List (Nat×PV)×PV)} {φ':Ph} (ha:Accs P φ ks H acc) (hl:Le φ φ'):Accs P φ' ks H acc:=by
 intro x hx
 obtain⟨dst,op,ty,pos,after,g,e,hc⟩:=ha x hx
 refine⟨dst,op,ty,pos,after,g,e, ?_⟩
 rcases hc with hc|hc|⟨t,y,j,place,i,n,m,jv,id,C,I,J,R,U,e6⟩|hc|⟨t,a,place,i,r,id,C,I,J,R,U⟩
 ·exact .inl hc
 ·exact .inr (.inl hc)
 ·exact .inr (.inr (.inl ⟨t,y,j,place,i,n,m,jv,id,C,I,J,R,hl _ _ U,e6⟩))
 ·exact .inr (.inr (.inr (.inl hc)))
 ·exact .inr (.inr (.inr (.inr ⟨t,a,place,i,r,id,C,I,J,hl _ _ R,U⟩)))
theorem Accs.keep {ks:List (Nat×Nat×Bool)} {H H':List Mem} {acc:List (Nat×Oper×List (Nat×PV)×PV)} {φ':Ph} (ha:Accs P φ ks H acc) (hl:Le φ φ') (hz: ∀i id place,(i,id,false)∈ks→φ[id]? =some (some place)→KeepsZ H H' place) (hd: ∀i id place,(i,id,true)∈ks→φ[id]? =some (some place)→ ∀t j r v,ZbF P H t (.ptr place j r)=some v→ZbF P H' t (.ptr place j r)=some v):Accs P φ' ks H' acc:=by
 intro x hx
 obtain⟨dst,op,ty,pos,after,g,e,hc⟩:=ha x hx
 refine⟨dst,op,ty,pos,after,g,e, ?_⟩
 rcases hc with hc|⟨t,y,j,es,jv,J,R,I,C⟩|⟨t,y,j,place,i,n,m,jv,id,J,R,I,C,U,e6⟩|hc|⟨t,a,place,i,r,id,J,R,I,C,U⟩
 ·exact .inl hc
 ·exact .inr (.inl ⟨t,y,j,es,jv,J,R,I,Zsb C⟩)
 ·exact .inr (.inr (.inl ⟨t,y,j,place,i,n,m,jv,id,J,R,I,C,hl _ _ U,(hz _ _ _ C U).index e6⟩))
 ·exact .inr (.inr (.inr (.inl hc)))
 ·exact .inr (.inr (.inr (.inr ⟨t,a,place,i,r,id,J,R,I,hl _ _ C,hd _ _ _ I C _ _ _ _ U⟩)))
theorem Ze9 {i id:Nat}: ∀ {ks:List (Nat×Nat×Bool)},(i,id,true)∈ks→id∈ZmQ ks
 |(C,j,true)::r,hm=>by
  rcases Xav.1 hm with e|hm
  ·cases e
   exact Xah
  ·exact Xai _ (Ze9 hm)
 |(C,j,false)::r,hm=>by
  rcases Xav.1 hm with e|hm
  ·cases e
  ·show id∈ZmQ r
   exact Ze9 hm
theorem ZoM {L:Nat→Option Mem} {a:Nat} {sm:SM} {z:Nat} (hm:RM φ L (some a) sm) (hw:ZzU sm=some z): ∃es m,L a=some (.row es z m):=by
 cases sm with
 |row t l m=>
  simp only[RM]at hm
  obtain⟨es,j,C,_⟩:=hm
  cases hw
  exact⟨es,j,C⟩
 |cell cs m=>
  simp only[RM]at hm
  obtain⟨a',I,j,J,C,R,_⟩:=hm
  cases J
  cases hw
  refine⟨[I],j, ?_⟩
  rw[C,R.len]
 |many ct U m=>
  simp only[RM]at hm
  obtain⟨es,j,C,_⟩:=hm
  cases hw
  exact⟨es,j,C⟩
 |set ks=>cases hw
 |dead=>cases hw
theorem ZlI {hp hp':List SM} {i id:Nat} {b:Bool}: ∀ {ks:List (Nat×Nat×Bool)},Zuo hp hp' ks=true→(i,id,b)∈ks→ ∃sm j z,hp[id]? =some sm∧hp'[id]? =some j∧ZzU sm=some z∧ZzU j=some z
 |(i',R,b')::r,h,hm=>by
  simp only[Zuo]at h
  split at h
  ·rename_i x y U hy
   simp only[Xag]at h
   rcases Xav.1 hm with e|hm
   ·cases e
    obtain⟨sm,C,I⟩:=Option.bind_eq_some_iff.1 U
    obtain⟨j,J,h4⟩:=Option.bind_eq_some_iff.1 hy
    rw[Za5]at C J
    rw[Xam h.1]at I
    exact⟨sm,j,_,C,J,I,h4⟩
   ·exact ZlI h.2 hm
  ·cases h
theorem Zou {i id:Nat} {b:Bool}: ∀ {ks:List (Nat×Nat×Bool)},(i,id,b)∈ks→id∈ZAa ks
 |(C,j,I)::r,hm=>by
  rcases Xav.1 hm with e|hm
  ·cases e
   exact Xah
  ·exact Xai _ (Zou hm)
theorem Zmc {H H':List Mem} {place:Nat} (J: ∀ (es:List (List PV)) (z:Nat) (m:Bool),H[place]? =some (.row es z m)→ ∃I,H'[place]? =some (.row es z I)) {t:TypeId} {j r:Nat} {v:PV} (C:ZbF P H t (.ptr place j r)=some v):ZbF P H' t (.ptr place j r)=some v:=by
 simp only[ZbF]at C⊢
 split at C
 ·rename_i es z m hm
  obtain⟨I,R⟩:=J es z m hm
  rw[R];exact C
 ·cases C
theorem ZlT {H H':List Mem} {ρ:Operand→Option PV} {E:Ev} {c:Call} {q:PV} {oi:Option Nat} (ab:Zq2 φ tm ρ) (U:ZAB tm c=some oi) (ho:opE P h E H ρ (.call c)=some (q,H')):
 ∀place,(∀id,some id=oi→φ[id]?≠some (some place))→ ∀ (es:List (List PV)) (z:Nat) (m:Bool),H[place]? =some (.row es z m)→ ∃m',H'[place]? =some (.row es z m'):=by
 have ho:Zg3 P h E H ρ c=some (q,H'):=ho
 unfold ZAB at U
 unfold Zg3 at ho
 split at U
 ·rename_i hc
  rw[hc]at ho
  have ho:ZdU P h H ρ c=some (q,H'):=ho
  unfold ZdU at ho
  obtain⟨vs,h1,g1⟩:=Zak ho
  split at g1
  ·rename_i s x
   split at U
   ·rename_i y ys hy
    rw[hy]at h1
    obtain⟨b,r,h2,h3,h4⟩:=ZaD h1
    obtain⟨rfl,rfl⟩:b=s∧r=[x]:=by cases h4;exact⟨rfl,rfl⟩
    have key: ∀ {H1:List Mem} {x1:PV},Zcw P H1 c.argTypes b x1=some (q,H')→ ∀place,(∀i n m,b= .ref place i n m→False)→ ∀m1,H1[place]? =some m1→H'[place]? =some m1:=by
     intro H1 x1 C place R m1 I
     unfold Zcw at C
     obtain⟨t,_,C⟩:=Zak C
     obtain⟨e,_,C⟩:=Zak C
     obtain⟨z,_,C⟩:=Zak C
     obtain⟨by_,_,C⟩:=Zak C
     obtain⟨zero,_,C⟩:=Zak C
     obtain⟨new,_,C⟩:=Zak C
     obtain⟨_,C⟩:=Zar C
     have ad:=(Xae.1 I).1
     cases b with
     |nils=>
      simp only[ZbE]at C
      split at C
      ·cases C;exact I
      ·obtain⟨_,C⟩:=Zar C
       cases C
       rw[Xar ad];exact I
     |ref id j n room=>
      have ae:id≠place:=by rintro rfl;exact R _ _ _ rfl
      simp only[ZbE]at C
      split at C
      ·obtain⟨_,C⟩:=Zar C
       split at C
       ·cases C;exact I
       ·split at C
        ·obtain⟨_,C⟩:=Zar C
         cases C
         rw[XaD ae];exact I
        ·obtain⟨_,C⟩:=Zar C
         cases C
         rw[Xar (by simpa using ad),XaD ae];exact I
      ·cases C
     |_=>simp[ZbE]at C
    intro place af es z m hm
    have R: ∀i n m,b= .ref place i n m→False:=by
     rintro i n m rfl
     split at U
     ·rename_i aa
      obtain⟨p,hp1,J⟩:=ab _ _ aa
      simp only[RV]at J
      rw[h2]at hp1;cases hp1;cases J
     ·rename_i id i2 n2 m2 aa
      obtain⟨p,hp1,J⟩:=ab _ _ aa
      rw[h2]at hp1;cases hp1
      simp only[RV]at J
      cases U
      rcases J with⟨a,h5,h6⟩|⟨_,h6,_⟩
      ·cases h6
       exact af _ rfl h5
      ·cases h6
     ·cases U
    unfold ZdO at g1
    cases hf:Am.frzT h c.argTypes with
    |false=>rw[hf,cond_false]at g1;exact⟨m,key g1 place R _ hm⟩
    |true=>
     rw[hf,cond_true]at g1
     obtain⟨x',_,h7⟩:=Zak g1
     obtain⟨m',h8,h9⟩:=Zc8 (rch ZaL H x) H place _ hm
     cases m'<;>simp[simM]at h9
     obtain⟨rfl,rfl⟩:=h9
     exact⟨_,key h7 place R _ h8⟩
   ·cases U
  ·cases g1
 ·cases U
theorem Zid {H H':List Mem} {t:TypeId} {p:PV} (hp: ∀id,p≠ .map id):Zd5 P H' t p=Zd5 P H t p:=by
 unfold Zd5
 cases P.underlying t with
 |none=>rfl
 |some u=>cases u<;>cases p<;>first|rfl|exact absurd rfl (hp _)
theorem Zt0 {H:List Mem} {ρ:Operand→Option PV} {c:Call} (C:Zq2 φ tm ρ) (J:ZBa tm c=true): ∃r:List Mem→Option PV,(∀ (h:Hints) (E:Ev) (H:List Mem),opE P h E H ρ (.call c)=ZbY H (r H))∧(∀ (h:Hints) (E:Ev) (H':List Mem) (dst:Option Tmp) (ty:TypeId) (pos:String) (after:Array Edge),ZaK P h E H' ρ ⟨dst, .call c,ty,pos,after,none⟩=r H)∧ ∀H',r H'=r H:=by
 obtain⟨callee,args,ts⟩:=c
 cases callee<;>first|(cases J;done)|skip
 case builtin b=>
  have main:(∀H',((ZaV ρ args.toList).bind fun vs=>Zbp P H' b ts vs)=(ZaV ρ args.toList).bind fun vs=>Zbp P H b ts vs)→(∀ (h:Hints) (E:Ev) (H:List Mem),opE P h E H ρ (.call ⟨.builtin b,args,ts⟩)=ZbY H ((ZaV ρ args.toList).bind fun vs=>Zbp P H b ts vs))→_:=fun U ho=>
   (⟨fun H'=>(ZaV ρ args.toList).bind fun vs=>Zbp P H' b ts vs,ho,fun _ E H' dst ty pos after=>(ZcJ _).trans (U H'),U⟩: ∃r:List Mem→Option PV,(∀ (h:Hints) (E:Ev) (H:List Mem),opE P h E H ρ (.call ⟨.builtin b,args,ts⟩)=ZbY H (r H))∧(∀ (h:Hints) (E:Ev) (H':List Mem) (dst:Option Tmp) (ty:TypeId) (pos:String) (after:Array Edge),ZaK P h E H' ρ ⟨dst, .call ⟨.builtin b,args,ts⟩,ty,pos,after,none⟩=r H)∧ ∀H',r H'=r H)
  cases b
  case min=>exact main (fun H'=>congrArg (Option.bind _) (funext fun vs=>by cases vs<;>rfl)) (fun _ _ _=>rfl)
  case max=>exact main (fun H'=>congrArg (Option.bind _) (funext fun vs=>by cases vs<;>rfl)) (fun _ _ _=>rfl)
  case len=>
   refine main (fun H'=> ?_) (fun _ _ _=>rfl)
   simp only[ZBa]at J
   split at J
   ·rename_i ct xs he
    obtain⟨qs,R,j⟩:=Zje C he
    rw[R]
    simp only[RL]at j
    obtain⟨q,_,rfl,I,rfl⟩:=j
    have: ∀id,q≠ .map id:=fun id e=>by
     rcases ZhN I with⟨rfl,_⟩|⟨es,rfl,_⟩<;>cases e
    simp only[Xab,Zbp,Zid (H:=H) (H':=H') this]
   ·rename_i he
    obtain⟨qs,R,j⟩:=Zje C he
    rw[R]
    simp only[RL]at j
    obtain⟨q,_,rfl,I,rfl⟩:=j
    simp only[RV]at I
    subst I
    have e:=fun t=>Zid (P:=P) (H:=H) (H':=H') (t:=t) (p:= .nils) (fun id e=>by cases e)
    simp only[Xab,Zbp,e]
   ·rename_i he
    obtain⟨qs,R,j⟩:=Zje C he
    rw[R]
    simp only[RL]at j
    obtain⟨q,_,rfl,I,rfl⟩:=j
    simp only[RV]at I
    have: ∀id,q≠ .map id:=fun id e=>by
     rcases I with⟨_,_,rfl⟩|⟨_,rfl,_⟩<;>cases e
    simp only[Xab,Zbp,Zid (H:=H) (H':=H') this]
   ·cases J
  all_goals cases J
theorem ZiS (hT:TysOK P T) {N:Nat} {ls:List Nat}: ∀ (l:List Oper) (i:Nat) (ks:List (Nat×Nat×Bool)) (tm:TM) (hp:List SM) (k:TM→List SM→Prop) (φ:Ph) (st:St) (acc:List (Nat×Oper×List (Nat×PV)×PV)),ZaW P h T N ls l i ks tm hp k→noG l=true→SRep φ tm hp st→Accs P φ ks st.hp acc→
 ∃ab φ' tm' hp',Zno P h (lim P h) N ls l i acc st=some ab∧Le φ φ'∧SRep φ' tm' hp' ab∧k tm' hp'
 | [],i,ks,tm,hp,k,φ,st,acc,hw,_,hs,_=>⟨st,φ,tm,hp,rfl,Le.refl φ,hs,hw⟩
 |⟨dst,op,ty,pos,after,some g⟩::l,i,ks,tm,hp,k,φ,st,acc,hw,hg,hs,C=>by cases hg
 |⟨dst,op,ty,pos,after,none⟩::l,i,ks,tm,hp,k,φ,⟨t0,H⟩,acc,hw,hg,hs,C=>by
  have hg:noG l=true:=hg
  simp only[ZaW]at hw
  split at hw
  ·rename_i hi
   have light: ∀ (ks2:List (Nat×Nat×Bool)) (r:Option PV),opE P h (lim P h) H (Am.ev t0) op=ZbY H r→ZaK P h (lim P h) H (Am.ev t0) ⟨dst,op,ty,pos,after,none⟩=r→(∀q I,r=some q→Le φ I→Accs P I ks2 H ((i,⟨dst,op,ty,pos,after,none⟩,t0,q)::acc))→
    opT P h T op tm hp (fun V hp'=>Zdj N dst V tm fun tm'=>ZaW P h T N ls l (i+1) ks2 tm' hp' k)→ ∃ab φ' tm' hp',Zno P h (lim P h) N ls (⟨dst,op,ty,pos,after,none⟩::l) i acc ⟨t0,H⟩=some ab∧Le φ φ'∧SRep φ' tm' hp' ab∧k tm' hp':=by
    intro ks2 r hr hl ha ho
    obtain⟨q,H',I,V,hp1,h1,h2,h3,h4,h5⟩:=Ztm hT hs.hp hs.ev ho
    rw[hr]at h1
    cases r with
    |none=>cases h1
    |some q'=>
     obtain⟨rfl,rfl⟩:q'=q∧H=H':=by cases h1;exact⟨rfl,rfl⟩
     have an:=hs.mono h2 h3
     obtain⟨tm0,tm',h6,h7,h8⟩:=Zkx an h4 h5
     obtain⟨ab,φ',ao,R,h9,aq,ar,au⟩:=ZiS hT l (i+1) ks2 tm' hp1 k I _ ((i,⟨dst,op,ty,pos,after,none⟩,t0,q')::acc) h8 hg h7 (ha q' I rfl h2)
     refine⟨ab,φ',ao,R, ?_,h2.trans aq,ar,au⟩
     rw[Zqd _ _ _ _ _ _ _ _ _ _ _ _ hi,hl]
     simp only[ZzD]
     rw[show Zfg N dst q' t0=some tm0 from h6]
     exact h9
   split at hw
   ·rename_i t a
    split at hw
    ·rename_i id j r ad
     obtain⟨p,J,R⟩:=hs.ev _ _ ad
     simp only[RV]at R
     obtain⟨place,aa,rfl⟩:=R
     refine light _ (Zjv P H t (Am.ev t0 a)) rfl (Zfo _ _ _ _ _ _ _) (fun q I U hl x hx=> ?_) hw
     rcases Xav.1 hx with rfl|hx
     ·rw[show Am.ev t0 a=_ from J]at U
      exact⟨dst,_,ty,pos,after,none,rfl, .inr (.inr (.inr (.inr ⟨t,a,place,j,r,id,rfl,J,Xah,hl _ _ aa,U⟩)))⟩
     ·exact(C.more hl _) x hx
    ·rename_i ct y r ad
     obtain⟨p,J,R⟩:=hs.ev _ _ ad
     simp only[RV]at R
     obtain⟨cs,rfl,_⟩:=R
     refine light _ (Zjv P H t (Am.ev t0 a)) rfl (Zfo _ _ _ _ _ _ _) (fun q I U hl x hx=> ?_) hw
     rcases Xav.1 hx with rfl|hx
     ·rw[show Am.ev t0 a=_ from J]at U
      exact⟨dst,_,ty,pos,after,none,rfl, .inr (.inr (.inr (.inl ⟨t,a,cs,r,rfl,J,U⟩)))⟩
     ·exact(C.mono hl) x hx
    ·cases hw
   ·rename_i y
    refine light _ (Am.ev t0 y) rfl (ZjL _ _ _ _ _ _) (fun q I U hl x hx=> ?_) hw
    rcases Xav.1 hx with rfl|hx
    ·exact⟨dst,_,ty,pos,after,none,rfl, .inl fun h E H'=>(ZjL _ _ _ _ _ _).trans U⟩
    ·exact(C.mono hl) x hx
   ·rename_i t y j
    split at hw
    ·rename_i id i2 n2 m2 ad
     obtain⟨p,J,R⟩:=hs.ev _ _ ad
     simp only[RV]at R
     refine light _ (Zbh P H t (Am.ev t0 y) (Am.ev t0 j)) rfl (Zco _ _ _ _ _ _ _ _) (fun q I U hl x hx=> ?_) hw
     rcases Xav.1 hx with rfl|hx
     ·rw[show Am.ev t0 y=_ from J]at U
      cases hj:Am.ev t0 j with
      |none=>simp[Zbh,hj]at U
      |some jv=>
       rw[hj]at U
       have U:Zav P H t p jv=some q:=U
       rcases R with⟨place,aa,rfl⟩|⟨_,rfl,_⟩
       ·exact⟨dst,_,ty,pos,after,none,rfl, .inr (.inr (.inl ⟨t,y,j,place,i2,n2,m2.getD n2,jv,id,rfl,J,hj,Xah,hl _ _ aa,U⟩))⟩
       ·exfalso
        unfold Zav at U
        cases jv<;>first
         |(cases U;done)
         |(cases hu:P.underlying t with
          |none=>simp[hu]at U
          |some u=>cases u<;>simp[hu]at U)
     ·exact(C.more hl _) x hx
    ·rename_i ct xs ad
     obtain⟨p,J,R⟩:=hs.ev _ _ ad
     refine light _ (Zbh P H t (Am.ev t0 y) (Am.ev t0 j)) rfl (Zco _ _ _ _ _ _ _ _) (fun q I U hl x hx=> ?_) hw
     rcases Xav.1 hx with rfl|hx
     ·rw[show Am.ev t0 y=_ from J]at U
      cases hj:Am.ev t0 j with
      |none=>simp[Zbh,hj]at U
      |some jv=>
       rw[hj]at U
       have U:Zav P H t p jv=some q:=U
       rcases ZhN R with⟨rfl,_⟩|⟨es,rfl,_⟩
       ·exfalso
        unfold Zav at U
        cases jv<;>first
         |(cases U;done)
         |(cases hu:P.underlying t with
          |none=>simp[hu]at U
          |some u=>cases u<;>simp[hu]at U)
       ·exact⟨dst,_,ty,pos,after,none,rfl, .inr (.inl ⟨t,y,j,es,jv,rfl,J,hj,U⟩)⟩
     ·exact(C.mono hl) x hx
    ·cases hw
   ·rename_i bo t y z zt
    refine light _ (Znk P bo t z (Am.ev t0 y) (Am.ev t0 z)) rfl (ZcJ _) (fun q I U hl x hx=> ?_) hw
    rcases Xav.1 hx with rfl|hx
    ·exact⟨dst,_,ty,pos,after,none,rfl, .inl fun h E H'=>(ZcJ _).trans U⟩
    ·exact(C.mono hl) x hx
   ·rename_i t y lo hi mx
    split at hw
    ·rename_i ct xs ad
     obtain⟨p,J,R⟩:=hs.ev _ _ ad
     have a1: ∀H',Zcd P H' (Am.ev t0) t y lo hi mx=Zcd P H (Am.ev t0) t y lo hi mx:=fun H'=>by
      unfold Zcd
      rw[show Am.ev t0 y=_ from J]
      have a6: ∀ (H1 H2:List Mem) l k m,ZbO P H1 t p l k m=ZbO P H2 t p l k m:=fun H1 H2 l k m=>by
       rcases ZhN R with⟨rfl,_⟩|⟨es,rfl,_⟩<;>(unfold ZbO;cases P.underlying t with
        |none=>rfl
        |some u=>cases u<;>rfl)
      simp only[Xab,a6 H' H]
     refine light _ (Zcd P H (Am.ev t0) t y lo hi mx) rfl (ZcJ _) (fun q I U hl x hx=> ?_) hw
     rcases Xav.1 hx with rfl|hx
     ·exact⟨dst,_,ty,pos,after,none,rfl, .inl fun h E H'=>(ZcJ _).trans ((a1 H').trans U)⟩
     ·exact(C.mono hl) x hx
    ·cases hw
   ·rename_i c
    split at hw
    ·rename_i U
     obtain⟨r,h1,h2,h3⟩:=Zt0 (P:=P) (H:=H) hs.ev U
     refine light _ (r H) (h1 _ _ _) (h2 _ _ _ _ _ _ _) (fun q I a7 hl x hx=> ?_) hw
     rcases Xav.1 hx with rfl|hx
     ·exact⟨dst,_,ty,pos,after,none,rfl, .inl fun h' E H'=>(h2 h' E H' _ _ _ _).trans a7⟩
     ·exact(C.mono hl) x hx
    ·cases hw
   ·cases hw
  ·rename_i hi
   have C:=C.drop (h:=h) (o:=⟨dst,op,ty,pos,after,none⟩)
   have step: ∀ (ks2:List (Nat×Nat×Bool)) (kk:SV→List SM→Prop),opT P h T op tm hp kk→(∀V hp1,kk V hp1→Zdj N dst V tm fun tm'=>ZaW P h T N ls l (i+1) ks2 tm' hp1 k)→(∀ (q:PV) (H':List Mem) (I:Ph) (V:SV) (hp1:List SM),opE P h (lim P h) H (Am.ev t0) op=some (q,H')→Le φ I→RH I hp1 (fun a=>H'[a]?)→kk V hp1→Accs P I ks2 H' (Zb9 h ⟨dst,op,ty,pos,after,none⟩ acc))→
    ∃ab φ' tm' hp',Zno P h (lim P h) N ls (⟨dst,op,ty,pos,after,none⟩::l) i acc ⟨t0,H⟩=some ab∧Le φ φ'∧SRep φ' tm' hp' ab∧k tm' hp':=by
    intro ks2 kk ho a8 ha
    obtain⟨q,H',I,V,hp1,h1,h2,h3,h4,h5⟩:=Ztm hT hs.hp hs.ev ho
    have ha:=ha q H' I V hp1 h1 h2 h3 h5
    have an:=hs.mono h2 h3
    obtain⟨tm0,tm',h6,h7,h8⟩:=Zkx an h4 (a8 _ _ h5)
    obtain⟨ab,φ',ao,R,h9,aq,ar,au⟩:=ZiS hT l (i+1) ks2 tm' hp1 k I _ (Zb9 h ⟨dst,op,ty,pos,after,none⟩ acc) h8 hg h7 ha
    refine⟨ab,φ',ao,R, ?_,h2.trans aq,ar,au⟩
    rw[Zqy _ _ _ _ _ _ _ _ _ _ _ _ hi,h1]
    simp only[Zxr]
    rw[show Zfg N dst q t0=some tm0 from h6]
    simp only[Xab,Zpu ha,Zzp]
    exact h9
   split at hw
   ·rename_i hd
    rw[hd]at C
    exact step [] _ hw (fun _ _ h=>h) fun q H' I V hp1 h1 h2 _ _=>C.keep h2 (fun _ _ _ hm=>absurd hm XaU) (fun _ _ _ hm=>absurd hm XaU)
   ·rename_i y af hd
    rw[hd]at C
    split at hw
    ·rename_i U
     refine step (y::af) _ hw (fun _ _ h=>h) fun q H' I V hp1 h1 h2 _ _=> ?_
     have hk:=Zoc U h1
     exact C.keep h2 (fun _ _ place _ _=>hk.z place) (fun _ _ _ _ _ _ _ _ _ hv=>hk.load hv)
    ·rename_i U
     split at hw
     ·rename_i hl
      refine step (y::af) _ hw (fun V hp1 h=>by unfold Zx3 at h;split at h<;>first|exact h|cases h) fun q H' I V hp1 h1 h2 h3 h4=> ?_
      unfold Zx3 at h4
      split at h4
      ·rename_i az
       refine C.keep h2 (fun j id place hm aa es z m ae=> ?_) (fun j id place hm=> ?_)
       ·obtain⟨sm,bd,z',e1,e2,e3,e4⟩:=ZlI az hm
        obtain⟨bf,m1,g1⟩:=ZoM (hs.hp.row _ _ _ e1 aa) e3
        obtain⟨ba,m2,g2⟩:=ZoM (h3.row _ _ _ e2 (h2 _ _ aa)) e4
        have g1:H[place]? =_:=g1
        rw[ae]at g1
        cases g1
        exact⟨ba,m2,g2⟩
       ·have:=Ze9 hm
        rw[hl]at this
        cases this
      ·cases h4
     ·rename_i bg ids hl
      split at hw
      ·rename_i t a x
       split at hw
       ·rename_i aj j r ad
        split at hw
        ·rename_i hb
         simp only[Xag,Bool.not_eq_true']at hb
         obtain⟨⟨av,aw⟩,ax⟩:=hb
         refine step (y::af) _ hw (fun _ _ h=>h) fun q H' I V hp1 h1 h2 _ _=> ?_
         obtain⟨p,J,R⟩:=hs.ev _ _ ad
         simp only[RV]at R
         obtain⟨ah,ai,rfl⟩:=R
         have ag:ZeE P H t (Am.ev t0 a) (Am.ev t0 x)=some (q,H'):=h1
         rw[show Am.ev t0 a=_ from J]at ag
         simp only[ZeE,Xab]at ag
         cases hx:(Am.ev t0 x).bind ZhS with
         |none=>simp[hx]at ag
         |some v=>
          simp only[hx,Xab]at ag
          cases ak:ZcL P H t (.ptr ah j r) v with
          |none=>simp[ak]at ag
          |some H2=>
           simp only[ak,Xak,Xaf,Prod.mk.injEq]at ag
           obtain⟨rfl,rfl⟩:=ag
           refine C.keep h2 (fun _ _ place _ _ es z m ae=>ZvO ak ae) (fun _ id pl hm aa t2 j2 r2 w hw=> ?_)
           have hid:=Ze9 hm
           rw[hl]at hid
           have al:pl≠ah:=by
            rintro rfl
            obtain⟨m1,g1,g2⟩:=Zey av
            obtain⟨m2,g3,g4⟩:=Zey (ZgM aw hid)
            exact hs.hp.inj aj id m1 m2 pl (Zlq ax hid) g1 g3 g2 g4 ai aa
           rw[←hw]
           simp only[ZbF,Zhp ak al]
        ·cases hw
       ·cases hw
      ·rename_i c
       split at hw
       ·rename_i bc
        refine step (y::af) _ hw (fun _ _ h=>h) fun q H' I V hp1 h1 h2 _ _=> ?_
        have hk:=ZsS hs.ev bc h1
        exact C.keep h2 (fun _ _ place _ _=>hk.z place) (fun _ _ _ _ _ _ _ _ _ hv=>hk.load hv)
       ·split at hw
        ·rename_i ay
         refine step (y::af) _ hw (fun _ _ h=>h) fun q H' I V hp1 h1 h2 _ _=> ?_
         have hk:=ZlT (φ:=φ) hs.ev ay h1
         exact C.keep h2 (fun _ _ place _ _ es z m hm=>by obtain⟨m',h3⟩:=hk place (by rintro _ ⟨⟩) es z m hm;exact⟨es,m',h3⟩) (fun _ _ place _ _ t j r v hv=>Zmc (hk place (by rintro _ ⟨⟩)) hv)
        ·rename_i aj ay
         split at hw
         ·rename_i hb
          simp only[Xag,Bool.not_eq_true']at hb
          obtain⟨⟨av,aw⟩,ax⟩:=hb
          refine step (y::af) _ hw (fun _ _ h=>h) fun q H' I V hp1 h1 h2 _ _=> ?_
          have hk:=ZlT (φ:=φ) hs.ev ay h1
          have al: ∀ (n id place:Nat) (bb:Bool),(n,id,bb)∈y::af→φ[id]? =some (some place)→ ∀i2,some i2=some aj→φ[i2]?≠some (some place):=by
           rintro n id place bb hm aa _ ⟨⟩ ai
           have hid:=Zou hm
           obtain⟨m1,g1,g2⟩:=Zey av
           obtain⟨m2,g3,g4⟩:=Zey (ZgM aw hid)
           exact hs.hp.inj aj id m1 m2 place (Zlq ax hid) g1 g3 g2 g4 ai aa
          refine C.keep h2 (fun n id place hm aa es z m ae=> ?_) (fun n id place hm aa t j r v hv=> ?_)
          ·obtain⟨m',h3⟩:=hk place (al _ _ _ _ hm aa) es z m ae
           exact⟨es,m',h3⟩
          ·exact Zmc (hk place (al _ _ _ _ hm aa)) hv
         ·cases hw
        ·cases hw
      ·cases hw
theorem Zta: ∀l:List Oper,ZzS l=l.map (·.dst)
 | []=>rfl
 |o::r=>by simp only[ZzS,Zta r,Xbb]
theorem Fr.len {φ φ':Ph} (h:Fr F φ φ') (C:F≤φ.length):F≤φ'.length:=by
 cases F with
 |zero=>exact Xao _
 |succ n=>
  have j:=h n (by omega)
  rw[Xac (show n<φ.length by omega)]at j
  exact(Xae.1 j).1
theorem ZkR (hT:TysOK P T) (c:Cx): ∀ (code:Code) (tm:TM) (hp:List SM) (k:Ex→TM→List SM→Prop) (φ:Ph) (st:St),wp P h T F c code tm hp k→F≤φ.length→SRep φ tm hp st→
 ∃e C φ' tm' hp',exS P h (lim P h) c code st=some (e,C)∧Fr F φ φ'∧SRep φ' tm' hp' C∧k e tm' hp'
 | .skip,tm,hp,k,φ,st,hw,_,I=>⟨.normal,st,φ,tm,hp,rfl,Fr.refl F φ,I,hw⟩
 | .label _,tm,hp,k,φ,st,hw,_,I=>⟨.normal,st,φ,tm,hp,rfl,Fr.refl F φ,I,hw⟩
 | .exit id,tm,hp,k,φ,st,hw,_,I=>⟨.exit id,st,φ,tm,hp,rfl,Fr.refl F φ,I,hw⟩
 | .ret,tm,hp,k,φ,st,hw,_,I=>⟨.ret,st,φ,tm,hp,rfl,Fr.refl F φ,I,hw⟩
 | .loop b,tm,hp,k,φ,st,hw,hF,I=>by
  obtain⟨e,C,φ',tm',hp',J,R,h3,h4⟩:=LoopOK.out hw φ st hF I
  exact⟨e,C,φ',tm',hp',J,R,h3,h4⟩
 | .region id ops d,tm,hp,k,φ,st,hw,hF,I=>by
  have key: ∀os:Array Oper,wpR P h T c.N (h.light c.fid id) os tm hp (fun tm' hp'=>k .normal tm' hp')→rgo (h.perm c.fid id) ops=os→ ∃e C φ' tm' hp',exS P h (lim P h) c (.region id ops d) st=some (e,C)∧Fr F φ φ'∧SRep φ' tm' hp' C∧k e tm' hp':=by
   intro os hw ho
   unfold wpR at hw
   split at hw
   ·rename_i hl
    obtain⟨C,φ',tm',hp',J,R,h3,h4⟩:=Zlc hT _ _ _ _ _ _ hw I
    refine⟨.normal,C,φ',tm',hp', ?_,R.fr hF,h3,h4⟩
    simp only[exS,hl,ho,Zvf]
    rw[Zta]at J
    rw[J];rfl
   ·rename_i j ls hl
    split at hw
    ·rename_i hg
     obtain⟨C,φ',tm',hp',J,R,h3,h4⟩:=ZiS hT _ _ _ _ _ _ _ _ [] hw hg I (fun x hx=>by cases hx)
     refine⟨.normal,C,φ',tm',hp', ?_,R.fr hF,h3,h4⟩
     rw[ZuH,hl,ho,Zrw _ _ _ _ _ hg,J];rfl
    ·cases hw
  simp only[wp]at hw
  split at hw
  ·rename_i hp;exact key _ hw (by rw[hp];rfl)
  ·rename_i hp;exact key _ hw (by rw[hp])
 | .seq a b,tm,hp,k,φ,st,hw,hF,I=>by
  obtain⟨e,U,aa,tm1,hp1,J,R,h3,h4⟩:=ZkR hT c a _ _ _ φ st hw hF I
  cases e with
  |normal=>
   obtain⟨e,C,φ',tm',hp',g1,g2,g3,g4⟩:=ZkR hT c b _ _ _ aa U h4 (R.len hF) h3
   exact⟨e,C,φ',tm',hp',by simp only[exS,J,Xab,Zfw,g1],R.trans g2,g3,g4⟩
  |exit j=>exact⟨_,U,aa,tm1,hp1,by simp only[exS,J,Xab,Zfw],R,h3,h4⟩
  |ret=>exact⟨_,U,aa,tm1,hp1,by simp only[exS,J,Xab,Zfw],R,h3,h4⟩
 | .cond x a b,tm,hp,k,φ,st,hw,hF,I=>by
  simp only[wp]at hw
  split at hw
  ·rename_i t ht
   obtain⟨q,J,R⟩:=I.ev _ _ ht
   rw[ZeM R]at J
   cases t with
   |true=>
    obtain⟨e,C,φ',tm',hp',g1,g2,g3,g4⟩:=ZkR hT c a _ _ _ φ st (hw.1 rfl) hF I
    exact⟨e,C,φ',tm',hp',by simp only[exS,J,Xab,Znu,g1],g2,g3,g4⟩
   |false=>
    obtain⟨e,C,φ',tm',hp',g1,g2,g3,g4⟩:=ZkR hT c b _ _ _ φ st (hw.2 rfl) hF I
    exact⟨e,C,φ',tm',hp',by simp only[exS,J,Xab,Znu,g1],g2,g3,g4⟩
  ·cases hw
 | .block id b,tm,hp,k,φ,st,hw,hF,I=>by
  simp only[wp]at hw
  split at hw
  ·rename_i hk
   obtain⟨e,U,aa,tm1,hp1,J,R,h3,h4⟩:=ZkR hT c b _ _ _ φ st hw hF I
   cases e with
   |normal=>exact⟨.normal,U,aa,tm1,hp1,by simp only[exS,J,Xab,Zc7,hk,ZeI,Xak],R,h3,h4⟩
   |exit j=>
    simp only[ZsD]at h4
    split at h4
    ·rename_i hj
     have hj:=Xam hj
     exact⟨.normal,U,aa,tm1,hp1,by simp only[exS,J,Xab,Zc7,hk,ZeI,Xak,if_pos hj],R,h3,h4⟩
    ·rename_i hj
     have hj:j≠id:=fun e=>by subst e;simp at hj
     exact⟨.exit j,U,aa,tm1,hp1,by simp only[exS,J,Xab,Zc7,if_neg hj],R,h3,h4⟩
   |ret=>exact⟨.ret,U,aa,tm1,hp1,by simp only[exS,J,Xab,Zc7],R,h3,h4⟩
  ·cases hw
 | .goto _,_,_,_,_,_,hw,_,_| .refuse _,_,_,_,_,_,hw,_,_| .rangeFunc _ _ _ _,_,_,_,_,_,hw,_,_| .scope _,_,_,_,_,_,hw,_,_=>hw.elim
theorem Znh: ∀ {t C:CT} {l:List t.D} {I:List C.D},ZyP t C l I→t=C∧HEq l I:=by
 intro t C l I j
 unfold ZyP at j
 split at j
 ·split at j
  ·rename_i J
   have:=Zfy J
   subst this
   subst j
   exact⟨rfl,HEq.rfl⟩
  ·cases j
 ·subst j;exact⟨rfl,HEq.rfl⟩
 ·subst j;exact⟨rfl,HEq.rfl⟩
 ·split at j
  ·rename_i R
   have:=ZiI R
   subst this
   subst j
   exact⟨rfl,HEq.rfl⟩
  ·cases j
def Zjr (φ:Ph):List Im→Ph
 | []=> []
 | .is i::r=>(match φ[i]? with|some o=>o|none=>none)::Zjr φ r
 | .nil::r=>none::Zjr φ r
theorem Zlv (φ:Ph): ∀σ:List Im,(Zjr φ σ).length=σ.length
 | []=>rfl
 | .is i::r=>by simp only[Zjr,Xap,Zlv φ r]
 | .nil::r=>by simp only[Zjr,Xap,Zlv φ r]
theorem ZeX (φ:Ph): ∀ (σ:List Im) (j i:Nat) (o:Option Nat),nth σ j=some (.is i)→φ[i]? =some o→(Zjr φ σ)[j]? =some o
 | .is I::r,0,i,o,h,C=>by
  simp only[nth,Xaf,Im.is.injEq]at h
  subst h
  simp[Zjr,C]
 | .nil::r,0,i,o,h,C=>by simp[nth]at h
 | .is I::r,j+1,i,o,h,C=>by simpa[Zjr]using ZeX φ r j i o h C
 | .nil::r,j+1,i,o,h,C=>by simpa[Zjr]using ZeX φ r j i o h C
theorem Zh5 (φ:Ph): ∀ (σ:List Im) (j:Nat),nth σ j=some .nil→(Zjr φ σ)[j]? =some none
 | .nil::r,0,h=>by simp[Zjr]
 | .is C::r,0,h=>by simp[nth]at h
 | .is C::r,j+1,h=>by simpa[Zjr]using Zh5 φ r j h
 | .nil::r,j+1,h=>by simpa[Zjr]using Zh5 φ r j h
theorem Zsf {σ:List Im} (hl:φ.length=hp.length): ∀ {V V':SV} {q:PV},ZAf σ V V'→RV φ V q→RV (Zjr φ σ) V' q:=by
 intro V V' q j C
 unfold ZAf at j
 split at j
 ·split at j
  ·rename_i hk
   have:=Zfy hk
   subst this
   subst j
   simpa only[RV]using C
  ·cases j
 ·subst j;simpa only[RV]using C
 ·subst j;simpa only[RV]using C
 ·subst j;simpa only[RV]using C
 ·obtain⟨rfl,I⟩:=Znh j
  have I:=eq_of_heq I
  subst I
  simpa only[RV]using C
 ·simp only[RV]at C
  subst C
  subst j
  show RR _ _ _
  exact .inl ⟨rfl,rfl⟩
 ·simpa only[RV]using C
 ·simpa only[RV]using C
 ·simpa only[RV]using C
 ·simpa only[RV]using C
 ·simp only[RV]at C
  subst C
  split at j
  ·rename_i U
   simp only[RV]
   exact .inr ⟨Zh5 φ σ _ U,trivial,j⟩
  ·cases j
 ·split at j
  ·rename_i d U
   split at j
   ·rename_i J
    have J:=Xam J
    subst J
    obtain⟨rfl,rfl,hm⟩:=j
    simp only[RV]at C⊢
    rcases C with⟨a,R,I⟩|⟨R,I,h3,h4,h5⟩
    ·exact .inl ⟨a,ZeX φ σ _ _ _ U R,by rw[hm];exact I⟩
    ·exact .inr ⟨ZeX φ σ _ _ _ U R,I,h3,h4,by rw[hm];exact h5⟩
   ·cases j
  ·cases j
 ·split at j
  ·rename_i d U
   split at j
   ·rename_i J
    have J:=Xam J
    subst J
    obtain⟨rfl,rfl⟩:=j
    simp only[RV]at C⊢
    obtain⟨a,R,I⟩:=C
    exact⟨a,ZeX φ σ _ _ _ U R,I⟩
   ·cases j
  ·cases j
 ·obtain⟨R,rfl⟩:=j
  obtain⟨rfl,I⟩:=Znh R
  have I:=eq_of_heq I
  cases I
  simpa only[RV]using C
 ·cases j
theorem Zfc {σ:List Im} (I:φ.length=hp.length): ∀ {l J:List SV} {j:List PV},Znx σ l J→RL φ l j→RL (Zjr φ σ) J j
 | [],[],j,_,C=>by simpa only[RL]using C
 |a::l,b::r,j,R,C=>by
  simp only[RL]at C⊢
  obtain⟨q,U,rfl,h1,h2⟩:=C
  exact⟨q,U,rfl,Zsf I R.1 h1,Zfc I R.2 h2⟩
theorem ZwJ {σ:List Im} (I:φ.length=hp.length) {V V':SV} {q:PV} (C:ZAh σ V V') (j:RV φ V q):RV (Zjr φ σ) V' q:=by
 unfold ZAh at C
 split at C
 ·obtain⟨rfl,R,U⟩:=C
  simp only[RV]at j⊢
  obtain⟨a,c,rfl,J,h4⟩:=j
  exact⟨a,c,rfl,Zfc I R J,Zfc I U h4⟩
 ·simp only[RV]at j⊢
  obtain⟨a,rfl,J⟩:=j
  exact⟨a,rfl,Zfc I C J⟩
 ·simp only[RV]at j⊢
  obtain⟨a,rfl,J⟩:=j
  exact⟨a,rfl,Zfc I C J⟩
 ·exact Zsf I C j
theorem Zkz: ∀ {σ:List Im} {j U i:Nat},Zhq σ=true→j≠U→nth σ j=some (.is i)→nth σ U=some (.is i)→False
 | .nil::r,0,_,_,_,_,C,_=>by simp[nth]at C
 | .nil::r,_,0,_,_,_,_,I=>by simp[nth]at I
 | .nil::r,j+1,U+1,i,J,R,C,I=>Zkz (σ:=r) J (by omega) C I
 | .is x::r,0,0,_,_,R,_,_=>R rfl
 | .is x::r,0,U+1,i,J,_,C,I=>by
  simp only[Zhq,Xag,Xau]at J
  simp only[nth,Xaf,Im.is.injEq]at C
  subst C
  have:nth r U=some (.is x):=I
  rw[Za5]at this
  have:=J.1 _ (XaI this)
  simp at this
 | .is x::r,j+1,0,i,J,_,C,I=>by
  simp only[Zhq,Xag,Xau]at J
  simp only[nth,Xaf,Im.is.injEq]at I
  subst I
  have:nth r j=some (.is x):=C
  rw[Za5]at this
  have:=J.1 _ (XaI this)
  simp at this
 | .is x::r,j+1,U+1,i,J,R,C,I=>by
  simp only[Zhq,Xag]at J
  exact Zkz (σ:=r) J.2 (by omega) C I
theorem Zo6 {σ:List Im}: ∀ {ss:List Im} {ms:List SM} {j:Nat} {m:SM},Zu5 σ hp ss ms→ms[j]? =some m→ ∃s,nth ss j=some s∧ZAV σ hp s m
 |_,[],j,m,_,h=>by simp at h
 | [],_::_,_,_,C,_=>C.elim
 |s::ss,I::ms,0,m,C,h=>by
  simp at h
  subst h
  exact⟨s,rfl,C.1⟩
 |s::ss,I::ms,j+1,m,C,h=>Zo6 (ss:=ss) C.2 (by simpa using h)
theorem RH.view {L:Nat→Option Mem} (hh:RH φ hp L) {σ:List Im} {hp':List SM} (hlen:σ.length=hp'.length) (U:Zhq σ=true) (hs:Zu5 σ hp σ hp'):RH (Zjr φ σ) hp' L:=by
 have ph: ∀ {i:Nat} {m:SM},nth hp i=some m→ ∃o,φ[i]? =some o∧RM φ L o m:=fun h=>hh.ph h
 have at_: ∀ {j:Nat} {m:SM} {o:Option Nat},hp'[j]? =some m→(Zjr φ σ)[j]? =some o→RM (Zjr φ σ) L o m∧(∀a,o=some a→live m=true→ ∃i m0,nth σ j=some (.is i)∧nth hp i=some m0∧live m0=true∧φ[i]? =some (some a)):=by
  intro j m o hm J
  obtain⟨s,h1,I⟩:=Zo6 hs hm
  unfold ZAV at I
  split at I
  ·rename_i id t' l' m'
   split at I
   ·rename_i t l m0 C
    obtain⟨o',h3,R⟩:=ph C
    have h5:=ZeX φ σ _ _ _ h1 h3
    rw[h5]at J;cases J
    obtain⟨h6,h7⟩:=I
    obtain⟨rfl,h8⟩:=Znh h6
    have h8:=eq_of_heq h8
    subst h8
    refine⟨?_,fun a U _=>⟨_,_,h1,C,rfl,by rw[h3,U]⟩⟩
    simp only[RM]at R⊢
    cases o with
    |none=>exact R
    |some a=>
     obtain⟨es,m1,g1,g2,g3⟩:=R
     exact⟨es,m1,g1,g2,fun h=>g3 (h7 h)⟩
   ·cases I
  ·have h5:=Zh5 φ σ _ h1
   rw[h5]at J;cases J
   exact⟨by simp only[RM];exact I,fun a U=>by cases U⟩
  ·split at I
   ·rename_i cs m0 C
    obtain⟨o',h3,R⟩:=ph C
    have h5:=ZeX φ σ _ _ _ h1 h3
    rw[h5]at J;cases J
    refine⟨?_,fun a U _=>⟨_,_,h1,C,rfl,by rw[h3,U]⟩⟩
    simp only[RM]at R⊢
    obtain⟨a,ab,m1,g0,g1,g2,g3⟩:=R
    exact⟨a,ab,m1,g0,g1,Zfc hh.len I.1 g2,fun h=>g3 (I.2 h)⟩
   ·cases I
  ·exact⟨trivial,fun a _ hl=>by cases hl⟩
  ·cases I
 refine⟨by rw[Zlv,hlen],fun j m o hm J=>(at_ hm J).1, ?_⟩
 intro j j' m m' a ad hm ae hl af J ag
 obtain⟨i,m0,h1,I,h3,R⟩:=(at_ hm J).2 a rfl hl
 obtain⟨i',ak,ah,aa,ai,aj⟩:=(at_ ae ag).2 a rfl af
 by_cases hi:i=i'
 ·subst hi
  exact Zkz U ad h1 ah
 ·rw[Za5]at I aa
  exact hh.inj _ _ _ _ _ hi I aa h3 ai R aj
theorem ZoK (tm tm':TM) (hp hp':List SM): ∀ (j:Nat) (l:List SM),(Zz1 tm tm' hp hp' j l).length=l.length
 |_,[]=>rfl
 |j,_::r=>by simp only[Zz1,Xap,ZoK tm tm' hp hp' (j+1) r]
theorem ZmJ: ∀ {F:Nat} {σ:List Im} {j:Nat},ZpE F σ=true→j<F→nth σ j=some (.is j)
 |F+1,σ,j,h,C=>by
  simp only[ZpE]at h
  split at h
  ·rename_i i hi
   simp only[Xag]at h
   by_cases e:j=F
   ·subst e
    rw[hi,Xam h.1]
   ·exact ZmJ h.2 (by omega)
  ·cases h
theorem Zas {tm':TM} {hp':List SM} {σ:List Im} (U:Zz1 tm tm' hp hp' 0 hp'=σ) (R:(Zhq σ&&ZpE F σ)=true) (h1:ZuA σ tm tm') (h2:Zu5 σ hp σ hp'):Ent F tm hp tm' hp':=by
 refine⟨fun φ st hF hs=>⟨Zjr φ σ, ?_, ?_, ?_⟩⟩
 ·simp only[Xag]at R
  intro j hj
  have C:φ[j]? =some φ[j]:=Xac (by omega)
  rw[C]
  exact ZeX φ σ j j _ (ZmJ R.2 hj) C
 ·intro i V' aa
  have: ∀ (l:TM),ZuA σ tm l→ZcD i l=some V'→ ∃V,ZcD i tm=some V∧ZAh σ V V':=by
   intro l
   induction l with
   |nil=>intro _ h;cases h
   |cons x r ih=>
    obtain⟨j,W⟩:=x
    intro C I
    simp only[ZuA]at C
    rw[ZeU]at I
    split at C
    ·rename_i V hV
     cases hb:Nat.beq i j with
     |true=>
      rw[hb]at I
      cases I
      have:=Xam hb
      subst this
      exact⟨V,hV,C.1⟩
     |false=>
      rw[hb]at I
      exact ih C.2 I
    ·cases C
  obtain⟨V,hV,J⟩:=this tm' h1 aa
  obtain⟨q,C,I⟩:=hs.tm i V hV
  exact⟨q,C,ZwJ hs.hp.len J I⟩
 ·simp only[Xag]at R
  exact hs.hp.view (by rw[←U,ZoK]) R.1 h2
theorem ZaJ:Ent F tm hp tm hp:=⟨fun φ _ _ j=>⟨φ,Fr.refl F φ,j⟩⟩
def ZqS {σ:Type} (F:Nat) (I:σ→TM) (J:σ→List SM) (Inv:σ→Prop) (j:σ→Nat) (a:σ) (k:Ex→TM→List SM→Prop):Ex→TM→List SM→Prop
 | .normal,tm,hp=> ∃C,Inv C∧j C<j a∧Ent F tm hp (I C) (J C)
 |e,tm,hp=>k e tm hp
theorem Zaw {σ:Type} (hT:TysOK P T) {c:Cx} {b:Code} {k:Ex→TM→List SM→Prop} (hk:h.keep c.fid (Zdy b)=none) (U:σ→TM) (aa:σ→List SM) (Inv:σ→Prop) (I:σ→Nat)
 (round: ∀a,Inv a→wp P h T F c b (U a) (aa a) (ZqS F U aa Inv I a k)) (a:σ) (hi:Inv a) (he:Ent F tm hp (U a) (aa a)):LoopOK P h F c b tm hp k:=by
 have main: ∀ (n:Nat) (a:σ),I a=n→Inv a→ ∀φ st,F≤φ.length→SRep φ (U a) (aa a) st→ ∃e C φ' tm' hp',(lim P h).ex c (.loop b) st=some (e,C)∧Fr F φ φ'∧SRep φ' tm' hp' C∧k e tm' hp':=by
  intro n
  induction n using Nat.strongRecOn with
  |_ n ih=>
   intro a hm hi φ st hF hs
   obtain⟨e,J,R,tm1,hp1,h1,h2,h3,h4⟩:=ZkR hT c b _ _ _ φ st (round a hi) hF hs
   have hr:Zhr P h (lim P h) c b st=some (e,J):=by unfold Zhr;rw[hk];exact h1
   cases e with
   |normal=>
    obtain⟨a',g1,g2,g3⟩:=h4
    obtain⟨ab,g4,g5⟩:=g3.out R J (h2.len hF) h3
    obtain⟨e,C,φ',tm',hp',f1,f2,f3,f4⟩:=ih (I a') (by omega) a' rfl g1 ab J (g4.len (h2.len hF)) g5
    exact⟨e,C,φ',tm',hp',Zl0 hr f1,(h2.trans g4).trans f2,f3,f4⟩
   |exit j=>exact⟨_,J,R,tm1,hp1,Zf6 (by simp) hr,h2,h3,h4⟩
   |ret=>exact⟨_,J,R,tm1,hp1,Zf6 (by simp) hr,h2,h3,h4⟩
 refine⟨fun φ st hF hs=> ?_⟩
 obtain⟨R,h1,h2⟩:=he.out φ st hF hs
 obtain⟨e,C,φ',tm',hp',f1,f2,f3,f4⟩:=main _ a rfl hi R st (h1.len hF) h2
 exact⟨e,C,φ',tm',hp',f1,h1.trans f2,f3,f4⟩
theorem LoopOK.mono {c:Cx} {b:Code} {k C:Ex→TM→List SM→Prop} (I:LoopOK P h F c b tm hp k) (J: ∀e tm hp,k e tm hp→C e tm hp):LoopOK P h F c b tm hp C:=
 ⟨fun φ st R U=>by
  obtain⟨e,j,φ',tm',hp',f1,f2,f3,f4⟩:=I.out φ st R U
  exact⟨e,j,φ',tm',hp',f1,f2,f3,J _ _ _ f4⟩⟩
theorem LoopOK.ent {c:Cx} {b:Code} {k:Ex→TM→List SM→Prop} {tm':TM} {hp':List SM} (R:LoopOK P h F c b tm' hp' k) (he:Ent F tm hp tm' hp'):LoopOK P h F c b tm hp k:=
 ⟨fun φ st I U=>by
  obtain⟨j,J,h2⟩:=he.out φ st I U
  obtain⟨e,C,φ',tm',hp',f1,f2,f3,f4⟩:=R.out j st (J.len I) h2
  exact⟨e,C,φ',tm',hp',f1,J.trans f2,f3,f4⟩⟩
theorem LoopOK.through {c:Cx} {b:Code} {k R:Ex→TM→List SM→Prop} (hl:LoopOK P h F c b tm hp k) (hk: ∀e tm hp,k e tm hp→ ∃tm' hp',Ent F tm hp tm' hp'∧R e tm' hp'):LoopOK P h F c b tm hp R:=
 ⟨fun φ st U hs=>by
  obtain⟨e,j,φ',tm',hp',f1,f2,f3,f4⟩:=hl.out φ st U hs
  obtain⟨C,I,g1,g2⟩:=hk _ _ _ f4
  obtain⟨J,g3,g4⟩:=g1.out φ' j (f2.len U) f3
  exact⟨e,j,J,C,I,f1,f2.trans g3,g4,g2⟩⟩
theorem PureOK.mono {f:FuncId} {Vs:List SV} {Q j:SV→Prop} (hp:PureOK P h f Vs Q) (C: ∀V,Q V→j V):PureOK P h f Vs j:=
 ⟨fun I J=>by obtain⟨q,V,R,U,h3⟩:=hp.out I J;exact⟨q,V,R,U,C V h3⟩⟩
def AsV (V V':SV):Prop:= ∀φ q,RV φ V q→RV φ V' q
theorem PureOK.as {f:FuncId} {Vs:List SV} {Q j:SV→Prop} (hp:PureOK P h f Vs Q) (C: ∀V,Q V→ ∃V',AsV V V'∧j V'):PureOK P h f Vs j:=
 ⟨fun I J=>by
  obtain⟨q,V,R,U,h3⟩:=hp.out I J
  obtain⟨V',h4,h5⟩:=C V h3
  exact⟨q,V',R,h4 _ _ U,h5⟩⟩
theorem AsV.refl (V:SV):AsV V V:=fun _ _ h=>h
theorem AsV.nil (e:CT):AsV .nils (.v (.l e) ([]:List e.D)):=fun φ q h=>by
 simp only[RV]at h
 subst h
 show RR _ _ _
 exact .inl ⟨rfl,rfl⟩
theorem AsV.tup2 {a b j C:SV} (I:AsV a j) (J:AsV b C):AsV (.tup [a,b]) (.tup [j,C]):=fun φ q h=>by
 simp only[RV,RL]at h⊢
 obtain⟨_,rfl,_,_,rfl,R,_,_,rfl,U,rfl⟩:=h
 exact⟨_,rfl,_,_,rfl,I _ _ R,_,_,rfl,J _ _ U,rfl⟩
theorem ImpOK.mono {f:FuncId} {Vs:List SV} {Q I:SV→List SM→Bool→Prop} (hp:ImpOK P h f Vs Q) (R: ∀V J j,Q V J j→I V J j):ImpOK P h f Vs I:=
 ⟨fun U hr base=>by obtain⟨v,rows,j,φ,V,hp',C,h1,h2,h3,h4,h5⟩:=hp.out U hr base;exact⟨v,rows,j,φ,V,hp',C,h1,h2,h3,h4,R _ _ _ h5⟩⟩
theorem OpenOK.mono {f:FuncId} {Vs:List SV} {Q j:SV→List SM→Prop} (C:OpenOK P h f Vs hp Q) (I: ∀V hp,Q V hp→j V hp):OpenOK P h f Vs hp j:=
 ⟨fun φ H J R U=>by obtain⟨v,H',φ',V,hp',g1,g2,g3,g4,g5⟩:=C.out φ H J R U;exact⟨v,H',φ',V,hp',g1,g2,g3,g4,I _ _ g5⟩⟩
theorem Zlo (I:TysOK P T) {st:St} (C:SRep φ tm hp st): ∀ {rs:List ResultVar} {k:List SV→Prop},Zyo T tm hp rs k→ ∃vs l,ZaV (ZiM P st.tm st.hp) rs=some vs∧RL φ l vs∧k l
 | [],k,j=>⟨[],[],rfl,by simp only[RL],j⟩
 | .tmp t::r,k,j=>by
  simp only[Zyo]at j
  split at j
  ·rename_i V J
   obtain⟨q,R,U⟩:=C.tm _ _ J
   obtain⟨vs,l,h3,h4,h5⟩:=Zlo I C j
   exact⟨q::vs,V::l,by rw[Za7,h3];simp only[ZiM,R,Xab],by simp only[RL];exact⟨_,_,rfl,U,h4⟩,h5⟩
  ·cases j
 | .cell a t::r,k,j=>by
  simp only[Zyo]at j
  split at j
  ·rename_i V J
   obtain⟨q,R,U⟩:=C.tm _ _ J
   obtain⟨q',V',h6,h7,h8⟩:=ZpF I C.hp j U
   obtain⟨vs,l,h3,h4,h5⟩:=Zlo I C h8
   exact⟨q'::vs,V'::l,by rw[Za7,h3];simp only[ZiM,R,h6,Xab],by simp only[RL];exact⟨_,_,rfl,h7,h4⟩,h5⟩
  ·cases j
theorem Zrr {l:List SV} {vs:List PV} (j:RL φ l vs):RV φ (ZAd l) (Zbw vs):=by
 match l,vs,j with
 | [],vs,j=>simp only[RL]at j;subst j;simp only[ZAd,Zbw,RV,RL];exact⟨_,rfl,rfl⟩
 | [V],vs,j=>
  obtain⟨q,rfl,I⟩:=RL1 j
  exact I
 |V::W::r,vs,j=>
  have C:=j
  simp only[RL]at C
  obtain⟨q,J,rfl,_,R,U,rfl,_⟩:=C
  simp only[ZAd,Zbw]
  show RV φ (.tup _) _
  simp only[RV]
  exact⟨_,rfl,j⟩
theorem Zx7 (U:TysOK P T) {st:St} (hs:SRep φ tm hp st) {rs:List ResultVar} {k:SV→List SM→Prop} {e:Ex} (C:Zyr T rs k e tm hp): ∃v V,Zz7 P rs (e,st)=some (v,st.hp)∧RV φ V v∧k V hp:=by
 cases e with
 |exit j=>cases C
 |normal=>
  obtain⟨vs,l,I,J,R⟩:=Zlo U hs C
  exact⟨_,_,by simp only[Zz7,I,Xak],Zrr J,R⟩
 |ret=>
  obtain⟨vs,l,I,J,R⟩:=Zlo U hs C
  exact⟨_,_,by simp only[Zz7,I,Xak],Zrr J,R⟩
theorem ZkI {C:List PV}: ∀ {Vs:List SV} {n:Nat},RL φ Vs C→ ∀i V,ZcD i (ZcW n Vs)=some V→ ∃q,Am.get (Zbq n C) i=some q∧RV φ V q:=by
 intro Vs
 induction Vs generalizing C with
 |nil=>intro n _ i V h;cases h
 |cons W r R=>
  intro n I i V j
  simp only[RL]at I
  obtain⟨q,U,rfl,h2,h3⟩:=I
  simp only[ZcW]at j
  rw[ZeU]at j
  show ∃q',(bif Nat.beq i n then some q else Am.get (Zbq (n+1) U) i)=some q'∧_
  cases J:Nat.beq i n with
  |true=>rw[J]at j;cases j;exact⟨q,rfl,h2⟩
  |false=>rw[J]at j;exact R h3 i V j
theorem ZwT (J:TysOK P T) {f:FuncId} {fn:Func} {code:Code} {Vs:List SV} {k:SV→List SM→Prop} (j:h.ok f=true) (hf:P.funcs[f]? =some fn) (hb:fn.body=some code) (hn:Vs.length≤fn.ntmps) {H:List Mem}
 (hw:wp P h T F ⟨f,H.length,fn.ntmps⟩ code (ZcW 0 Vs) hp (Zyr T fn.results.toList k)) {C:List PV} (hF:F≤φ.length) (hh:RH φ hp (fun a=>H[a]?)) (R:RL φ Vs C):
 ∃v H' φ' V hp',(lim P h).rn f C H=some (v,H')∧Fr F φ φ'∧RH φ' hp' (fun a=>H'[a]?)∧RV φ' V v∧k V hp':=by
 obtain⟨e,I,φ',tm',hp',h1,h2,U,h4⟩:=ZkR J _ code _ _ _ φ ⟨Zbq 0 C,H⟩ hw hF ⟨ZkI R,hh⟩
 obtain⟨v,V,h5,h6,h7⟩:=Zx7 J U h4
 refine⟨v,I.hp,φ',V,hp', ?_,h2,U.hp,h6,h7⟩
 refine ZyS j hf hb (by rw[←R.len];exact hn) ?_
 rw[h1,Xab]
 exact h5
theorem RH.empty:RH [] [] (fun a=>([]:List Mem)[a]?):=⟨rfl,fun _ _ _ h=>by simp at h,fun _ _ _ _ _ _ h=>by simp at h⟩
theorem ZiJ (C:TysOK P T) {f:FuncId} {fn:Func} {code:Code} {Vs:List SV} {Q:SV→Prop} (j:h.ok f=true) (hp:h.prim f=none) (I:P.funcs[f]? =some fn) (J:fn.body=some code) (R:Vs.length≤fn.ntmps)
 (hw:wp P h T 0 ⟨f,0,fn.ntmps⟩ code (ZcW 0 Vs) [] (Zyr T fn.results.toList fun V hp=>Zjq hp 40 V Q)):PureOK P h f Vs Q:=by
 refine⟨fun qs U=> ?_⟩
 obtain⟨v,H',φ',V,hp',h1,_,h3,h4,h5⟩:=ZwT (φ:=[]) (H:=[]) C j I J R hw (Xao _) RH.empty U
 obtain⟨q',V',g1,g2,g3,_⟩:=ZkY h3 40 V v Q h5 h4
 refine⟨q',V', ?_,g2,g3⟩
 simp only[Zb8,hp,h1,Xab]
 exact g1
theorem Zd2 (I:TysOK P T) {f:FuncId} {fn:Func} {code:Code} {Vs:List SV} {Q:SV→List SM→Prop} (j:h.ok f=true) (J:P.funcs[f]? =some fn) (R:fn.body=some code) (U:Vs.length≤fn.ntmps)
 (hw: ∀base,wp P h T hp.length ⟨f,base,fn.ntmps⟩ code (ZcW 0 Vs) hp (Zyr T fn.results.toList Q)):OpenOK P h f Vs hp Q:=by
 refine⟨fun φ H qs C hr=> ?_⟩
 obtain⟨v,H',φ',V,hp',h1,h2,h3,h4,h5⟩:=ZwT (φ:=φ) (H:=H) I j J R U (hw H.length) (by rw[C.len];exact Xan _) C hr
 exact⟨v,H',φ',V,hp',h1,h2.le (by rw[C.len];exact Xan _),h3,h4,h5⟩
end
end Go.Tx
