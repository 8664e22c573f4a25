/-
 The program logic: 'append', 'copy', calls; every operation.
-/
import Derived.Test.YtkhpbclcfldhmaaGreatDoorTx5
set_option linter.constructorNameAsVariable false
set_option linter.unusedSimpArgs false
set_option linter.unusedVariables false
namespace Go.Tx
open Go.Am
section
variable {P : Program} {h : Hints} {T : TypeId → TI} {φ : Ph} {hp : List SM} {H : List Mem} {tm : TM} {ρ : Operand → Option PV}
theorem Znp (hh:RH φ hp (fun a=>H[a]?)) {ct:CT} {x:SV} {q:PV} {k:List ct.D→Prop} (hs:ZtT ct hp x k) (hx:RV φ x q): ∃new es,Zmu H q=some es∧All2 (RR ct) new es∧k new:=by
 unfold ZtT at hs
 split at hs
 ·simp only[RV]at hx;subst hx
  exact⟨[],[],rfl,trivial,hs⟩
 ·split at hs
  ·rename_i hc
   rcases Zhc hx with⟨rfl,rfl⟩|⟨es,rfl,hes⟩
   ·exact⟨_,[],rfl,Zgo hc [] trivial,hs⟩
   ·exact⟨_,es,rfl,Zgo hc _ hes,hs⟩
  ·cases hs
 ·split at hs
  ·rw[Zes hx]
   exact⟨_,_,rfl,Zju _,hs⟩
  ·cases hs
 ·split at hs
  ·rename_i e l b hrow
   split at hs
   ·rename_i hc
    obtain⟨hlen,hs⟩:=hs
    rcases hh.ref hrow hx with⟨a,es,m',rfl,hp',ha,hes,_⟩|⟨rfl,rfl,rfl,rfl,_,_⟩
    ·refine⟨_,_, ?_,Zgo hc _ (hes.sub _ _),hs⟩
     have:=hes.len
     simp only[Zmu,elems,show H[a]? =_ from ha]
     rw[if_pos (by omega)]
    ·exact⟨_,[],rfl,Zgo hc _ (show All2 (RR e) (sub [] 0 0) []from trivial),hs⟩
   ·cases hs
  ·cases hs
 ·cases hs
theorem Zc9 {hp:List SM} {id:Nat} {t:CT} {l:List t.D} {m:Bool} (h:nth hp id=some (.row t l m)):hp[id]? =some (.row t l m):=by rw[←Za5];exact h
theorem Zih (hh:RH φ hp (fun a=>H[a]?)) {ct:CT} {l:List ct.D} {es:List (List PV)} (hl:All2 (RR ct) l es) {n n':Nat} {m:Option Nat} (hm:m.getD n=n') {na:Nat} (hna:na=n) {hlen:Nat} (hlen':hlen=hp.length) {Hl:Nat} (hHl:Hl=H.length) {k:SV→List SM→Prop} (hk:k (.ref hlen 0 n m) (hp++ [.row ct l true])):
 OutOK φ k (some (.ref Hl 0 na n',H++ [Mem.row es ct.w true])):=by
 subst hlen'
 subst hHl
 subst hm
 subst hna
 exact ZhQ hh hl hk
theorem ZvC (hh:RH φ hp (fun a=>H[a]?)) {ct:CT} {by_ z:Nat} (hz:ct.w=z) {s:SV} {q:PV} {new:List ct.D} {es:List (List PV)} {k:SV→List SM→Prop} (ha:ZtS ct by_ hp s new k) (hs:RV φ s q) (hn:All2 (RR ct) new es):OutOK φ k (Zbo H z by_ q es):=by
 subst hz
 have hnl:=hn.len
 unfold ZtS at ha
 split at ha
 ·simp only[RV]at hs;subst hs
  cases new with
  |nil=>
   cases es with
   |cons _ _=>simp at hnl
   |nil=>exact⟨_,_,φ,_,_,rfl,Le.refl φ,hh,by simp only[RV],ha⟩
  |cons x r=>
   cases es with
   |nil=>simp at hnl
   |cons e es=>
    simp only[List.length_cons,Nat.add_right_cancel_iff]at hnl
    obtain⟨h1,h2⟩:=ha
    rw[hnl]at h1
    simp only[Zbo,List.isEmpty_cons,Bool.false_eq_true,if_false,List.length_cons]
    rw[if_pos h1]
    exact Zih hh hn (n:=r.length+1) (n':=es.length+1) (m:=none) (by show r.length+1=_;omega) (by omega) rfl rfl h2
 ·rename_i id i n m
  split at ha
  ·rename_i e l hrow
   split at ha
   ·rename_i hc
    have he:=Ziu hc
    subst he
    obtain⟨hlen,ha⟩:=ha
    have hcast: ∀xs:List e.D,Zgz e e hc xs=xs:=fun xs=>rfl
    simp only[hcast]at ha
    rcases hh.ref hrow hs with⟨a,es',m',rfl,hp',hL,hes,hm⟩|⟨rfl,rfl,rfl,rfl,hm0,hp'⟩
    ·have hm:=hm rfl
     subst hm
     have hL:H[a]? =_:=hL
     have hl':=hes.len
     have hlt:=(List.getElem?_eq_some_iff.1 hL).1
     have big: ∀ (x:e.D) (r:List e.D) (y:List PV) (ys:List (List PV)) (K:SV→List SM→Prop),All2 (RR e) (x::r) (y::ys)→m.getD n<n+(r.length+1)→
      ((n+(r.length+1))*by_≤140737488355328∧K (.ref hp.length 0 (n+(r.length+1)) none) (hp.set id .dead++ [.row e (sub l i n++x::r) true]))→OutOK φ K (Zbo H e.w by_ (.ref a i n (m.getD n)) (y::ys)):=by
      intro x r y ys K hxy hlt' hb
      have hxl:=hxy.len
      simp only[List.length_cons,Nat.add_right_cancel_iff]at hxl
      simp only[Zbo,hL,List.isEmpty_cons,Bool.false_eq_true,if_false,List.length_cons]
      rw[if_pos ⟨trivial,by omega⟩,if_neg (by omega),if_pos (by rw[←hxl];exact hb.1)]
      have hk:=hh.killA (m:= .dead) (Zc9 hrow) rfl hp'
      exact Zih hk ((hes.sub i n).app hxy) (n:=n+(r.length+1)) (n':=n+(ys.length+1)) (m:=none) (by show n+(r.length+1)=_;omega) (by omega) (hlen:=hp.length) (by simp) (Hl:=H.length) (by simp) hb.2
     cases new with
     |nil=>
      cases es with
      |cons _ _=>simp at hnl
      |nil=>
       simp only[Zbo,hL,List.isEmpty_nil,if_true]
       rw[if_pos ⟨trivial,by omega⟩]
       exact⟨_,_,φ,_,_,rfl,Le.refl φ,hh,hs,ha⟩
     |cons x r=>
      cases es with
      |nil=>simp at hnl
      |cons y ys=>
       have hxl:=hnl
       simp only[List.length_cons,Nat.add_right_cancel_iff]at hxl
       cases m with
       |none=>exact big x r y ys k hn (by simp only[Option.getD_none];omega) ha
       |some c=>
        by_cases hcap:n+(r.length+1)≤c
        ·obtain⟨h1,h2⟩:=ha.1 hcap
         simp only[Zbo,hL,List.isEmpty_cons,Bool.false_eq_true,if_false,List.length_cons,Option.getD_some]
         rw[if_pos ⟨trivial,by omega⟩,if_pos (by omega),if_pos (by omega)]
         refine⟨_,_,φ,_,_,rfl,Le.refl φ,hh.set (Zc9 hrow) rfl hp' ?_, ?_,h2⟩
         ·simp only[RM]
          exact⟨_,true,List.getElem?_set_self hlt,hes.spl _ hn,fun _=>rfl⟩
         ·simp only[RV]
          exact .inl ⟨a,hp',by rw[hxl];rfl⟩
        ·exact big x r y ys k hn (by simp only[Option.getD_some];omega) (ha.2 (by omega))
    ·cases new with
     |nil=>
      cases es with
      |cons _ _=>simp at hnl
      |nil=>exact⟨_,_,φ,_,_,rfl,Le.refl φ,hh,hs,ha⟩
     |cons x r=>
      cases es with
      |nil=>simp at hnl
      |cons y ys=>
       have hxl:=hnl
       simp only[List.length_cons,Nat.add_right_cancel_iff]at hxl
       have hb:(0+(r.length+1))*by_≤140737488355328∧k (.ref hp.length 0 (0+(r.length+1)) none) (hp.set id .dead++ [.row e (sub [] 0 0++x::r) true]):=by
        cases m with
        |none=>exact ha
        |some c=>
         simp only[Option.getD_some]at hm0
         subst hm0
         exact ha.2 (by omega)
       obtain⟨h1,h2⟩:=hb
       simp only[Zbo,List.isEmpty_cons,Bool.false_eq_true,if_false,List.length_cons]
       rw[if_pos (by rw[←hxl];simpa using h1)]
       exact Zih (hh.kill id) (l:=sub [] 0 0++x::r) hn (n:=0+(r.length+1)) (n':=ys.length+1) (m:=none) (by show 0+(r.length+1)=_;omega) (by omega) (hlen:=hp.length) (by simp) rfl h2
   ·cases ha
  ·cases ha
 ·cases ha
theorem RH.empty' {L:Nat→Option Mem}:RH [] [] L:=⟨rfl,fun id sm o h=>by simp at h,fun id id' sm sm' a _ h=>by simp at h⟩
theorem Zp9 (hT:TysOK P T) (hh:RH φ hp (fun a=>H[a]?)) {ts:Array TypeId} {s x:SV} {a q:PV} {k:SV→List SM→Prop} (ha:Zib h T ts.toList hp s x k) (hs:RV φ s a) (hx:RV φ x q):OutOK φ k (Zdo P h H ts a q):=by
 unfold Zib at ha
 split at ha
 ·rename_i t t2 r hts
  have h0:ts[0]? =some t:=by rw[←Array.getElem?_toList,hts];rfl
  have h1:ts[1]? =some t2:=by rw[←Array.getElem?_toList,hts];rfl
  split at ha
  ·cases ha
  ·cases ha
  ·rename_i e hk hn1 hn2
   obtain⟨htel,_⟩:=ZcJ hT hk
   have hni:Zet P (ts[1]?)=true:=by
    rw[h1]
    obtain⟨u,hu⟩:=KM.some (hT.get rfl (fun e=>hn2 e)).k (fun e=>hn2 e)
    simp only[Zet,hu]
    cases u<;>first
     |rfl
     |skip
    rename_i kk
    have hkm:=(hT.get rfl (fun e=>hn2 e)).k
    exfalso
    revert hkm hn1 hn2
    cases hk2:(T t2).k<;>intro hn1 hn2 hkm<;>simp only[KM]at hkm<;>first
     |(rw[hu]at hkm;cases hkm;done)
     |(obtain⟨_,hkm,_⟩:=hkm;rw[hu]at hkm;cases hkm;done)
     |(obtain⟨_,hkm⟩:=hkm;rw[hu]at hkm;cases hkm;done)
     |(obtain⟨_,_,_,hkm⟩:=hkm;rw[hu]at hkm;cases hkm;done)
     |(obtain⟨_,_,hkm,_⟩:=hkm;rw[hu]at hkm;cases hkm;done)
     |exact hn1 _ rfl
     |exact hn2 rfl
   split at ha
   ·cases ha
   ·rename_i ct hct hb ho
    simp only[Bool.and_eq_true]at hb
    have hb1:=Nat.le_of_ble_eq_true hb.1
    have hb2:=Nat.le_of_ble_eq_true hb.2
    have he:=hT.get rfl (fun e=>ho e)
    obtain⟨zs,hz,hzr,hzl⟩:=he.zero
    obtain⟨hw,_⟩:=he.ct ct hct
    have fin: ∀ (H':List Mem) (x':PV) (new:List ct.D) (es:List (List PV)) (hp':List SM),RH φ hp' (fun a=>H'[a]?)→Zmu H' x'=some es→All2 (RR ct) new es→ZtS ct (T e).by_ hp' s new k→OutOK φ k (Zce P H' ts a x'):=by
     intro H' x' new es hp' hh' h3 h4 h5
     have:Zce P H' ts a x'=Zbo H' (T e).sz (T e).by_ a es:=by
      simp only[Zce,h0,Option.bind_some,htel,he.sz,he.by_,hz,h3]
      rw[if_pos ⟨hni,hb1,hb2,hzl,ZiK h4 hw⟩]
     rw[this]
     exact ZvC hh' hw h5 hs h4
    have hfr:Am.frzT h ts=h.frz t:=by simp only[Am.frzT,h0]
    unfold Zdo
    rw[hfr]
    split at ha
    ·rename_i hf
     obtain⟨q',V',e1,e2,e3,e5⟩:=Zkw hh 40 x q _ ha hx
     rw[hf,cond_true,show exp ZaE H q=some q' from e1,Option.bind_some]
     obtain⟨new,es,g1,g2,g3⟩:=Znp (φ:=[]) (hp:=[]) (H:=Am.freeze (rch ZaE H q) H) RH.empty' e3 e2
     exact fin _ q' new es _ (Zgw hh e5) g1 g2 g3
    ·rename_i hf
     obtain⟨new,es,e1,e2,e3⟩:=Znp hh ha hx
     rw[hf,cond_false]
     exact fin _ q new es _ hh e1 e2 e3
   ·cases ha
  ·cases ha
 ·cases ha
theorem ZtD (hT:TysOK P T) (hh:RH φ hp (fun a=>H[a]?)) {ts:Array TypeId} {d x:SV} {a q:PV} {k:SV→List SM→Prop} (ha:ZvW T ts.toList hp d x k) (hd:RV φ d a) (hx:RV φ x q):OutOK φ k (ZnS P H ts a q):=by
 unfold ZvW at ha
 split at ha
 ·rename_i t r hts
  have h0:ts[0]? =some t:=by rw[←Array.getElem?_toList,hts];rfl
  split at ha
  ·rename_i e hk
   obtain⟨htel,_⟩:=ZcJ hT hk
   split at ha
   ·cases ha
   ·rename_i ct hct hb ho
    have hb:=Nat.le_of_ble_eq_true hb
    have he:=hT.get rfl (fun e=>ho e)
    obtain⟨hw,_⟩:=he.ct ct hct
    obtain⟨new,es,e1,e2,e3⟩:=Znp hh ha hx
    simp only[ZnS,h0,Option.bind_some,htel,he.sz,e1]
    rw[if_pos ⟨hb,ZiK e2 hw⟩]
    split at e3
    ·simp only[RV]at hd;subst hd
     exact⟨_,_,φ,_,_,rfl,Le.refl φ,hh,vi _ _,e3⟩
    ·rename_i id i n m
     split at e3
     ·rename_i e' l hrow
      split at e3
      ·rename_i hc
       have he':=Ziu hc
       subst he'
       obtain⟨hlen,e3⟩:=e3
       rcases hh.ref hrow hd with⟨b,es',m',rfl,hp',hL,hes,hm⟩|⟨rfl,rfl,rfl,rfl,hm0,hp'⟩
       ·have hm:=hm rfl
        subst hm
        have hL:H[b]? =_:=hL
        have hl':=hes.len
        have hlt:=(List.getElem?_eq_some_iff.1 hL).1
        simp only[hL]
        rw[if_pos ⟨hw,by omega⟩]
        refine⟨_,_,φ,_,_,rfl,Le.refl φ,hh.set (Zc9 hrow) rfl hp' ?_, ?_,e3⟩
        ·simp only[RM]
         rw[hw]
         exact⟨_,true,List.getElem?_set_self hlt,hes.spl _ (e2.take _),fun _=>rfl⟩
        ·rw[←e2.len];exact vi _ _
       ·refine⟨_,_,φ,_,_,rfl,Le.refl φ, ?_, ?_,e3⟩
        ·have hlt:=(List.getElem?_eq_some_iff.1 (Zc9 hrow)).1
         have:(hp.set id (.row e' (spl (Zgz e' e' hc []) 0 (new.take 0)) true))=hp:=by
          apply List.ext_getElem?
          intro j
          by_cases hj:j=id
          ·subst hj
           rw[List.getElem?_set_self hlt,Zc9 hrow]
           rfl
          ·rw[List.getElem?_set_ne (fun e=>hj e.symm)]
         rw[this]
         exact hh
        ·simp only[Nat.min_zero];exact vi _ _
      ·cases e3
     ·cases e3
    ·cases e3
   ·cases ha
  ·cases ha
 ·cases ha
theorem Zq0 (hT:TysOK P T) (hh:RH φ hp (fun a=>H[a]?)) {ts:Array TypeId} {d:SV} {a:PV} {k:SV→List SM→Prop} (ha:ZqV T ts.toList hp d k) (hd:RV φ d a):OutOK φ k (ZiJ P H ts a):=by
 unfold ZqV at ha
 split at ha
 ·rename_i t r hts
  have h0:ts[0]? =some t:=by rw[←Array.getElem?_toList,hts];rfl
  split at ha
  ·rename_i e hk
   obtain⟨htel,_⟩:=ZcJ hT hk
   split at ha
   ·cases ha
   ·rename_i ct hct hb ho
    have hb:=Nat.le_of_ble_eq_true hb
    have he:=hT.get rfl (fun e=>ho e)
    obtain⟨zs,hz,hzr,hzl⟩:=he.zero
    obtain⟨hw,hrr⟩:=he.ct ct hct
    have hvt:RV φ (.tup []) (.tup []):=by simp[RV,RL]
    simp only[ZiJ,h0,Option.bind_some,htel,he.sz,hz]
    rw[if_pos ⟨hb,hzl⟩]
    split at ha
    ·simp only[RV]at hd;subst hd
     exact⟨_,_,φ,_,_,rfl,Le.refl φ,hh,hvt,ha⟩
    ·rename_i id i n m
     split at ha
     ·rename_i e' l hrow
      split at ha
      ·rename_i hc
       have he':=Ziu hc
       subst he'
       obtain⟨hlen,ha⟩:=ha
       rcases hh.ref hrow hd with⟨b,es',m',rfl,hp',hL,hes,hm⟩|⟨rfl,rfl,rfl,rfl,hm0,hp'⟩
       ·have hm:=hm rfl
        subst hm
        have hL:H[b]? =_:=hL
        have hl':=hes.len
        have hlt:=(List.getElem?_eq_some_iff.1 hL).1
        simp only[hL]
        rw[if_pos ⟨hw,by omega⟩]
        refine⟨_,_,φ,_,_,rfl,Le.refl φ,hh.set (Zc9 hrow) rfl hp' ?_,hvt,ha⟩
        simp only[RM]
        rw[hw]
        exact⟨_,true,List.getElem?_set_self hlt,hes.spl _ (All2.rep (hrr _ hz) _),fun _=>rfl⟩
       ·refine⟨_,_,φ,_,_,rfl,Le.refl φ, ?_,hvt,ha⟩
        have hlt:=(List.getElem?_eq_some_iff.1 (Zc9 hrow)).1
        have:(hp.set id (.row e' (spl (Zgz e' e' hc []) 0 (List.replicate 0 e'.z)) true))=hp:=by
         apply List.ext_getElem?
         intro j
         by_cases hj:j=id
         ·subst hj
          rw[List.getElem?_set_self hlt,Zc9 hrow]
          rfl
         ·rw[List.getElem?_set_ne (fun e=>hj e.symm)]
        rw[this]
        exact hh
      ·cases ha
     ·cases ha
    ·cases ha
   ·cases ha
  ·cases ha
 ·cases ha
mutual
theorem RV.shift {ψ:Ph} (φ:Ph): ∀ (V:SV) (q:PV),RV ψ V q→RV (φ++ψ) (shS φ.length V) q
 | .v _ _,_,h| .nilp,_,h| .nils,_,h| .nilf,_,h| .nili,_,h| .nilmp,_,h| .box _ _ _,_,h=>by simpa only[RV,shS]using h
 | .mp id,q,h=>by
  have e:(φ++ψ)[φ.length+id]? =ψ[id]? :=by rw[List.getElem?_append_right (by omega)];congr 1;omega
  simp only[RV,shS,e]at h⊢
  exact h
 | .ref id i n m,q,h=>by
  have e:(φ++ψ)[φ.length+id]? =ψ[id]? :=by rw[List.getElem?_append_right (by omega)];congr 1;omega
  simp only[RV,shS,e]at h⊢
  exact h
 | .ptr id i r,q,h=>by
  have e:(φ++ψ)[φ.length+id]? =ψ[id]? :=by rw[List.getElem?_append_right (by omega)];congr 1;omega
  simp only[RV,shS,e]at h⊢
  exact h
 | .func f a c,q,h=>by
  simp only[RV,shS]at h⊢
  obtain⟨a',c',h1,h2,h3⟩:=h
  exact⟨a',c',h1,RL.shift φ a a' h2,RL.shift φ c c' h3⟩
 | .agg cs,q,h=>by
  simp only[RV,shS]at h⊢
  obtain⟨cs',h1,h2⟩:=h
  exact⟨cs',h1,RL.shift φ cs cs' h2⟩
 | .tup cs,q,h=>by
  simp only[RV,shS]at h⊢
  obtain⟨cs',h1,h2⟩:=h
  exact⟨cs',h1,RL.shift φ cs cs' h2⟩
theorem RL.shift {ψ:Ph} (φ:Ph): ∀ (l:List SV) (qs:List PV),RL ψ l qs→RL (φ++ψ) (shL φ.length l) qs
 | [],_,h=>by simpa only[RL,shL]using h
 |v::vs,qs,h=>by
  simp only[RL,shL]at h⊢
  obtain⟨q,r,h1,h2,h3⟩:=h
  exact⟨q,r,h1,RV.shift φ v q h2,RL.shift φ vs r h3⟩
end
theorem ZjL {ψ:Ph} (φ:Ph): ∀ {els:List SV} {es:List (List PV)},All2 (fun V c=> ∃q,c=[q]∧RV ψ V q) els es→All2 (fun V c=> ∃q,c=[q]∧RV (φ++ψ) V q) (shL φ.length els) es
 | [],[],_=>trivial
 |V::els,c::es,h=>by
  obtain⟨⟨q,h1,h2⟩,h3⟩:=h
  exact⟨⟨q,h1,RV.shift φ V q h2⟩,ZjL φ h3⟩
theorem Zsq (b:Nat): ∀l:List SM,Zvy b l=l.map (shH b)
 | []=>rfl
 |m::r=>by simp only[Zvy,Zsq b r,List.map_cons]
theorem ZnN (b:Nat) (m:SM):live (shH b m)=live m:=by cases m<;>rfl
theorem RH.join (hh:RH φ hp (fun a=>H[a]?)) {ψ:Ph} {hn:List SM} {rows:List Mem} (hj:RH ψ hn (fun a=>if H.length≤a then rows[a-H.length]? else none)):RH (φ++ψ) (hp++Zvy hp.length hn) (fun a=>(H++rows)[a]?):=by
 have hlen:=hh.len
 rw[Zsq]
 have cls: ∀ {id:Nat} {x:SM},(hp++hn.map (shH hp.length))[id]? =some x→(id<hp.length∧hp[id]? =some x∧(φ++ψ)[id]? =φ[id]?)∨(hp.length≤id∧ ∃y,hn[id-hp.length]? =some y∧x=shH hp.length y∧(φ++ψ)[id]? =ψ[id-hp.length]?):=by
  intro id x hx
  by_cases hi:id<hp.length
  ·rw[List.getElem?_append_left hi]at hx
   exact .inl ⟨hi,hx,List.getElem?_append_left (by omega)⟩
  ·rw[List.getElem?_append_right (by omega),List.getElem?_map]at hx
   obtain⟨y,hy,rfl⟩:=ZwC hx
   exact .inr ⟨by omega,y,hy,rfl,by rw[List.getElem?_append_right (by omega),hlen]⟩
 have Lold: ∀a,a<H.length→(H++rows)[a]? =H[a]? :=fun a ha=>List.getElem?_append_left ha
 have Lnew: ∀a m,(if H.length≤a then rows[a-H.length]? else none)=some m→H.length≤a∧(H++rows)[a]? =some m:=by
  intro a m hm
  split at hm
  ·rename_i hle
   exact⟨hle,by rw[List.getElem?_append_right hle];exact hm⟩
  ·cases hm
 refine⟨by simp[hlen,hj.len], ?_, ?_⟩
 ·intro id x o hx ho
  rcases cls hx with⟨hi,h1,h2⟩|⟨hi,y,hy,rfl,h2⟩
  ·rw[h2]at ho
   exact RM.mono (Le.app _ _) (fun a ha hl=>by subst ha;exact Lold a (hh.lt h1 hl ho)) (hh.row _ _ _ h1 ho)
  ·rw[h2]at ho
   have hm:=hj.row _ _ _ hy ho
   cases y with
   |row t l m=>
    simp only[shH,RM]at hm⊢
    cases o with
    |none=>exact hm
    |some a=>
     obtain⟨es,m',h3,h4⟩:=hm
     exact⟨es,m',(Lnew _ _ h3).2,h4⟩
   |cell cs m=>
    simp only[shH,RM]at hm⊢
    obtain⟨a,cs',m',rfl,h3,h4,h5⟩:=hm
    exact⟨a,cs',m',rfl,(Lnew _ _ h3).2,by rw[←hlen];exact RL.shift φ cs cs' h4,h5⟩
   |many ct els m=>
    simp only[shH,RM]at hm⊢
    cases o with
    |none=>
     simp only at hm⊢
     rw[hm]
     rfl
    |some a=>
     obtain⟨es,m',h3,h4,h5⟩:=hm
     refine⟨es,m',(Lnew _ _ h3).2, ?_,h5⟩
     rw[←hlen]
     exact ZjL φ h4
   |set ks=>
    simp only[shH,RM]at hm⊢
    obtain⟨a,es,rfl,h3,h4⟩:=hm
    exact⟨a,es,rfl,(Lnew _ _ h3).2,h4⟩
   |dead=>trivial
 ·intro id id' x x' a hne hx hx' hl hl' ha ha'
  have new: ∀ (y:SM) (j:Nat),hn[j]? =some y→live y=true→ψ[j]? =some (some a)→H.length≤a:=by
   intro y j hy hly hj'
   obtain⟨m,hm⟩:=(hj.row _ _ _ hy hj').ex hly
   exact(Lnew _ _ hm).1
  rcases cls hx with⟨hi,h1,h2⟩|⟨hi,y,hy,rfl,h2⟩
  ·rw[h2]at ha
   rcases cls hx' with⟨hi',h1',h2'⟩|⟨hi',y',hy',rfl,h2'⟩
   ·rw[h2']at ha'
    exact hh.inj _ _ _ _ _ hne h1 h1' hl hl' ha ha'
   ·rw[h2']at ha'
    rw[ZnN]at hl'
    have:=new _ _ hy' hl' ha'
    have:=hh.lt h1 hl ha
    omega
  ·rw[h2]at ha
   rw[ZnN]at hl
   have:=new _ _ hy hl ha
   rcases cls hx' with⟨hi',h1',h2'⟩|⟨hi',y',hy',rfl,h2'⟩
   ·rw[h2']at ha'
    have:=hh.lt h1' hl' ha'
    omega
   ·rw[h2']at ha'
    rw[ZnN]at hl'
    exact hj.inj _ _ _ _ _ (by omega) hy hy' hl hl' ha ha'
def nm1:PV→Bool
 | .bool _| .int _ _| .str _| .nilp| .nils| .nilf| .nilm| .nili| .ifc _ _=>true
 | .lst es=>es.isEmpty
 |_=>false
theorem Zll {V:SV} {q:PV} (hn:Zin V=true) (hr:RV φ V q):nm1 q=true:=by
 cases V with
 |v t x=>
  cases t<;>simp only[Zin]at hn<;>simp only[RV,RR,List.cons.injEq,and_true]at hr<;>first
   |(subst hr;rfl)
   |(subst hr;cases x<;>rfl)
   |(cases hn;done)
 |nilp=>simp only[RV]at hr;subst hr;rfl
 |nils=>simp only[RV]at hr;subst hr;rfl
 |nilf=>simp only[RV]at hr;subst hr;rfl
 |nili=>simp only[RV]at hr;subst hr;rfl
 |nilmp=>simp only[RV]at hr;subst hr;rfl
 |_=>cases hn
theorem ZlG: ∀ (l:List SV) (qs:List PV),l.all Zin=true→RL φ l qs→ ∀c∈qs,nm1 c=true:=by
 intro l
 induction l with
 |nil=>intro qs _ h2 c hc;simp only[RL]at h2;subst h2;simp at hc
 |cons v r ih=>
  intro qs h1 h2 c hc
  simp only[RL]at h2
  obtain⟨q',r',rfl,h3,h4⟩:=h2
  simp only[List.all_cons,Bool.and_eq_true]at h1
  rcases List.mem_cons.1 hc with rfl|hc
  ·exact Zll h1.1 h3
  ·exact ih r' h1.2 h4 c hc
theorem Zuh {V:SV} {q:PV} (hn:Zvp V=true) (hr:RV φ V q):ZgB q=true:=by
 have one:Zin V=true→ZgB q=true:=by
  intro h1
  have:=Zll h1 hr
  cases q<;>first
   |exact this
   |(cases this;done)
 cases V with
 |tup vs=>
  simp only[RV]at hr
  obtain⟨qs,rfl,h2⟩:=hr
  simp only[ZgB,List.all_eq_true]
  intro c hc
  have:=ZlG vs qs hn h2 c hc
  cases c<;>first
   |exact this
   |(cases this;done)
 |agg vs=>
  simp only[RV]at hr
  obtain⟨qs,rfl,h2⟩:=hr
  simp only[ZgB,List.all_eq_true]
  intro c hc
  have:=ZlG vs qs hn h2 c hc
  cases c<;>first
   |exact this
   |(cases this;done)
 |_=>exact one hn
theorem ZiW (hh:RH φ hp (fun a=>H[a]?)) {f:FuncId} {args:List SV} {qs:List PV} {k:SV→List SM→Prop} (hc:ZeL P h f args hp k) (ha:RL φ args qs):OutOK φ k (Zch h (lim P h) f qs H):=by
 unfold ZeL at hc
 unfold Zch
 split at hc
 ·rename_i ho
  rw[if_pos ho]
  obtain⟨v,H',φ',V,hp',h1,h2,h3,h4,h5⟩:=hc.out φ H qs hh ha
  exact⟨v,H',φ',V,hp',h1,h2,h3,h4,h5⟩
 ·rename_i ho
  rw[if_neg (by rw[ho];simp)]
  obtain⟨qs',l',e1,e2,e3,e4⟩:=ZwM hh hc ha
  unfold Zf7
  rw[e1,Option.bind_some]
  split at e3
  ·rename_i hi
   rw[hi,cond_true]
   obtain⟨v,rows,sf,ψ,V,hn,sf',h1,h2,h3,h4,h5⟩:=e3.out qs' e2 H.length
   simp only[ZvT,h1,Option.map_some]
   have join: ∀ (H':List Mem) (hp':List SM),H'.length=H.length→hp'.length=hp.length→RH φ hp' (fun a=>H'[a]?)→k (shS hp.length V) (hp'++Zvy hp.length hn)→OutOK φ k (some (v,H'++rows)):=by
    intro H' hp' hl1 hl2 hh' hk
    rw[←hl1]at h3
    have:=hh'.join h3
    rw[hl2]at this
    refine⟨_,_,φ++ψ,_,_,rfl,Le.app _ _,this, ?_,hk⟩
    have:=RV.shift φ V v h2
    rw[hh.len]at this
    exact this
   have fl: ∀ids (hp:List SM),(frzT hp ids).length=hp.length:=by
    intro ids
    induction ids with
    |nil=>intro hp;rfl
    |cons i r ih=>
     intro hp
     show(frzT (frz1 hp i) r).length=_
     rw[ih]
     unfold frz1
     split<;>simp
   cases sf' with
   |true=>
    rw[h4 rfl]
    exact join H hp rfl rfl hh h5
   |false=>
    cases sf with
    |true=>exact join H (frzT hp (Zqk hp args)) rfl (fl _ _) (ZnQ _ hh) h5
    |false=>exact join _ _ (ZaJ _ _) (fl _ _) (Zgw hh e4) h5
  ·rename_i hi
   rw[hi,cond_false]
   obtain⟨q,V,h1,h2,h3⟩:=e3.out qs' e2
   simp only[ZmG,h1,Option.bind_some]
   have h2':RV φ V q:=RV.mono (fun i o h=>by simp at h) V q h2
   split at h3
   ·rename_i hm
    rw[if_pos hm]
    simp only[Option.map_some,List.append_nil]
    exact⟨_,_,φ,_,_,rfl,Le.refl φ,Zgw hh e4,h2',h3⟩
   ·rename_i hm
    rw[if_neg (by rw[hm];simp)]
    split at h3
    ·rename_i hnm
     rw[if_pos (Zuh hnm h2)]
     simp only[Option.map_some,List.append_nil]
     exact⟨_,_,φ,_,_,rfl,Le.refl φ,hh,h2',h3⟩
    ·cases h3
theorem Zuk (hT:TysOK P T) (hh:RH φ hp (fun a=>H[a]?)) (hρ:ZqF φ tm ρ) {c:Call} {k:SV→List SM→Prop} (hc:ZmZ P h T c tm hp k):OutOK φ k (ZgN P h (lim P h) H ρ c):=by
 obtain⟨callee,args,ts⟩:=c
 unfold ZmZ at hc
 split at hc
 ·cases hc
 ·rename_i vs hvs
  obtain⟨qs,hq,hr⟩:=Zi6 hρ hvs
  simp only at hq hc
  split at hc
  ·split at hc
   ·obtain⟨q,rfl,h2⟩:=RL1 hr
    split at hc
    ·rename_i t r hts
     have h0:ts[0]? =some t:=by rw[←Array.getElem?_toList,hts];rfl
     show OutOK φ k (ZbO H (ZbI P H ρ _ _))
     simp only[ZbI,hq,Option.bind_some,Zbh,h0]
     exact .of_val hh (ZvY hT hc h2)
    ·cases hc
   ·simp only[RL]at hr
    obtain⟨q,r',rfl,h2,h3⟩:=hr
    show OutOK φ k (ZbO H (ZbI P H ρ _ _))
    simp only[ZbI,hq,Option.bind_some,Zbh]
    exact .of_val hh (Zkc false hc h2 h3)
   ·simp only[RL]at hr
    obtain⟨q,r',rfl,h2,h3⟩:=hr
    show OutOK φ k (ZbO H (ZbI P H ρ _ _))
    simp only[ZbI,hq,Option.bind_some,Zbh]
    exact .of_val hh (Zkc true hc h2 h3)
   ·simp only[RL]at hr
    obtain⟨q,r',rfl,h2,q2,r2,rfl,h3,rfl⟩:=hr
    show OutOK φ k (Zdu P h H ρ _)
    simp only[Zdu,hq,Option.bind_some]
    exact Zp9 hT hh hc h2 h3
   ·simp only[RL]at hr
    obtain⟨q,r',rfl,h2,q2,r2,rfl,h3,rfl⟩:=hr
    show OutOK φ k (ZnY P H ρ _)
    simp only[ZnY,hq,Option.bind_some]
    exact ZtD hT hh hc h2 h3
   ·simp only[RL]at hr
    obtain⟨q,r',rfl,h2,rfl⟩:=hr
    show OutOK φ k (ZiC P H ρ _)
    simp only[ZiC,hq,Option.bind_some]
    exact Zq0 hT hh hc h2
   ·cases hc
  ·rename_i f
   have e:=Zya (P:=P) (h:=h) (E:=lim P h) (H:=H) (ρ:=ρ) f args ts
   show OutOK φ k (opE P h (lim P h) H ρ (.call ⟨.value (.func f),args,ts⟩))
   rw[e,hq,Option.bind_some]
   exact ZiW hh hc hr
  ·rename_i x hx
   split at hc
   ·rename_i f a d hf
    obtain⟨q,h1,h2⟩:=hρ _ _ hf
    simp only[RV]at h2
    obtain⟨a',d',rfl,h3,h4⟩:=h2
    have:ZgN P h (lim P h) H ρ ⟨.value x,args,ts⟩=ZqH h (lim P h) H ρ x ⟨.value x,args,ts⟩:=by
     cases x<;>first
      |rfl
      |(rename_i g;exact absurd rfl (hx g))
    rw[this]
    simp only[ZqH,h1,Option.bind_some,hq]
    exact ZiW hh hc ((h3.app hr).app h4)
   ·cases hc
  ·cases hc
theorem TysOK.smap {P:Program} {T:TypeId→TI} (hT:TysOK P T) {t:TypeId} (hk:(T t).k= .smap): ∃k e,P.underlying t=some (.map k e)∧Zji P t=some (.string,e)∧ZcG P e=some (.bool false):=by
 have h:=(hT.get hk (by simp)).k
 rw[hk]at h
 exact h
theorem ZtN (hh:RH φ hp (fun a=>H[a]?)) {k:SV→List SM→Prop} (hk:k (.mp hp.length) (hp++ [.set []])):OutOK φ k (ZiB H (some (.map H.length,[Mem.map []],[]))):=by
 refine⟨_,_,φ++ [some H.length],_,_,rfl,Le.app _ _,hh.push ?_, ?_,hk⟩
 ·simp only[RM]
  exact⟨_,[],rfl,by simp,trivial⟩
 ·simp only[RV]
  exact⟨_,ZjO hh _,rfl⟩
abbrev ZyA (k:List UInt8) (e:PV×PV):Prop:=e=(.str ⟨List.toArray k⟩, .bool true)
theorem RH.mp (hh:RH φ hp (fun a=>H[a]?)) {id:Nat} {ks:List (List UInt8)} {q:PV} (hn:nth hp id=some (.set ks)) (hr:RV φ (.mp id) q): ∃a es,φ[id]? =some (some a)∧H[a]? =some (.map es)∧All2 ZyA ks es∧q= .map a:=by
 simp only[RV]at hr
 obtain⟨a,h1,rfl⟩:=hr
 rw[Za5]at hn
 have hm:=hh.row _ _ _ hn h1
 simp only[RM]at hm
 obtain⟨a',es,h0,h2,h3⟩:=hm
 cases h0
 exact⟨a,es,h1,h2,h3,rfl⟩
theorem Zpq {s:List UInt8}: ∀ {ks:List (List UInt8)} {es:List (PV×PV)},All2 ZyA ks es→ZdO (.s ⟨s.toArray⟩) es=some (bif ZqG s ks then some (.bool true)else none)
 | [],[],_=>rfl
 |k::ks,e::es,h=>by
  obtain⟨rfl,h2⟩:=h
  have ih:=Zpq (s:=s) h2
  rw[ZdO,ZqG]
  show(some (s==k)).bind _=_
  cases hb:(s==k)with
  |true=>rfl
  |false=>simp only[Option.bind_some,ih,cond_false]
theorem ZsB {s:List UInt8}: ∀ {ks:List (List UInt8)} {es:List (PV×PV)},All2 ZyA ks es→ ∃es',Zej (.s ⟨s.toArray⟩) (.bool true) es=some es'∧All2 ZyA (ZtB s ks) es'
 | [],[],_=>⟨_,rfl,rfl,trivial⟩
 |k::ks,e::es,h=>by
  obtain⟨rfl,h2⟩:=h
  obtain⟨es',h3,h4⟩:=ZsB (s:=s) h2
  have e:Zej (.s ⟨s.toArray⟩) (.bool true) ((.str ⟨k.toArray⟩, .bool true)::es)=(some (s==k)).bind fun b=>bif b then some ((.str ⟨s.toArray⟩, .bool true)::es)else(Zej (.s ⟨s.toArray⟩) (.bool true) es).map ((.str ⟨k.toArray⟩, .bool true):: ·):=by rw[Zej];rfl
  rw[e,ZtB,h3]
  cases hb:(s==k)with
  |true=>
   have hk:s=k:=eq_of_beq hb
   subst hk
   exact⟨_,rfl,rfl,h2⟩
  |false=>exact⟨_,rfl,rfl,h4⟩
theorem KM.notIfc {P:Program} {t:TypeId} {k:TK} (h:KM P t k) (hk:(∃i,k= .int i)∨k= .str):notIfc P t=true:=by
 rcases hk with⟨i,rfl⟩|rfl
 ·simp only[KM]at h;unfold Am.notIfc;rw[h]
 ·simp only[KM]at h;unfold Am.notIfc;rw[h]
theorem ZuU {y:AV} {u:TypeId} {ok:Bool} {k:SV→Prop} {Z:SV} {z q:PV} (hn:Am.notIfc P u=true) (hz:ZcG P u=some z) (hZ:RV φ Z z) (ho:asT (y.is u) Z ok k) (hr:RV φ (.v .any y) q):ValOK φ k (Zc2 P (some q) u ok):=by
 have hq:q=y.pv:=by simp only[RV,RR]at hr;simpa using hr
 subst hq
 have two: ∀ {V:SV} {v:PV} {b:Bool},RV φ V v→k (.tup [V, .v .b b])→ValOK φ k (some (.tup [v, .bool b])):=fun{V v b} hv hk=>ValOK.mk (φ:=φ) (V:= .tup [V, .v .b b]) (by simp only[RV,RL];exact⟨_,rfl,_,_,rfl,hv,_,_,rfl,by simp only[RR],rfl⟩) hk
 have miss:y.is u=none→ValOK φ k (bif ok then(ZcG P u).map fun z=> .tup [z, .bool false]else none):=fun h0=>by
  rw[h0]at ho
  cases ok with
  |true=>rw[cond_true,hz];exact two hZ ho
  |false=>exact ho.elim
 have hit: ∀ {V:SV} {v:PV},y.is u=some V→RV φ V v→ValOK φ k (some (bif ok then .tup [v, .bool true]else v)):=fun h0 hv=>by
  rw[h0]at ho
  cases ok with
  |true=>exact two hv ho
  |false=>exact .mk hv ho
 cases y with
 |nil=>
  simp only[Zc2,Option.bind_some,hn,cond_true,AV.pv]
  exact miss rfl
 |i t k' n=>
  simp only[Zc2,Option.bind_some,hn,cond_true,AV.pv]
  cases hb:Nat.beq t u with
  |true=>rw[cond_true];exact hit (by simp only[AV.is,hb]) (vi k' n)
  |false=>rw[cond_false];exact miss (by simp only[AV.is,hb])
 |s t x=>
  simp only[Zc2,Option.bind_some,hn,cond_true,AV.pv]
  cases hb:Nat.beq t u with
  |true=>rw[cond_true];exact hit (by simp only[AV.is,hb]) (vs x)
  |false=>rw[cond_false];exact miss (by simp only[AV.is,hb])
theorem ZpU (hT:TysOK P T) {y:AV} {u:TypeId} {ok:Bool} {k:SV→Prop} {q:PV} (ho:Zm7 T y u ok k) (hr:RV φ (.v .any y) q):ValOK φ k (Zc2 P (some q) u ok):=by
 unfold Zm7 at ho
 split at ho
 ·rename_i k0 hk
  have hi:=hT.get hk (by simp)
  exact ZuU ((hk▸hi.k:KM P u (.int k0)).notIfc (.inl ⟨_,rfl⟩)) (hi.zi _ hk) (vi _ _) ho hr
 ·rename_i hk
  have hi:=hT.get hk (by simp)
  exact ZuU ((hk▸hi.k:KM P u .str).notIfc (.inr rfl)) (hi.zs hk) (vs []) ho hr
 ·cases ho
theorem Zrr (hT:TysOK P T) (hh:RH φ hp (fun a=>H[a]?)) (hρ:ZqF φ tm ρ) {op:Op} {k:SV→List SM→Prop} (ho:opT P h T op tm hp k):OutOK φ k (opE P h (lim P h) H ρ op):=by
 have mv: ∀x,(match evS tm x with|some V=>k V hp|none=>False)→OutOK φ k (ZbO H (ρ x)):=by
  intro x hx
  split at hx
  ·rename_i V hV
   obtain⟨q,h1,h2⟩:=hρ _ _ hV
   rw[h1]
   exact .of_val hh ⟨q,V,rfl,h2,hx⟩
  ·cases hx
 unfold opT at ho
 split at ho
 ·exact mv _ ho
 ·exact mv _ ho
 ·rename_i c a b
  split at ho
  ·rename_i t hV
   obtain⟨q,h1,h2⟩:=hρ _ _ hV
   rw[Zfw h2]at h1
   show OutOK φ k (ZbO H (ZpB ρ c a b))
   simp only[ZpB,h1,Option.bind_some]
   cases t with
   |true=>exact mv a (ho.1 rfl)
   |false=>exact mv b (ho.2 rfl)
  ·cases ho
 ·rename_i t
  split at ho
  ·cases ho
  ·rename_i hk
   have h0:=hT.get rfl (fun e=>hk e)
   obtain⟨zs,hz,hzr,hzl⟩:=h0.zero
   show OutOK φ k (ZiB H (Zmy P H.length t))
   simp only[Zmy,hz,Option.map_some]
   exact Zlq hh (hzr φ) ho
 ·rename_i x
  split at ho
  ·rename_i V hV
   obtain⟨q,h1,h2⟩:=hρ _ _ hV
   split at ho
   ·rename_i hn
    obtain⟨h3,h4⟩:=Zcn hn h2
    show OutOK φ k (ZiB H (Zyw H.length (ρ x)))
    simp only[Zyw,h1,Option.bind_some,h4,Option.map_some]
    exact Zlq hh h3 ho
   ·cases ho
  ·cases ho
 ·split at ho
  ·rename_i l hl
   obtain⟨qs,h1,h2⟩:=Zi7 hρ hl
   show OutOK φ k (ZbO H (ZjY P ρ _ _))
   simp only[ZjY,Zfs,h1,Option.bind_some]
   exact .of_val hh (Zq2 hT ho h2)
  ·cases ho
 ·rename_i t n ps
  split at ho
  ·rename_i l hl
   obtain⟨qs,h1,h2⟩:=Zi7 hρ hl
   show OutOK φ k (ZiB H (Zby P H.length ρ t n ps))
   have:=Zjg hT hh ho h2
   simp only[Zby,Zfs,h1,Option.bind_some]
   cases hm:Zbg P t n qs with
   |none=>
    rw[hm]at this
    obtain⟨_,_,_,_,_,h3,_⟩:=this
    cases h3
   |some m=>rw[hm]at this;exact this
  ·cases ho
 ·rename_i t a
  split at ho
  ·rename_i V hV
   obtain⟨q,h1,h2⟩:=hρ _ _ hV
   show OutOK φ k (ZbO H (Zjh P H t (ρ a)))
   simp only[Zjh,h1,Option.bind_some]
   exact .of_val hh (Zpb hT hh ho h2)
  ·cases ho
 ·rename_i x
  show OutOK φ k (ZbO H (ZcV (ρ x)))
  split at ho
  ·rename_i hV
   obtain⟨q,h1,h2⟩:=hρ _ _ hV
   have h2':=h2
   simp only[RV]at h2'
   obtain⟨a,_,rfl⟩:=h2'
   simp only[ZcV,h1,Option.bind_some]
   exact .of_val hh (.mk h2 ho)
  ·rename_i hV
   obtain⟨q,h1,h2⟩:=hρ _ _ hV
   have h2':=h2
   simp only[RV]at h2'
   obtain⟨a,rfl,_⟩:=h2'
   simp only[ZcV,h1,Option.bind_some]
   exact .of_val hh (.mk h2 ho)
  ·rename_i hV
   obtain⟨q,h1,h2⟩:=hρ _ _ hV
   have h2':=h2
   simp only[RV]at h2'
   obtain⟨_,_,rfl,_⟩:=h2'
   simp only[ZcV,h1,Option.bind_some]
   exact .of_val hh (.mk h2 ho)
  ·cases ho
 ·rename_i x y _
  split at ho
  ·rename_i a b ha hb
   obtain⟨q,h1,h2⟩:=hρ _ _ ha
   obtain⟨q',h1',h2'⟩:=hρ _ _ hb
   show OutOK φ k (ZbO H (Znj P _ _ y (ρ x) (ρ y)))
   obtain⟨r,V,h3,h4,h5⟩:=Zwb hT ho h2 h2'
   rw[Zql (show ZyR P _ _ (ρ x) (ρ y)=some r by simp only[ZyR,h1,h1',Option.bind_some,h3])]
   exact .of_val hh (.mk h4 h5)
  ·cases ho
 ·rename_i x
  split at ho
  ·rename_i a ha
   obtain⟨q,h1,h2⟩:=hρ _ _ ha
   show OutOK φ k (ZbO H (aUn _ (ρ x)))
   simp only[aUn,h1,Option.bind_some]
   exact .of_val hh (ZxZ ho h2)
  ·cases ho
 ·rename_i x
  split at ho
  ·rename_i a ha
   obtain⟨q,h1,h2⟩:=hρ _ _ ha
   show OutOK φ k (ZbO H (Zre P H _ _ (ρ x)))
   simp only[Zre,h1,Option.bind_some]
   exact .of_val hh (Zuv hT hh ho h2)
  ·cases ho
 ·rename_i t x
  split at ho
  ·rename_i k0 k' n hk hV
   obtain⟨q,h1,h2⟩:=hρ _ _ hV
   have hi:=hT.get hk (by simp)
   show OutOK φ k (ZbO H (ZfT P t (ρ x)))
   rw[h1,ZbZ h2]
   simp only[ZfT,Option.bind_some,(hk▸hi.k:KM P t (.int k0)).notIfc (.inl ⟨_,rfl⟩),cond_true,Zx0,Option.map_some]
   exact .of_val hh (.mk (by simp only[RV,RR];rfl) ho)
  ·rename_i s hk hV
   obtain⟨q,h1,h2⟩:=hρ _ _ hV
   have hi:=hT.get hk (by simp)
   show OutOK φ k (ZbO H (ZfT P t (ρ x)))
   rw[h1,Zes h2]
   simp only[ZfT,Option.bind_some,(hk▸hi.k:KM P t .str).notIfc (.inr rfl),cond_true,Zx0,Option.map_some]
   exact .of_val hh (.mk (by simp only[RV,RR];rfl) ho)
  ·cases ho
 ·rename_i x xt u ok
  split at ho
  ·rename_i y hV
   obtain⟨q,h1,h2⟩:=hρ _ _ hV
   show OutOK φ k (ZbO H (Zc2 P (ρ x) u ok))
   rw[h1]
   exact .of_val hh (ZpU hT ho h2)
  ·cases ho
 ·split at ho
  ·split at ho
   ·rename_i a c ha hc
    obtain⟨q,h1,h2⟩:=Zi6 hρ ha
    obtain⟨q',h1',h2'⟩:=Zi6 hρ hc
    show OutOK φ k (ZbO H (ZpI ρ _ _ _))
    simp only[ZpI,h1,h1',Option.bind_some,Option.map_some]
    refine .of_val hh (.mk ?_ ho)
    simp only[RV]
    exact⟨_,_,rfl,h2,h2'⟩
   ·cases ho
  ·cases ho
 ·exact Zlb hT hh hρ ho
 ·split at ho
  ·rename_i V hV
   obtain⟨q,h1,h2⟩:=hρ _ _ hV
   exact .of_val hh (Zs1 hT hh hρ ho h1 h2)
  ·rename_i V hV
   obtain⟨q,h1,h2⟩:=hρ _ _ hV
   exact .of_val hh (Zqj hT hh hρ ho h1 h2)
  ·cases ho
 ·rename_i x _
  split at ho
  ·rename_i V hV
   obtain⟨q,h1,h2⟩:=hρ _ _ hV
   show OutOK φ k (ZbO H (Ze4 P _ (ρ x) _))
   simp only[Ze4,h1,Option.bind_some]
   exact .of_val hh (Zki hT ho h2)
  ·cases ho
 ·rename_i x _
  split at ho
  ·rename_i V hV
   obtain⟨q,h1,h2⟩:=hρ _ _ hV
   show OutOK φ k (ZbO H (Zoj P _ (ρ x) _))
   simp only[Zoj,h1,Option.bind_some]
   exact .of_val hh (ZsH hT ho h2)
  ·cases ho
 ·rename_i x j
  split at ho
  ·rename_i V J hV hJ
   obtain⟨q,h1,h2⟩:=hρ _ _ hV
   obtain⟨q',h1',h2'⟩:=hρ _ _ hJ
   show OutOK φ k (ZbO H (Zbc P H _ (ρ x) (ρ j)))
   simp only[Zbc,h1,h1',Option.bind_some]
   exact .of_val hh (ZkH hT hh ho h2 h2')
  ·cases ho
 ·rename_i x j
  split at ho
  ·rename_i V J hV hJ
   obtain⟨q,h1,h2⟩:=hρ _ _ hV
   obtain⟨q',h1',h2'⟩:=hρ _ _ hJ
   show OutOK φ k (ZbO H (ZoH P _ (ρ x) (ρ j)))
   simp only[ZoH,h1,h1',Option.bind_some]
   exact .of_val hh (ZqI hT ho h2 h2')
  ·cases ho
 ·rename_i x i
  split at ho
  ·rename_i vs hV
   obtain⟨q,h1,h2⟩:=hρ _ _ hV
   simp only[RV]at h2
   obtain⟨qs,rfl,h2⟩:=h2
   split at ho
   ·rename_i V hn
    rw[Za5]at hn
    obtain⟨q,h3,h4⟩:=h2.get hn
    show OutOK φ k (ZbO H (Zeb (ρ x) i))
    simp only[Zeb,h1,Option.bind_some,h3]
    exact .of_val hh (.mk h4 ho)
   ·cases ho
  ·cases ho
 ·exact Zuk hT hh hρ ho
 ·rename_i t a x
  split at ho
  ·rename_i A V hA hV
   obtain⟨q,h1,h2⟩:=hρ _ _ hA
   obtain⟨q',h1',h2'⟩:=hρ _ _ hV
   show OutOK φ k (Zef P H t (ρ a) (ρ x))
   rw[h1,h1']
   exact ZrC hT hh ho h2 h2'
  ·cases ho
 ·rename_i t r
  split at ho
  ·rename_i hk
   obtain⟨kk,e,_,h1,_⟩:=hT.smap hk
   show OutOK φ k (ZiB H (ZeG P H.length t none))
   simp only[ZeG,h1,Option.map_some]
   exact ZtN hh ho
  ·cases ho
 ·rename_i t x j ok
  split at ho
  ·rename_i id s hk hV hJ
   obtain⟨kk,e,_,h1,hz⟩:=hT.smap hk
   obtain⟨q,e1,e2⟩:=hρ _ _ hV
   obtain⟨q',e1',e2'⟩:=hρ _ _ hJ
   split at ho
   ·rename_i ks hn
    obtain⟨a,es,hφ,ha,hks,rfl⟩:=hh.mp hn e2
    show OutOK φ k (ZbO H (ZiN P H t (ρ x) (ρ j) false))
    rw[e1,e1',Zes e2']
    simp only[ZiN,Option.bind_some,ZdP,h1,Am.keyOf,Zfi,cond_true,Zlt,ha,Zpq hks,hz]
    refine .of_val hh ?_
    cases hb:ZqG s ks with
    |true=>rw[hb]at ho;show ValOK φ _ (some (.bool true));exact .mk (vb true) ho
    |false=>rw[hb]at ho;show ValOK φ _ (some (.bool false));exact .mk (vb false) ho
   ·cases ho
  ·cases ho
 ·rename_i t m j x
  split at ho
  ·rename_i id s hk hV hJ hX
   obtain⟨kk,e,_,h1,hz⟩:=hT.smap hk
   obtain⟨q,e1,e2⟩:=hρ _ _ hV
   obtain⟨q',e1',e2'⟩:=hρ _ _ hJ
   obtain⟨q2,e3,e4⟩:=hρ _ _ hX
   split at ho
   ·rename_i ks hn
    obtain⟨a,es,hφ,ha,hks,rfl⟩:=hh.mp hn e2
    obtain⟨es',h5,h6⟩:=ZsB (s:=s) hks
    show OutOK φ k (Zp5 P H t (ρ m) (ρ j) (ρ x))
    have hw:Zp5 P H t (some (.map a)) (some (.str ⟨s.toArray⟩)) (some (.bool true))=some (.tup [],H.set a (.map es')):=by
     simp only[Zp5,h1,Option.bind_some,Am.keyOf,Zfi,cond_true,ha,h5,Option.map_some]
    rw[e1,e1',e3,Zes e2',Zfw e4,hw]
    rw[Za5]at hn
    have hal:a<H.length:=(List.getElem?_eq_some_iff.1 ha).1
    refine⟨_,_,φ, .tup [],_,rfl,Le.refl φ,hh.set hn rfl hφ ?_,by simp only[RV];exact⟨[],rfl,by simp only[RL]⟩,ho⟩
    simp only[RM]
    exact⟨a,es',rfl,by rw[List.getElem?_set_self hal],h6⟩
   ·cases ho
  ·cases ho
 ·cases ho
end
end Go.Tx
