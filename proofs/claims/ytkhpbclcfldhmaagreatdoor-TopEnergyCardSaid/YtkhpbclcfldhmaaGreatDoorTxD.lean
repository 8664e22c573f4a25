/-
 States over heaps of any length: what was laid last is dropped; values stay as they are.
-/
import Derived.Test.YtkhpbclcfldhmaaGreatDoorGp
set_option linter.constructorNameAsVariable false
set_option linter.unusedSimpArgs false
set_option linter.unusedVariables false
namespace Go.Tx
open Go.Am
mutual
theorem Znk {φ:Ph} {n:Nat}: ∀ (V:SV) (q:PV),(∀id∈ZdN V,id<n)→RV φ V q→RV (φ.take n) V q
 | .v _ _,_,_,h| .nilp,_,_,h| .nils,_,_,h| .nilf,_,_,h| .nili,_,_,h| .nilmp,_,_,h| .box _ _ _,_,_,h=>by simpa only[RV]using h
 | .ref id i m mm,q,hb,h=>by
  have hid:=hb id (by simp[ZdN])
  simp only[RV]at h⊢
  rw[List.getElem?_take_of_lt hid]
  exact h
 | .ptr id i r,q,hb,h=>by
  have hid:=hb id (by simp[ZdN])
  simp only[RV]at h⊢
  rw[List.getElem?_take_of_lt hid]
  exact h
 | .func f a c,q,hb,h=>by
  simp only[ZdN,List.mem_append]at hb
  simp only[RV]at h⊢
  obtain⟨a',c',h1,h2,h3⟩:=h
  exact⟨a',c',h1,RL_take a a' (fun id hi=>hb id (.inl hi)) h2,RL_take c c' (fun id hi=>hb id (.inr hi)) h3⟩
 | .agg cs,q,hb,h=>by
  simp only[ZdN]at hb
  simp only[RV]at h⊢
  obtain⟨cs',h1,h2⟩:=h
  exact⟨cs',h1,RL_take cs cs' hb h2⟩
 | .tup cs,q,hb,h=>by
  simp only[ZdN]at hb
  simp only[RV]at h⊢
  obtain⟨cs',h1,h2⟩:=h
  exact⟨cs',h1,RL_take cs cs' hb h2⟩
 | .mp id,q,hb,h=>by
  have hid:=hb id (by simp[ZdN])
  simp only[RV]at h⊢
  rw[List.getElem?_take_of_lt hid]
  exact h
theorem RL_take {φ:Ph} {n:Nat}: ∀ (l:List SV) (qs:List PV),(∀id∈rchL l,id<n)→RL φ l qs→RL (φ.take n) l qs
 | [],_,_,h=>by simpa only[RL]using h
 |v::vs,qs,hb,h=>by
  simp only[rchL,List.mem_append]at hb
  simp only[RL]at h⊢
  obtain⟨q,r,h1,h2,h3⟩:=h
  exact⟨q,r,h1,Znk v q (fun id hi=>hb id (.inl hi)) h2,RL_take vs r (fun id hi=>hb id (.inr hi)) h3⟩
end
def Zlf:SM→List Nat
 | .cell cs _=>rchL cs
 | .many _ els _=>rchL els
 |_=> []
theorem ZlK {φ:Ph} {n:Nat}: ∀ {els:List SV} {es:List (List PV)},(∀id∈rchL els,id<n)→All2 (fun V c=> ∃q,c=[q]∧RV φ V q) els es→All2 (fun V c=> ∃q,c=[q]∧RV (φ.take n) V q) els es
 | [],[],_,_=>trivial
 |V::els,c::es,hb,h=>by
  simp only[rchL,List.mem_append]at hb
  obtain⟨⟨q,h1,h2⟩,h3⟩:=h
  exact⟨⟨q,h1,Znk V q (fun id hi=>hb id (.inl hi)) h2⟩,ZlK (fun id hi=>hb id (.inr hi)) h3⟩
theorem ZvG {φ:Ph} {n:Nat} {L:Nat→Option Mem} {o:Option Nat} {sm:SM} (hb: ∀id∈Zlf sm,id<n) (h:RM φ L o sm):RM (φ.take n) L o sm:=by
 cases sm with
 |row t l m=>simpa only[RM]using h
 |cell cs m=>
  simp only[RM]at h⊢
  obtain⟨a,cs',m',h1,h2,h3,h4⟩:=h
  exact⟨a,cs',m',h1,h2,RL_take cs cs' hb h3,h4⟩
 |many ct els m=>
  simp only[RM]at h⊢
  cases o with
  |none=>exact h
  |some a=>
   obtain⟨es,m',h1,h2,h3⟩:=h
   exact⟨es,m',h1,ZlK hb h2,h3⟩
 |set ks=>simpa only[RM]using h
 |dead=>trivial
def Zzh (n:Nat) (tm:TM):TM→Prop
 | []=>True
 |(i,V')::r=>ZcR i tm=some V'∧(∀id∈ZdN V',id<n)∧Zzh n tm r
theorem Zob {n:Nat} {tm:TM}: ∀ {tm':TM} {i:Nat} {V:SV},Zzh n tm tm'→ZcR i tm'=some V→ZcR i tm=some V∧ ∀id∈ZdN V,id<n
 | [],_,_,_,h=>by cases h
 |(j,W)::r,i,V,hs,h=>by
  obtain⟨h1,h2,h3⟩:=hs
  simp only[ZcR]at h
  cases hb:Nat.beq i j with
  |true=>
   rw[hb]at h
   cases h
   rw[Nat.eq_of_beq_eq_true hb]
   exact⟨h1,h2⟩
  |false=>
   rw[hb]at h
   exact Zob h3 h
theorem ZeQ {F:Nat} {tm tm':TM} {hp0 ex:List SM} (hF:F≤hp0.length) (htm:Zzh hp0.length tm tm') (hrow: ∀m∈hp0,∀id∈Zlf m,id<hp0.length):Ent F tm (hp0++ex) tm' hp0:=by
 refine⟨fun φ st _ hs=> ?_⟩
 have hlen:=hs.hp.len
 rw[List.length_append]at hlen
 refine⟨φ.take hp0.length,fun id hid=>by rw[List.getElem?_take_of_lt (by omega)], ?_, ?_⟩
 ·intro i V hi
  obtain⟨h1,h2⟩:=Zob htm hi
  obtain⟨q,h3,h4⟩:=hs.tm i V h1
  exact⟨q,h3,Znk V q h2 h4⟩
 ·refine⟨by rw[List.length_take];omega, ?_, ?_⟩
  ·intro id sm o hsm ho
   have hid:=(List.getElem?_eq_some_iff.1 hsm).1
   rw[List.getElem?_take_of_lt hid]at ho
   have hm:=hs.hp.row id sm o (by rw[List.getElem?_append_left hid];exact hsm) ho
   exact ZvG (hrow sm (List.mem_of_getElem? hsm)) hm
  ·intro id id' sm sm' a hne h1 h2 h3 h4 h5 h6
   have hid:=(List.getElem?_eq_some_iff.1 h1).1
   have hid':=(List.getElem?_eq_some_iff.1 h2).1
   rw[List.getElem?_take_of_lt hid]at h5
   rw[List.getElem?_take_of_lt hid']at h6
   exact hs.hp.inj id id' sm sm' a hne (by rw[List.getElem?_append_left hid];exact h1) (by rw[List.getElem?_append_left hid'];exact h2) h3 h4 h5 h6
theorem Ent.eqs {F:Nat} {tm tm':TM} {hp hp0 hp':List SM} (e1:hp=hp0) (h:Ent F tm hp0 tm' hp'):Ent F tm hp tm' hp':=e1▸h
mutual
def rnV (f:Nat→Nat):SV→SV
 | .ref id i n m=> .ref (f id) i n m
 | .ptr id i r=> .ptr (f id) i r
 | .func g a c=> .func g (rnL f a) (rnL f c)
 | .agg cs=> .agg (rnL f cs)
 | .tup vs=> .tup (rnL f vs)
 | .v t x=> .v t x
 | .nilp=> .nilp
 | .nils=> .nils
 | .nilf=> .nilf
 | .nili=> .nili
 | .nilmp=> .nilmp
 | .box t x r=> .box t x r
 | .mp id=> .mp (f id)
def rnL (f:Nat→Nat):List SV→List SV
 | []=> []
 |v::r=>rnV f v::rnL f r
end
def rnM (f:Nat→Nat):SM→SM
 | .row t l m=> .row t l m
 | .cell cs m=> .cell (rnL f cs) m
 | .many ct els m=> .many ct (rnL f els) m
 | .set ks=> .set ks
 | .dead=> .dead
mutual
theorem ZrV {φ ψ:Ph} {f:Nat→Nat} {n:Nat} (h: ∀id,id<n→ψ[id]? =φ[f id]?): ∀ (V:SV) (q:PV),(∀id∈ZdN V,id<n)→RV φ (rnV f V) q→RV ψ V q
 | .v _ _,_,_,hr| .nilp,_,_,hr| .nils,_,_,hr| .nilf,_,_,hr| .nili,_,_,hr| .nilmp,_,_,hr| .box _ _ _,_,_,hr=>by simpa only[rnV,RV]using hr
 | .ref id i m mm,q,hb,hr=>by
  have hid:=hb id (by simp[ZdN])
  simp only[rnV,RV]at hr⊢
  rw[h id hid]
  exact hr
 | .ptr id i r,q,hb,hr=>by
  have hid:=hb id (by simp[ZdN])
  simp only[rnV,RV]at hr⊢
  rw[h id hid]
  exact hr
 | .func g a c,q,hb,hr=>by
  simp only[ZdN,List.mem_append]at hb
  simp only[rnV,RV]at hr⊢
  obtain⟨a',c',h1,h2,h3⟩:=hr
  exact⟨a',c',h1,RL_map h a a' (fun id hi=>hb id (.inl hi)) h2,RL_map h c c' (fun id hi=>hb id (.inr hi)) h3⟩
 | .agg cs,q,hb,hr=>by
  simp only[ZdN]at hb
  simp only[rnV,RV]at hr⊢
  obtain⟨cs',h1,h2⟩:=hr
  exact⟨cs',h1,RL_map h cs cs' hb h2⟩
 | .tup cs,q,hb,hr=>by
  simp only[ZdN]at hb
  simp only[rnV,RV]at hr⊢
  obtain⟨cs',h1,h2⟩:=hr
  exact⟨cs',h1,RL_map h cs cs' hb h2⟩
 | .mp id,q,hb,hr=>by
  have hid:=hb id (by simp[ZdN])
  simp only[rnV,RV]at hr⊢
  rw[h id hid]
  exact hr
theorem RL_map {φ ψ:Ph} {f:Nat→Nat} {n:Nat} (h: ∀id,id<n→ψ[id]? =φ[f id]?): ∀ (l:List SV) (qs:List PV),(∀id∈rchL l,id<n)→RL φ (rnL f l) qs→RL ψ l qs
 | [],_,_,hr=>by simpa only[rnL,RL]using hr
 |v::vs,qs,hb,hr=>by
  simp only[rchL,List.mem_append]at hb
  simp only[rnL,RL]at hr⊢
  obtain⟨q,r,h1,h2,h3⟩:=hr
  exact⟨q,r,h1,ZrV h v q (fun id hi=>hb id (.inl hi)) h2,RL_map h vs r (fun id hi=>hb id (.inr hi)) h3⟩
end
theorem Zor {φ ψ:Ph} {f:Nat→Nat} {n:Nat} (h: ∀id,id<n→ψ[id]? =φ[f id]?): ∀ {els:List SV} {es:List (List PV)},(∀id∈rchL els,id<n)→All2 (fun V c=> ∃q,c=[q]∧RV φ V q) (rnL f els) es→All2 (fun V c=> ∃q,c=[q]∧RV ψ V q) els es
 | [],[],_,_=>trivial
 | [],_::_,_,hr=>hr.elim
 |V::els,c::es,hb,hr=>by
  simp only[rchL,List.mem_append]at hb
  obtain⟨⟨q,h1,h2⟩,h3⟩:=hr
  exact⟨⟨q,h1,ZrV h V q (fun id hi=>hb id (.inl hi)) h2⟩,Zor h (fun id hi=>hb id (.inr hi)) h3⟩
theorem ZxU {φ ψ:Ph} {f:Nat→Nat} {n:Nat} (h: ∀id,id<n→ψ[id]? =φ[f id]?) {L:Nat→Option Mem} {o:Option Nat} {sm:SM} (hb: ∀id∈Zlf sm,id<n) (hr:RM φ L o (rnM f sm)):RM ψ L o sm:=by
 cases sm with
 |row t l m=>simpa only[rnM,RM]using hr
 |cell cs m=>
  simp only[rnM,RM]at hr⊢
  obtain⟨a,cs',m',h1,h2,h3,h4⟩:=hr
  exact⟨a,cs',m',h1,h2,RL_map h cs cs' hb h3,h4⟩
 |many ct els m=>
  simp only[rnM,RM]at hr⊢
  cases o with
  |none=>
   simp only at hr⊢
   cases els with
   |nil=>rfl
   |cons v r=>simp[rnL]at hr
  |some a=>
   obtain⟨es,m',h1,h2,h3⟩:=hr
   exact⟨es,m',h1,Zor h hb h2,h3⟩
 |set ks=>simpa only[rnM,RM]using hr
 |dead=>trivial
def Zym (f:Nat→Nat) (n:Nat) (tm:TM):TM→Prop
 | []=>True
 |(i,V')::r=>ZcR i tm=some (rnV f V')∧(∀id∈ZdN V',id<n)∧Zym f n tm r
theorem ZpA {f:Nat→Nat} {n:Nat} {tm:TM}: ∀ {tm':TM} {i:Nat} {V:SV},Zym f n tm tm'→ZcR i tm'=some V→ZcR i tm=some (rnV f V)∧ ∀id∈ZdN V,id<n
 | [],_,_,_,h=>by cases h
 |(j,W)::r,i,V,hs,h=>by
  obtain⟨h1,h2,h3⟩:=hs
  simp only[ZcR]at h
  cases hb:Nat.beq i j with
  |true=>
   rw[hb]at h
   cases h
   rw[Nat.eq_of_beq_eq_true hb]
   exact⟨h1,h2⟩
  |false=>
   rw[hb]at h
   exact ZpA h3 h
theorem ZrG {F:Nat} {tm tm':TM} {hp hp':List SM} (f:Nat→Nat) (hF:F≤hp'.length) (hFf: ∀j,j<F→f j=j) (hf: ∀j,j<hp'.length→f j<hp.length)
 (hinj: ∀i j,i<hp'.length→j<hp'.length→f i=f j→i=j) (htm:Zym f hp'.length tm tm')
 (hrow: ∀j m,hp'[j]? =some m→m= .dead∨(hp[f j]? =some (rnM f m)∧ ∀id∈Zlf m,id<hp'.length)):Ent F tm hp tm' hp':=by
 refine⟨fun φ st hFφ hs=> ?_⟩
 have hlen:=hs.hp.len
 let ψ:Ph:=(List.range hp'.length).map fun j=>(φ[f j]?).getD none
 have hψ: ∀id,id<hp'.length→ψ[id]? =φ[f id]? :=by
  intro id hid
  have h1:ψ[id]? =some ((φ[f id]?).getD none):=by
   simp only[ψ,List.getElem?_map,List.getElem?_range hid,Option.map_some]
  have h2:f id<φ.length:=by rw[hlen];exact hf id hid
  rw[h1,List.getElem?_eq_getElem h2]
  rfl
 refine⟨ψ,fun id hid=>by rw[hψ id (Nat.lt_of_lt_of_le hid hF),hFf id hid], ?_, ?_⟩
 ·intro i V hi
  obtain⟨h1,h2⟩:=ZpA htm hi
  obtain⟨q,h3,h4⟩:=hs.tm i _ h1
  exact⟨q,h3,ZrV hψ V q h2 h4⟩
 ·refine⟨by simp[ψ], ?_, ?_⟩
  ·intro id sm o hsm ho
   have hid:=(List.getElem?_eq_some_iff.1 hsm).1
   rw[hψ id hid]at ho
   rcases hrow id sm hsm with rfl|⟨h1,h2⟩
   ·trivial
   ·exact ZxU hψ h2 (hs.hp.row _ _ _ h1 ho)
  ·intro id id' sm sm' a hne h1 h2 h3 h4 h5 h6
   have hid:=(List.getElem?_eq_some_iff.1 h1).1
   have hid':=(List.getElem?_eq_some_iff.1 h2).1
   rw[hψ id hid]at h5
   rw[hψ id' hid']at h6
   have lv: ∀m:SM,live m=true→live (rnM f m)=true:=fun m hm=>by cases m<;>first|rfl|cases hm
   rcases hrow id sm h1 with rfl|⟨g1,_⟩
   ·cases h3
   ·rcases hrow id' sm' h2 with rfl|⟨g2,_⟩
    ·cases h4
    ·exact hs.hp.inj _ _ _ _ a (fun e=>hne (hinj _ _ hid hid' e)) g1 g2 (lv _ h3) (lv _ h4) h5 h6
end Go.Tx
