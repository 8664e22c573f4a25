/-
 States over heaps of any length: what was laid last is dropped; values stay as they are.
-/
import Derived.Test.YtdnodlkdndfplaaGreatDoorR4
set_option linter.constructorNameAsVariable false
set_option linter.unusedSimpArgs false
set_option linter.unusedVariables false
namespace Go.Tx
open Go.Am
mutual
theorem ZrO {φ:Ph} {n:Nat}: ∀ (V:SV) (q:PV),(∀id∈Zhc V,id<n)→RV φ V q→RV (φ.take n) V q
 | .v _ _,_,_,h| .nilp,_,_,h| .nils,_,_,h| .nilf,_,_,h| .nili,_,_,h| .box _ _ _,_,_,h=>by simpa only[RV]using h
 | .ref id i m mm,q,hb,h=>by
  have hid:=hb id (by simp[Zhc])
  simp only[RV]at h⊢
  rw[List.getElem?_take_of_lt hid]
  exact h
 | .ptr id i r,q,hb,h=>by
  have hid:=hb id (by simp[Zhc])
  simp only[RV]at h⊢
  rw[List.getElem?_take_of_lt hid]
  exact h
 | .func f a c,q,hb,h=>by
  simp only[Zhc,List.mem_append]at hb
  simp only[RV]at h⊢
  obtain⟨a',c',h1,h2,h3⟩:=h
  exact⟨a',c',h1,RL_take a a' (fun id hi=>hb id (.inl hi)) h2,RL_take c c' (fun id hi=>hb id (.inr hi)) h3⟩
 | .agg cs,q,hb,h=>by
  simp only[Zhc]at hb
  simp only[RV]at h⊢
  obtain⟨cs',h1,h2⟩:=h
  exact⟨cs',h1,RL_take cs cs' hb h2⟩
 | .tup cs,q,hb,h=>by
  simp only[Zhc]at hb
  simp only[RV]at h⊢
  obtain⟨cs',h1,h2⟩:=h
  exact⟨cs',h1,RL_take cs cs' hb h2⟩
theorem RL_take {φ:Ph} {n:Nat}: ∀ (l:List SV) (qs:List PV),(∀id∈rchL l,id<n)→RL φ l qs→RL (φ.take n) l qs
 | [],_,_,h=>by simpa only[RL]using h
 |v::vs,qs,hb,h=>by
  simp only[rchL,List.mem_append]at hb
  simp only[RL]at h⊢
  obtain⟨q,r,h1,h2,h3⟩:=h
  exact⟨q,r,h1,ZrO v q (fun id hi=>hb id (.inl hi)) h2,RL_take vs r (fun id hi=>hb id (.inr hi)) h3⟩
end
mutual
def rnV (f:Nat→Nat):SV→SV
 | .ref id i n m=> .ref (f id) i n m
 | .ptr id i r=> .ptr (f id) i r
 | .func g a c=> .func g (rnL f a) (rnL f c)
 | .agg cs=> .agg (rnL f cs)
 | .tup vs=> .tup (rnL f vs)
 | .v t x=> .v t x
 | .nilp=> .nilp
 | .nils=> .nils
 | .nilf=> .nilf
 | .nili=> .nili
 | .box t x r=> .box t x r
def rnL (f:Nat→Nat):List SV→List SV
 | []=> []
 |v::r=>rnV f v::rnL f r
end
mutual
theorem Ztz {φ ψ:Ph} {f:Nat→Nat} {n:Nat} (h: ∀id,id<n→ψ[id]? =φ[f id]?): ∀ (V:SV) (q:PV),(∀id∈Zhc V,id<n)→RV φ (rnV f V) q→RV ψ V q
 | .v _ _,_,_,hr| .nilp,_,_,hr| .nils,_,_,hr| .nilf,_,_,hr| .nili,_,_,hr| .box _ _ _,_,_,hr=>by simpa only[rnV,RV]using hr
 | .ref id i m mm,q,hb,hr=>by
  have hid:=hb id (by simp[Zhc])
  simp only[rnV,RV]at hr⊢
  rw[h id hid]
  exact hr
 | .ptr id i r,q,hb,hr=>by
  have hid:=hb id (by simp[Zhc])
  simp only[rnV,RV]at hr⊢
  rw[h id hid]
  exact hr
 | .func g a c,q,hb,hr=>by
  simp only[Zhc,List.mem_append]at hb
  simp only[rnV,RV]at hr⊢
  obtain⟨a',c',h1,h2,h3⟩:=hr
  exact⟨a',c',h1,RL_map h a a' (fun id hi=>hb id (.inl hi)) h2,RL_map h c c' (fun id hi=>hb id (.inr hi)) h3⟩
 | .agg cs,q,hb,hr=>by
  simp only[Zhc]at hb
  simp only[rnV,RV]at hr⊢
  obtain⟨cs',h1,h2⟩:=hr
  exact⟨cs',h1,RL_map h cs cs' hb h2⟩
 | .tup cs,q,hb,hr=>by
  simp only[Zhc]at hb
  simp only[rnV,RV]at hr⊢
  obtain⟨cs',h1,h2⟩:=hr
  exact⟨cs',h1,RL_map h cs cs' hb h2⟩
theorem RL_map {φ ψ:Ph} {f:Nat→Nat} {n:Nat} (h: ∀id,id<n→ψ[id]? =φ[f id]?): ∀ (l:List SV) (qs:List PV),(∀id∈rchL l,id<n)→RL φ (rnL f l) qs→RL ψ l qs
 | [],_,_,hr=>by simpa only[rnL,RL]using hr
 |v::vs,qs,hb,hr=>by
  simp only[rchL,List.mem_append]at hb
  simp only[rnL,RL]at hr⊢
  obtain⟨q,r,h1,h2,h3⟩:=hr
  exact⟨q,r,h1,Ztz h v q (fun id hi=>hb id (.inl hi)) h2,RL_map h vs r (fun id hi=>hb id (.inr hi)) h3⟩
end
end Go.Tx
/-
 Rows of own rows: a matrix behind the first rows of a heap; operations whose place is known by an equation; regions with light operations, one at a time.
-/
namespace Go.Tx
open Go.Am
section
variable {P : Program} {h : Hints} {T : TypeId → TI} {hp : List SM} {tm : TM}
def Zpm:TK→Bool
 | .other=>true
 |_=>false
theorem ZkP {t:TypeId} {id i r:Nat} {x:SV} {cs:List SV} {k:SV→List SM→Prop} (hn:nth hp id=some (.cell cs true)) (h1:(Zbc x&&Nat.beq (Za2 x).length (T t).sz)=true) (h2:Nat.ble (r+(T t).sz) cs.length=true) (h3:Zpm (T t).k=false) (hi:i=0) (hk:k (.tup []) (hp.set id (.cell (spl cs r (Za2 x)) true))):Zka T t hp (.ptr id i r) x k:=by
 simp only[Zka,h1,hn]
 refine⟨hi, ?_⟩
 rw[h2]
 split
 ·rename_i h4;rw[h4]at h3;cases h3
 ·exact hk
 ·rename_i h4;exact(h4 rfl).elim
theorem ZgL {op:Op} {t:TypeId} {id i r:Nat} {x:SV} {cs:List SV} {k:SV→List SM→Prop} {a b:Operand} (ho:op= .store t a b) (ha:evS tm a=some (.ptr id i r)) (hb:evS tm b=some x) (hn:nth hp id=some (.cell cs true)) (h1:(Zbc x&&Nat.beq (Za2 x).length (T t).sz)=true) (h2:Nat.ble (r+(T t).sz) cs.length=true) (h3:Zpm (T t).k=false) (hi:i=0) (hk:k (.tup []) (hp.set id (.cell (spl cs r (Za2 x)) true))):opT P h T op tm hp k:=by
 simp only[ho,opT,ha,hb]
 exact ZkP hn h1 h2 h3 hi hk
variable {F N : Nat} {ls : List Nat} {o : Oper} {l : List Oper} {i dd : Nat} {ks : List (Nat × Nat × Bool)} {kk : TM → List SM → Prop} {V : SV}
theorem ZiL {c:TM→Prop} {dst:Option Tmp} (ho:dst=none) (hk:c tm):ZdX N dst V tm c:=by
 simp only[ZdX,ho]
 exact hk
variable {op : Op} {dst : Option Tmp} {c : TM → List SM → Prop}
mutual
theorem Zs9 {f:Nat→Nat} {p:Nat} (hf: ∀j,j<p→f j=j): ∀V:SV,(∀id∈Zhc V,id<p)→rnV f V=V
 | .ref id i n m,hb=>by rw[rnV,hf id (hb id (by simp[Zhc]))]
 | .ptr id i r,hb=>by rw[rnV,hf id (hb id (by simp[Zhc]))]
 | .func g a c,hb=>by
  simp only[Zhc,List.mem_append]at hb
  rw[rnV,rnL_id hf a (fun id hi=>hb id (.inl hi)),rnL_id hf c (fun id hi=>hb id (.inr hi))]
 | .agg cs,hb=>by rw[rnV,rnL_id hf cs (by simpa only[Zhc]using hb)]
 | .tup cs,hb=>by rw[rnV,rnL_id hf cs (by simpa only[Zhc]using hb)]
 | .v _ _,_| .nilp,_| .nils,_| .nilf,_| .nili,_| .box _ _ _,_=>rfl
theorem rnL_id {f:Nat→Nat} {p:Nat} (hf: ∀j,j<p→f j=j): ∀l:List SV,(∀id∈rchL l,id<p)→rnL f l=l
 | [],_=>rfl
 |V::r,hb=>by
  simp only[rchL,List.mem_append]at hb
  rw[rnL,Zs9 hf V (fun id hi=>hb id (.inl hi)),rnL_id hf r (fun id hi=>hb id (.inr hi))]
end
def Zug (tm:TM):TM→Prop
 | []=>True
 |(i,V')::r=>ZdB i tm=some V'∧Zug tm r
theorem Zlr {tm:TM}: ∀ {tm':TM} {i:Nat} {V:SV},Zug tm tm'→ZdB i tm'=some V→ZdB i tm=some V
 | [],_,_,_,h=>by cases h
 |(j,W)::r,i,V,hs,h=>by
  simp only[ZdB]at h
  cases hb:Nat.beq i j with
  |true=>rw[hb]at h;cases h;rw[Nat.eq_of_beq_eq_true hb];exact hs.1
  |false=>rw[hb]at h;exact Zlr hs.2 h
theorem Zl9 {F:Nat} {tm tm':TM} (htm:Zug tm tm'):Ent F tm hp tm' hp:=
 ⟨fun φ st _ hs=>⟨φ,Fr.refl F φ,fun i V hi=>hs.tm i V (Zlr htm hi),hs.hp⟩⟩
theorem Ent.trans {F:Nat} {tm tm1 tm2:TM} {hp hp1 hp2:List SM} (h1:Ent F tm hp tm1 hp1) (h2:Ent F tm1 hp1 tm2 hp2):Ent F tm hp tm2 hp2:=by
 refine⟨fun φ st hF hs=> ?_⟩
 obtain⟨φ1,g1,g2⟩:=h1.out φ st hF hs
 obtain⟨φ2,g3,g4⟩:=h2.out φ1 st (by
  cases F with
  |zero=>exact Nat.zero_le _
  |succ n=>
   have e:=g1 n (Nat.lt_succ_self n)
   rw[List.getElem?_eq_getElem (show n<φ.length from hF)]at e
   exact(List.getElem?_eq_some_iff.1 e).1) g2
 exact⟨φ2,g1.trans g3,g4⟩
structure CodeOK (P:Program) (h:Hints) (F:Nat) (c:Cx) (b:Code) (tm:TM) (hp:List SM) (k:Ex→TM→List SM→Prop):Prop where
 out: ∀φ st,F≤φ.length→SRep φ tm hp st→ ∃e st' φ' tm' hp',exS P h (lim P h) c b st=some (e,st')∧Fr F φ φ'∧SRep φ' tm' hp' st'∧k e tm' hp'
theorem CodeOK.ent {c:Cx} {b:Code} {k:Ex→TM→List SM→Prop} {tm':TM} {hp':List SM} (hl:CodeOK P h F c b tm' hp' k) (he:Ent F tm hp tm' hp'):CodeOK P h F c b tm hp k:=
 ⟨fun φ st hF hs=>by
  obtain⟨φ1,h1,h2⟩:=he.out φ st hF hs
  obtain⟨e,st',φ',tm',hp',f1,f2,f3,f4⟩:=hl.out φ1 st (h1.len hF) h2
  exact⟨e,st',φ',tm',hp',f1,h1.trans f2,f3,f4⟩⟩
end
end Go.Tx
/-
 simplexFact: run by the kernel.
-/
namespace Go.Proofs.YtdnodlkdndfplaaGreatDoor
open Go.Am Go.Tx
set_option maxRecDepth 1000000 in
theorem ZgG:Zqu ((Zch Tryz.prog Zau 400).rn 29 [] [])=true:=by decide+kernel
theorem ZiP:PureOK Tryz.prog Zau 29 [] (fun V=>V= .v .b true):=by
 refine⟨fun qs hr=> ?_⟩
 simp only[RL]at hr
 subst hr
 have h:=ZgG
 cases hx:(Zch Tryz.prog Zau 400).rn 29 [] []with
 |none=>rw[hx]at h;cases h
 |some x=>
  obtain⟨v,H⟩:=x
  rw[hx]at h
  have hv:v= .bool true:=by
   cases v<;>first|(cases h;done)|skip
   rename_i b
   cases b<;>first|rfl|cases h
  subst hv
  have hl:=Zs1 hx
  refine⟨.bool true, .v .b true, ?_,by simp only[RV,RR],rfl⟩
  show((lim Tryz.prog Zau).rn 29 [] []).bind _=_
  rw[hl]
  rfl
end Go.Proofs.YtdnodlkdndfplaaGreatDoor
