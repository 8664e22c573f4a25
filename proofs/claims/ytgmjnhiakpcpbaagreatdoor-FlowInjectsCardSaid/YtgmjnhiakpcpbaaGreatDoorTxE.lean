/-
 Rows of own rows: a matrix behind the first rows of a heap; operations whose place is known by an equation; regions with light operations, one at a time.
-/
import Derived.Test.YtgmjnhiakpcpbaaGreatDoorTxD
set_option linter.constructorNameAsVariable false
set_option linter.unusedSimpArgs false
set_option linter.unusedVariables false
namespace Go.Tx
open Go.Am
section
variable {P : Program} {h : Hints} {T : TypeId → TI} {hp : List SM} {tm : TM}
theorem Zec: ∀e:CT,ceq e e=true
 | .i k=>by cases k<;>rfl
 | .b=>rfl
 | .s=>rfl
 | .any=>rfl
 | .l e=>Zec e
 | .p a b=>by simp only[ceq,Zec a,Zec b,Bool.and_true]
def ZeI:TK→Bool
 | .other=>true
 |_=>false
theorem Zla {t:TypeId} {id i r:Nat} {x:SV} {cs:List SV} {k:SV→List SM→Prop} (hn:nth hp id=some (.cell cs true)) (h1:(ZdI x&&Nat.beq (Za7 x).length (T t).sz)=true) (h2:Nat.ble (r+(T t).sz) cs.length=true) (h3:ZeI (T t).k=false) (hi:i=0) (hk:k (.tup []) (hp.set id (.cell (spl cs r (Za7 x)) true))):Zg4 T t hp (.ptr id i r) x k:=by
 simp only[Zg4,h1,hn]
 refine⟨hi, ?_⟩
 rw[h2]
 split
 ·rename_i h4;rw[h4]at h3;cases h3
 ·exact hk
 ·rename_i h4;exact(h4 rfl).elim
theorem ZnB {t:TypeId} {id i r:Nat} {cs:List SV} {V:SV} {m:Bool} {k:SV→Prop} (hn:nth hp id=some (.cell cs m)) (h1:ZfC (T t) cs r=some V) (hi:i=0) (hk:k V):ZkH T t hp (.ptr id i r) k:=by
 simp only[ZkH,hn]
 exact⟨hi,by rw[h1];exact hk⟩
theorem Zp2 {t:TypeId} {id i r:Nat} {ct:CT} {l:List ct.D} {x:ct.D} {V:SV} {m:Bool} {k:SV→Prop} (hn:nth hp id=some (.row ct l m)) (hx:l[i]? =some x) (h1:ZfC (T t) (Zcq ct x) r=some V) (hk:k V):ZkH T t hp (.ptr id i r) k:=by
 simp only[ZkH,hn]
 exact⟨x,hx,by rw[h1];exact hk⟩
theorem ZnZ {t:TypeId} {id i r:Nat} {x:SV} {ct:CT} {l:List ct.D} {y z:ct.D} {k:SV→List SM→Prop} (hn:nth hp id=some (.row ct l true)) (h1:(ZdI x&&Nat.beq (Za7 x).length (T t).sz)=true) (hy:l[i]? =some y) (h2:Nat.ble (r+(T t).sz) ct.w=true) (h3:ZeI (T t).k=false) (h4:ZbI ct (spl (Zcq ct y) r (Za7 x))=some z) (hk:k (.tup []) (hp.set id (.row ct (l.set i z) true))):Zg4 T t hp (.ptr id i r) x k:=by
 simp only[Zg4,h1,hn]
 refine⟨y,hy, ?_⟩
 rw[h2,h4]
 generalize(T t).k=kk at*
 cases kk<;>first|(cases h3;done)|exact hk
theorem Zsc {z id i n:Nat} {m:Option Nat} {j:Int} {ct:CT} {l:List ct.D} {b:Bool} {k:SV→Prop} (hn:nth hp id=some (.row ct l b)) (hz:Nat.beq ct.w z=true) (hj:0≤j∧j<n) (hk:k (.ptr id (i+j.toNat) 0)):ixT z hp (.ref id i n m) j k:=by
 simp only[ixT,hn]
 rw[hz]
 exact⟨hj,hk⟩
theorem Zqj {ct:CT} {id i n:Nat} {m:Option Nat} {l:List ct.D} {b:Bool} {k:List ct.D→Prop} (hn:nth hp id=some (.row ct l b)) (hl:i+n≤l.length) (hk:k (sub l i n)):ZoY ct hp (.ref id i n m) k:=by
 simp only[ZoY,hn]
 rw[dif_pos (Zec ct)]
 exact⟨hl,hk⟩
theorem Zmj {ct:CT} {by_ id i n:Nat} {l:List ct.D} {x:ct.D} {r:List ct.D} {k:SV→List SM→Prop} (hn:nth hp id=some (.row ct l true)) (hl:i+n≤l.length) (hz:(n+(r.length+1))*by_≤140737488355328) (hk:k (.ref hp.length 0 (n+(r.length+1)) none) (hp.set id .dead++ [.row ct (sub l i n++x::r) true])):Zrq ct by_ hp (.ref id i n none) (x::r) k:=by
 simp only[Zrq,hn]
 rw[dif_pos (Zec ct)]
 exact⟨hl,hz,hk⟩
theorem ZaM {op:Op} {t:TypeId} {id i r:Nat} {x:SV} {cs:List SV} {k:SV→List SM→Prop} {a b:Operand} (ho:op= .store t a b) (ha:evS tm a=some (.ptr id i r)) (hb:evS tm b=some x) (hn:nth hp id=some (.cell cs true)) (h1:(ZdI x&&Nat.beq (Za7 x).length (T t).sz)=true) (h2:Nat.ble (r+(T t).sz) cs.length=true) (h3:ZeI (T t).k=false) (hi:i=0) (hk:k (.tup []) (hp.set id (.cell (spl cs r (Za7 x)) true))):opT P h T op tm hp k:=by
 simp only[ho,opT,ha,hb]
 exact Zla hn h1 h2 h3 hi hk
theorem Zbp {op:Op} {t:TypeId} {id i r:Nat} {cs:List SV} {V:SV} {m:Bool} {k:SV→List SM→Prop} {a:Operand} (ho:op= .load t a) (ha:evS tm a=some (.ptr id i r)) (hn:nth hp id=some (.cell cs m)) (h1:ZfC (T t) cs r=some V) (hi:i=0) (hk:k V hp):opT P h T op tm hp k:=by
 simp only[ho,opT,ha]
 exact ZnB hn h1 hi hk
theorem Zb7 {op:Op} {t:TypeId} {id i r:Nat} {ct:CT} {l:List ct.D} {x:ct.D} {V:SV} {m:Bool} {k:SV→List SM→Prop} {a:Operand} (ho:op= .load t a) (ha:evS tm a=some (.ptr id i r)) (hn:nth hp id=some (.row ct l m)) (hx:l[i]? =some x) (h1:ZfC (T t) (Zcq ct x) r=some V) (hk:k V hp):opT P h T op tm hp k:=by
 simp only[ho,opT,ha]
 exact Zp2 hn hx h1 hk
theorem ZgD {op:Op} {t:TypeId} {id i r:Nat} {x:SV} {ct:CT} {l:List ct.D} {y z:ct.D} {k:SV→List SM→Prop} {a b:Operand} (ho:op= .store t a b) (ha:evS tm a=some (.ptr id i r)) (hb:evS tm b=some x) (hn:nth hp id=some (.row ct l true)) (h1:(ZdI x&&Nat.beq (Za7 x).length (T t).sz)=true) (hy:l[i]? =some y) (h2:Nat.ble (r+(T t).sz) ct.w=true) (h3:ZeI (T t).k=false) (h4:ZbI ct (spl (Zcq ct y) r (Za7 x))=some z) (hk:k (.tup []) (hp.set id (.row ct (l.set i z) true))):opT P h T op tm hp k:=by
 simp only[ho,opT,ha,hb]
 exact ZnZ hn h1 hy h2 h3 h4 hk
variable {F N : Nat} {ls : List Nat} {o : Oper} {l : List Oper} {i dd : Nat} {ks : List (Nat × Nat × Bool)} {kk : TM → List SM → Prop} {V : SV}
theorem ZaI {c:TM→Prop} {dst:Option Tmp} (ho:dst=none) (hk:c tm):Zes N dst V tm c:=by
 simp only[Zes,ho]
 exact hk
variable {op : Op} {dst : Option Tmp} {c : TM → List SM → Prop}
def Zqm (p:Nat):List Nat→Bool
 | []=>true
 |i::r=>Nat.ble (i+1) p&&Zqm p r
theorem Zhe {p id:Nat}: ∀ {l:List Nat},Zqm p l=true→id∈l→id<p
 |i::r,h,hm=>by
  simp only[Zqm,Bool.and_eq_true]at h
  rcases List.mem_cons.1 hm with rfl|hm
  ·exact Nat.le_of_ble_eq_true h.1
  ·exact Zhe h.2 hm
def Zu4 (p:Nat) (tm:TM):TM→Prop
 | []=>True
 |(i,V')::r=>Zcp i tm=some V'∧Zqm p (ZcZ V')=true∧Zu4 p tm r
mutual
theorem ZrJ {f:Nat→Nat} {p:Nat} (hf: ∀j,j<p→f j=j): ∀V:SV,(∀id∈ZcZ V,id<p)→rnV f V=V
 | .ref id i n m,hb=>by rw[rnV,hf id (hb id (by simp[ZcZ]))]
 | .ptr id i r,hb=>by rw[rnV,hf id (hb id (by simp[ZcZ]))]
 | .func g a c,hb=>by
  simp only[ZcZ,List.mem_append]at hb
  rw[rnV,rnL_id hf a (fun id hi=>hb id (.inl hi)),rnL_id hf c (fun id hi=>hb id (.inr hi))]
 | .agg cs,hb=>by rw[rnV,rnL_id hf cs (by simpa only[ZcZ]using hb)]
 | .tup cs,hb=>by rw[rnV,rnL_id hf cs (by simpa only[ZcZ]using hb)]
 | .v _ _,_| .nilp,_| .nils,_| .nilf,_| .nili,_| .nilmp,_| .box _ _ _,_=>rfl
 | .mp id,hb=>by rw[rnV,hf id (hb id (by simp[ZcZ]))]
theorem rnL_id {f:Nat→Nat} {p:Nat} (hf: ∀j,j<p→f j=j): ∀l:List SV,(∀id∈rchL l,id<p)→rnL f l=l
 | [],_=>rfl
 |V::r,hb=>by
  simp only[rchL,List.mem_append]at hb
  rw[rnL,ZrJ hf V (fun id hi=>hb id (.inl hi)),rnL_id hf r (fun id hi=>hb id (.inr hi))]
end
theorem ZrE {f:Nat→Nat} {p:Nat} (hf: ∀j,j<p→f j=j) (m:SM) (hb: ∀id∈ZgJ m,id<p):rnM f m=m:=by
 cases m with
 |row t l b=>rfl
 |cell cs b=>rw[rnM,rnL_id hf cs (by simpa only[ZgJ]using hb)]
 |many ct els b=>rw[rnM,rnL_id hf els (by simpa only[ZgJ]using hb)]
 |set ks=>rfl
 |dead=>rfl
theorem ZkU {f:Nat→Nat} {p n:Nat} (hf: ∀j,j<p→f j=j) (hn:p≤n) {tm:TM}: ∀ {tm':TM},Zu4 p tm tm'→ZrW f n tm tm'
 | [],_=>trivial
 |(i,V')::r,⟨h1,h2,h3⟩=>⟨by rw[ZrJ hf V' fun id hi=>Zhe h2 hi];exact h1,fun id hi=>Nat.lt_of_lt_of_le (Zhe h2 hi) hn,ZkU hf hn h3⟩
def Zu7 (tm:TM):TM→Prop
 | []=>True
 |(i,V')::r=>Zcp i tm=some V'∧Zu7 tm r
theorem ZmI {tm:TM}: ∀ {tm':TM} {i:Nat} {V:SV},Zu7 tm tm'→Zcp i tm'=some V→Zcp i tm=some V
 | [],_,_,_,h=>by cases h
 |(j,W)::r,i,V,hs,h=>by
  simp only[Zcp]at h
  cases hb:Nat.beq i j with
  |true=>rw[hb]at h;cases h;rw[Nat.eq_of_beq_eq_true hb];exact hs.1
  |false=>rw[hb]at h;exact ZmI hs.2 h
theorem Zah {F:Nat} {tm tm':TM} (htm:Zu7 tm tm'):Ent F tm hp tm' hp:=
 ⟨fun φ st _ hs=>⟨φ,Fr.refl F φ,fun i V hi=>hs.tm i V (ZmI htm hi),hs.hp⟩⟩
theorem Ent.trans {F:Nat} {tm tm1 tm2:TM} {hp hp1 hp2:List SM} (h1:Ent F tm hp tm1 hp1) (h2:Ent F tm1 hp1 tm2 hp2):Ent F tm hp tm2 hp2:=by
 refine⟨fun φ st hF hs=> ?_⟩
 obtain⟨φ1,g1,g2⟩:=h1.out φ st hF hs
 obtain⟨φ2,g3,g4⟩:=h2.out φ1 st (by
  cases F with
  |zero=>exact Nat.zero_le _
  |succ n=>
   have e:=g1 n (Nat.lt_succ_self n)
   rw[List.getElem?_eq_getElem (show n<φ.length from hF)]at e
   exact(List.getElem?_eq_some_iff.1 e).1) g2
 exact⟨φ2,g1.trans g3,g4⟩
theorem ZaU {tm tm':TM} (htm:Zu4 0 tm tm'):Ent 0 tm hp tm' []:=by
 refine ZlW id (Nat.le_refl 0) (fun _ _=>rfl) (fun j hj=>absurd hj (Nat.not_lt_zero j)) (fun i j hi=>absurd hi (Nat.not_lt_zero i)) (ZkU (fun _ _=>rfl) (Nat.le_refl 0) htm) fun j m hm=> ?_
 simp at hm
structure CodeOK (P:Program) (h:Hints) (F:Nat) (c:Cx) (b:Code) (tm:TM) (hp:List SM) (k:Ex→TM→List SM→Prop):Prop where
 out: ∀φ st,F≤φ.length→SRep φ tm hp st→ ∃e st' φ' tm' hp',exS P h (lim P h) c b st=some (e,st')∧Fr F φ φ'∧SRep φ' tm' hp' st'∧k e tm' hp'
theorem CodeOK.ent {c:Cx} {b:Code} {k:Ex→TM→List SM→Prop} {tm':TM} {hp':List SM} (hl:CodeOK P h F c b tm' hp' k) (he:Ent F tm hp tm' hp'):CodeOK P h F c b tm hp k:=
 ⟨fun φ st hF hs=>by
  obtain⟨φ1,h1,h2⟩:=he.out φ st hF hs
  obtain⟨e,st',φ',tm',hp',f1,f2,f3,f4⟩:=hl.out φ1 st (h1.len hF) h2
  exact⟨e,st',φ',tm',hp',f1,h1.trans f2,f3,f4⟩⟩
theorem Zbi {a b:Operand} {t e:TypeId} {kk:IntKind} {j:Int} {id i n:Nat} {o:Option Nat} {ct:CT} {l:List ct.D} {bb:Bool} {k:SV→List SM→Prop} (ho:op= .indexAddr t a b) (ha:evS tm a=some (.ref id i n o)) (hb:evS tm b=some (.v (.i kk) j)) (hk1:(T t).k= .slice e) (h3:ZeI (T e).k=false) (hn:nth hp id=some (.row ct l bb)) (hz:Nat.beq ct.w (T e).sz=true) (hj:0≤j∧j<n) (hk:k (.ptr id (i+j.toNat) 0) hp):opT P h T op tm hp k:=by
 subst ho
 simp only[opT,ha,hb,Zd4,hk1]
 generalize hkk:(T e).k=q at*
 cases q<;>first|(cases h3;done)|exact Zsc hn hz hj hk
end
end Go.Tx
