/-
 Rows of own rows: a matrix behind the first rows of a heap; operations whose place is known by an equation; regions with light operations, one at a time.
-/
import Derived.Test.YtkhpbclcfldhmaaGreatDoorTxD
set_option linter.constructorNameAsVariable false
set_option linter.unusedSimpArgs false
set_option linter.unusedVariables false
namespace Go.Tx
open Go.Am
section
variable {P : Program} {h : Hints} {T : TypeId → TI} {hp : List SM} {tm : TM}
theorem ZfM: ∀e:CT,ceq e e=true
 | .i k=>by cases k<;>rfl
 | .b=>rfl
 | .s=>rfl
 | .any=>rfl
 | .l e=>ZfM e
 | .p a b=>by simp only[ceq,ZfM a,ZfM b,Bool.and_true]
def Zep:TK→Bool
 | .other=>true
 |_=>false
theorem ZnT {t:TypeId} {id i r:Nat} {x:SV} {cs:List SV} {k:SV→List SM→Prop} (hn:nth hp id=some (.cell cs true)) (h1:(Zbr x&&Nat.beq (Zba x).length (T t).sz)=true) (h2:Nat.ble (r+(T t).sz) cs.length=true) (h3:Zep (T t).k=false) (hi:i=0) (hk:k (.tup []) (hp.set id (.cell (spl cs r (Zba x)) true))):ZiY T t hp (.ptr id i r) x k:=by
 simp only[ZiY,h1,hn]
 refine⟨hi, ?_⟩
 rw[h2]
 split
 ·rename_i h4;rw[h4]at h3;cases h3
 ·exact hk
 ·rename_i h4;exact(h4 rfl).elim
theorem Zp8 {t:TypeId} {id i r:Nat} {cs:List SV} {V:SV} {m:Bool} {k:SV→Prop} (hn:nth hp id=some (.cell cs m)) (h1:ZgA (T t) cs r=some V) (hi:i=0) (hk:k V):Zme T t hp (.ptr id i r) k:=by
 simp only[Zme,hn]
 exact⟨hi,by rw[h1];exact hk⟩
theorem ZsD {t:TypeId} {id i r:Nat} {ct:CT} {l:List ct.D} {x:ct.D} {V:SV} {m:Bool} {k:SV→Prop} (hn:nth hp id=some (.row ct l m)) (hx:l[i]? =some x) (h1:ZgA (T t) (ZcF ct x) r=some V) (hk:k V):Zme T t hp (.ptr id i r) k:=by
 simp only[Zme,hn]
 exact⟨x,hx,by rw[h1];exact hk⟩
theorem ZpM {t:TypeId} {id i r:Nat} {x:SV} {ct:CT} {l:List ct.D} {y z:ct.D} {k:SV→List SM→Prop} (hn:nth hp id=some (.row ct l true)) (h1:(Zbr x&&Nat.beq (Zba x).length (T t).sz)=true) (hy:l[i]? =some y) (h2:Nat.ble (r+(T t).sz) ct.w=true) (h3:Zep (T t).k=false) (h4:ZbT ct (spl (ZcF ct y) r (Zba x))=some z) (hk:k (.tup []) (hp.set id (.row ct (l.set i z) true))):ZiY T t hp (.ptr id i r) x k:=by
 simp only[ZiY,h1,hn]
 refine⟨y,hy, ?_⟩
 rw[h2,h4]
 generalize(T t).k=kk at*
 cases kk<;>first|(cases h3;done)|exact hk
theorem Zwo {z id i n:Nat} {m:Option Nat} {j:Int} {ct:CT} {l:List ct.D} {b:Bool} {k:SV→Prop} (hn:nth hp id=some (.row ct l b)) (hz:Nat.beq ct.w z=true) (hj:0≤j∧j<n) (hk:k (.ptr id (i+j.toNat) 0)):ixT z hp (.ref id i n m) j k:=by
 simp only[ixT,hn]
 rw[hz]
 exact⟨hj,hk⟩
theorem Zn7 {ct:CT} {id i n:Nat} {m:Option Nat} {l:List ct.D} {b:Bool} {k:List ct.D→Prop} (hn:nth hp id=some (.row ct l b)) (hl:i+n≤l.length) (hk:k (sub l i n)):ZtT ct hp (.ref id i n m) k:=by
 simp only[ZtT,hn]
 rw[dif_pos (ZfM ct)]
 exact⟨hl,hk⟩
theorem Zpe {ct:CT} {by_ id i n:Nat} {l:List ct.D} {x:ct.D} {r:List ct.D} {k:SV→List SM→Prop} (hn:nth hp id=some (.row ct l true)) (hl:i+n≤l.length) (hz:(n+(r.length+1))*by_≤140737488355328) (hk:k (.ref hp.length 0 (n+(r.length+1)) none) (hp.set id .dead++ [.row ct (sub l i n++x::r) true])):ZtS ct by_ hp (.ref id i n none) (x::r) k:=by
 simp only[ZtS,hn]
 rw[dif_pos (ZfM ct)]
 exact⟨hl,hz,hk⟩
theorem Zax {op:Op} {t:TypeId} {id i r:Nat} {x:SV} {cs:List SV} {k:SV→List SM→Prop} {a b:Operand} (ho:op= .store t a b) (ha:evS tm a=some (.ptr id i r)) (hb:evS tm b=some x) (hn:nth hp id=some (.cell cs true)) (h1:(Zbr x&&Nat.beq (Zba x).length (T t).sz)=true) (h2:Nat.ble (r+(T t).sz) cs.length=true) (h3:Zep (T t).k=false) (hi:i=0) (hk:k (.tup []) (hp.set id (.cell (spl cs r (Zba x)) true))):opT P h T op tm hp k:=by
 simp only[ho,opT,ha,hb]
 exact ZnT hn h1 h2 h3 hi hk
theorem Zcb {op:Op} {t:TypeId} {id i r:Nat} {cs:List SV} {V:SV} {m:Bool} {k:SV→List SM→Prop} {a:Operand} (ho:op= .load t a) (ha:evS tm a=some (.ptr id i r)) (hn:nth hp id=some (.cell cs m)) (h1:ZgA (T t) cs r=some V) (hi:i=0) (hk:k V hp):opT P h T op tm hp k:=by
 simp only[ho,opT,ha]
 exact Zp8 hn h1 hi hk
theorem Zbb {op:Op} {t:TypeId} {id i r:Nat} {ct:CT} {l:List ct.D} {x:ct.D} {V:SV} {m:Bool} {k:SV→List SM→Prop} {a:Operand} (ho:op= .load t a) (ha:evS tm a=some (.ptr id i r)) (hn:nth hp id=some (.row ct l m)) (hx:l[i]? =some x) (h1:ZgA (T t) (ZcF ct x) r=some V) (hk:k V hp):opT P h T op tm hp k:=by
 simp only[ho,opT,ha]
 exact ZsD hn hx h1 hk
theorem Zcl {op:Op} {t:TypeId} {id i r:Nat} {x:SV} {ct:CT} {l:List ct.D} {y z:ct.D} {k:SV→List SM→Prop} {a b:Operand} (ho:op= .store t a b) (ha:evS tm a=some (.ptr id i r)) (hb:evS tm b=some x) (hn:nth hp id=some (.row ct l true)) (h1:(Zbr x&&Nat.beq (Zba x).length (T t).sz)=true) (hy:l[i]? =some y) (h2:Nat.ble (r+(T t).sz) ct.w=true) (h3:Zep (T t).k=false) (h4:ZbT ct (spl (ZcF ct y) r (Zba x))=some z) (hk:k (.tup []) (hp.set id (.row ct (l.set i z) true))):opT P h T op tm hp k:=by
 simp only[ho,opT,ha,hb]
 exact ZpM hn h1 hy h2 h3 h4 hk
variable {F N : Nat} {ls : List Nat} {o : Oper} {l : List Oper} {i dd : Nat} {ks : List (Nat × Nat × Bool)} {kk : TM → List SM → Prop} {V : SV}
theorem Zgu {c:Cx} {id j:Nat} {js:List Nat} {ops:Array Oper} {dr:Bool} {k:Ex→TM→List SM→Prop} (hl:h.light c.fid id=j::js) (hg:noG ops.toList=true) (hk:Za1 P h T c.N (j::js) ops.toList 0 [] tm hp fun tm' hp'=>k .normal tm' hp') (hπ:h.perm c.fid id=[]:=by rfl):wp P h T F c (.region id ops dr) tm hp k:=by
 simp only[wp,wpR,hπ,hl,hg]
 exact hk
theorem Zwu (hk:kk tm hp):Za1 P h T N ls [] i ks tm hp kk:=hk
theorem Zg4 (hi:has i ls=false) (hw:isW h o=false) (ho:opT P h T o.op tm hp fun V hp'=>ZdI N o.dst V tm fun tm'=>Za1 P h T N ls l (i+1) ks tm' hp' kk):Za1 P h T N ls (o::l) i ks tm hp kk:=by
 simp only[Za1,hi,Zp1,hw]
 split
 ·exact ho
 ·exact ho
theorem Zxy (hi:has i ls=false) (hd:Zp1 h o ks=[]) (ho:opT P h T o.op tm hp fun V hp'=>ZdI N o.dst V tm fun tm'=>Za1 P h T N ls l (i+1) [] tm' hp' kk):Za1 P h T N ls (o::l) i ks tm hp kk:=by
 simp only[Za1,hi,hd]
 exact ho
theorem Zau {c:TM→Prop} {dst:Option Tmp} (ho:dst=none) (hk:c tm):ZdI N dst V tm c:=by
 simp only[ZdI,ho]
 exact hk
variable {op : Op} {dst : Option Tmp} {c : TM → List SM → Prop}
theorem opv (he: ∀k,opT P h T op tm hp k=k V hp) (ho:dst=some dd) (hN:Nat.ble (dd+1) N=true) (hk:c ((dd,V)::tm) hp):opT P h T op tm hp fun V hp'=>ZdI N dst V tm fun tm'=>c tm' hp':=by
 rw[he]
 simp only[ZdI,ho,hN]
 exact hk
theorem opc {C:Prop} (he: ∀k,opT P h T op tm hp k=(C∧k V hp)) (hc:C) (ho:dst=some dd) (hN:Nat.ble (dd+1) N=true) (hk:c ((dd,V)::tm) hp):opT P h T op tm hp fun V hp'=>ZdI N dst V tm fun tm'=>c tm' hp':=by
 rw[he]
 simp only[ZdI,ho,hN]
 exact⟨hc,hk⟩
def ZuM (p:Nat):List Nat→Bool
 | []=>true
 |i::r=>Nat.ble (i+1) p&&ZuM p r
theorem ZiS {p id:Nat}: ∀ {l:List Nat},ZuM p l=true→id∈l→id<p
 |i::r,h,hm=>by
  simp only[ZuM,Bool.and_eq_true]at h
  rcases List.mem_cons.1 hm with rfl|hm
  ·exact Nat.le_of_ble_eq_true h.1
  ·exact ZiS h.2 hm
def Zza (p:Nat) (tm:TM):TM→Prop
 | []=>True
 |(i,V')::r=>ZcR i tm=some V'∧ZuM p (ZdN V')=true∧Zza p tm r
mutual
theorem Zu4 {f:Nat→Nat} {p:Nat} (hf: ∀j,j<p→f j=j): ∀V:SV,(∀id∈ZdN V,id<p)→rnV f V=V
 | .ref id i n m,hb=>by rw[rnV,hf id (hb id (by simp[ZdN]))]
 | .ptr id i r,hb=>by rw[rnV,hf id (hb id (by simp[ZdN]))]
 | .func g a c,hb=>by
  simp only[ZdN,List.mem_append]at hb
  rw[rnV,rnL_id hf a (fun id hi=>hb id (.inl hi)),rnL_id hf c (fun id hi=>hb id (.inr hi))]
 | .agg cs,hb=>by rw[rnV,rnL_id hf cs (by simpa only[ZdN]using hb)]
 | .tup cs,hb=>by rw[rnV,rnL_id hf cs (by simpa only[ZdN]using hb)]
 | .v _ _,_| .nilp,_| .nils,_| .nilf,_| .nili,_| .nilmp,_| .box _ _ _,_=>rfl
 | .mp id,hb=>by rw[rnV,hf id (hb id (by simp[ZdN]))]
theorem rnL_id {f:Nat→Nat} {p:Nat} (hf: ∀j,j<p→f j=j): ∀l:List SV,(∀id∈rchL l,id<p)→rnL f l=l
 | [],_=>rfl
 |V::r,hb=>by
  simp only[rchL,List.mem_append]at hb
  rw[rnL,Zu4 hf V (fun id hi=>hb id (.inl hi)),rnL_id hf r (fun id hi=>hb id (.inr hi))]
end
theorem ZxT {f:Nat→Nat} {p:Nat} (hf: ∀j,j<p→f j=j) (m:SM) (hb: ∀id∈Zlf m,id<p):rnM f m=m:=by
 cases m with
 |row t l b=>rfl
 |cell cs b=>rw[rnM,rnL_id hf cs (by simpa only[Zlf]using hb)]
 |many ct els b=>rw[rnM,rnL_id hf els (by simpa only[Zlf]using hb)]
 |set ks=>rfl
 |dead=>rfl
theorem Zlw {f:Nat→Nat} {p n:Nat} (hf: ∀j,j<p→f j=j) (hn:p≤n) {tm:TM}: ∀ {tm':TM},Zza p tm tm'→Zym f n tm tm'
 | [],_=>trivial
 |(i,V')::r,⟨h1,h2,h3⟩=>⟨by rw[Zu4 hf V' fun id hi=>ZiS h2 hi];exact h1,fun id hi=>Nat.lt_of_lt_of_le (ZiS h2 hi) hn,Zlw hf hn h3⟩
def ZyE (tm:TM):TM→Prop
 | []=>True
 |(i,V')::r=>ZcR i tm=some V'∧ZyE tm r
theorem ZkK {tm:TM}: ∀ {tm':TM} {i:Nat} {V:SV},ZyE tm tm'→ZcR i tm'=some V→ZcR i tm=some V
 | [],_,_,_,h=>by cases h
 |(j,W)::r,i,V,hs,h=>by
  simp only[ZcR]at h
  cases hb:Nat.beq i j with
  |true=>rw[hb]at h;cases h;rw[Nat.eq_of_beq_eq_true hb];exact hs.1
  |false=>rw[hb]at h;exact ZkK hs.2 h
theorem Zaq {F:Nat} {tm tm':TM} (htm:ZyE tm tm'):Ent F tm hp tm' hp:=
 ⟨fun φ st _ hs=>⟨φ,Fr.refl F φ,fun i V hi=>hs.tm i V (ZkK htm hi),hs.hp⟩⟩
theorem Ent.trans {F:Nat} {tm tm1 tm2:TM} {hp hp1 hp2:List SM} (h1:Ent F tm hp tm1 hp1) (h2:Ent F tm1 hp1 tm2 hp2):Ent F tm hp tm2 hp2:=by
 refine⟨fun φ st hF hs=> ?_⟩
 obtain⟨φ1,g1,g2⟩:=h1.out φ st hF hs
 obtain⟨φ2,g3,g4⟩:=h2.out φ1 st (by
  cases F with
  |zero=>exact Nat.zero_le _
  |succ n=>
   have e:=g1 n (Nat.lt_succ_self n)
   rw[List.getElem?_eq_getElem (show n<φ.length from hF)]at e
   exact(List.getElem?_eq_some_iff.1 e).1) g2
 exact⟨φ2,g1.trans g3,g4⟩
theorem ZcX {tm tm':TM} (htm:Zza 0 tm tm'):Ent 0 tm hp tm' []:=by
 refine ZrG id (Nat.le_refl 0) (fun _ _=>rfl) (fun j hj=>absurd hj (Nat.not_lt_zero j)) (fun i j hi=>absurd hi (Nat.not_lt_zero i)) (Zlw (fun _ _=>rfl) (Nat.le_refl 0) htm) fun j m hm=> ?_
 simp at hm
structure CodeOK (P:Program) (h:Hints) (F:Nat) (c:Cx) (b:Code) (tm:TM) (hp:List SM) (k:Ex→TM→List SM→Prop):Prop where
 out: ∀φ st,F≤φ.length→SRep φ tm hp st→ ∃e st' φ' tm' hp',exS P h (lim P h) c b st=some (e,st')∧Fr F φ φ'∧SRep φ' tm' hp' st'∧k e tm' hp'
theorem CodeOK.ent {c:Cx} {b:Code} {k:Ex→TM→List SM→Prop} {tm':TM} {hp':List SM} (hl:CodeOK P h F c b tm' hp' k) (he:Ent F tm hp tm' hp'):CodeOK P h F c b tm hp k:=
 ⟨fun φ st hF hs=>by
  obtain⟨φ1,h1,h2⟩:=he.out φ st hF hs
  obtain⟨e,st',φ',tm',hp',f1,f2,f3,f4⟩:=hl.out φ1 st (h1.len hF) h2
  exact⟨e,st',φ',tm',hp',f1,h1.trans f2,f3,f4⟩⟩
theorem Zok {id i n m:Nat} {o:Option Nat} {ct:CT} {l:List ct.D} {b:Bool} {k:SV→Prop} (hn:nth hp id=some (.row ct l b)) (hl:i+n≤l.length) (hk:k (.v (.l ct) (sub l i n))):Zla hp (m+2) (.ref id i n o) k:=by
 simp only[Zla,hn]
 exact⟨hl,hk⟩
theorem Zru {c:Call} {f:FuncId} {id i n:Nat} {o:Option Nat} {ct:CT} {l:List ct.D} {b:Bool} {t:CT} {x:t.D} {k:SV→List SM→Prop} (ho:op= .call c) (hc:c.callee= .value (.func f)) (ha:evL tm c.args.toList=some [.ref id i n o, .v t x]) (h1:h.opn f=false) (h2:h.imp f=true) (hn:nth hp id=some (.row ct l b)) (hl:i+n≤l.length)
 (he:ImpOK P h f [.v (.l ct) (sub l i n), .v t x] fun V hn sf=>k (shS hp.length V) ((match sf with|true=>hp|false=>frzT hp (Zqk hp [.ref id i n o, .v t x]))++Zvy hp.length hn)):opT P h T op tm hp k:=by
 subst ho
 simp only[opT,ZmZ,ha,hc,ZeL,h1,h2,ZyB,ZhD]
 exact Zok (m:=38) hn hl he
theorem ZaM {a b:Operand} {t e:TypeId} {kk:IntKind} {j:Int} {id i n:Nat} {o:Option Nat} {ct:CT} {l:List ct.D} {bb:Bool} {k:SV→List SM→Prop} (ho:op= .indexAddr t a b) (ha:evS tm a=some (.ref id i n o)) (hb:evS tm b=some (.v (.i kk) j)) (hk1:(T t).k= .slice e) (h3:Zep (T e).k=false) (hn:nth hp id=some (.row ct l bb)) (hz:Nat.beq ct.w (T e).sz=true) (hj:0≤j∧j<n) (hk:k (.ptr id (i+j.toNat) 0) hp):opT P h T op tm hp k:=by
 subst ho
 simp only[opT,ha,hb,Ze0,hk1]
 generalize hkk:(T e).k=q at*
 cases q<;>first|(cases h3;done)|exact Zwo hn hz hj hk
end
theorem Zz0 {p q:Prop} (h:q) (k:q→p:=by
 intro h
 repeat (first|refine Zlh ?_|refine ZhL ?_|refine ZeT ?_)
 first|((repeat first|with_reducible refine ZaX ?_|((with_reducible refine ZiG ?_ ?_);rfl));exact Zgu rfl rfl h)|exact ZaX (Zgu rfl rfl h)|exact ZaX (ZaX (Zgu rfl rfl h))):p:=k h
theorem ZzQ {p q:Prop} (h:q) (k:q→p:=by
 intro h
 refine Zwu ?_
 repeat (first|refine ZhL ?_|refine ZeT ?_)
 exact h):p:=k h
end Go.Tx
