/-
 The program logic: code, loops, functions.
-/
import Derived.Test.YtkhpbclcfldhmaaGreatDoorTx6
set_option linter.constructorNameAsVariable false
set_option linter.unusedSimpArgs false
set_option linter.unusedVariables false
namespace Go.Tx
open Go.Am
section
variable {P : Program} {h : Hints} {T : TypeId → TI} {φ : Ph} {hp : List SM} {tm : TM} {F : Nat}
theorem Zem (i d:Nat) (V:SV) (tm:TM):ZcR i ((d,V)::tm)=bif Nat.beq i d then some V else ZcR i tm:=rfl
theorem SRep.put {st:St} (hs:SRep φ tm hp st) {V:SV} {q:PV} (hq:RV φ V q) (d:Nat):SRep φ ((d,V)::tm) hp ⟨(d,q)::st.tm,st.hp⟩:=by
 refine⟨fun i W hW=> ?_,hs.hp⟩
 rw[Zem]at hW
 show ∃q',(bif Nat.beq i d then some q else Am.get st.tm i)=some q'∧_
 cases hb:Nat.beq i d with
 |true=>
  rw[hb]at hW
  cases hW
  exact⟨q,rfl,hq⟩
 |false=>
  rw[hb]at hW
  exact hs.tm i W hW
theorem SRep.mono {st:St} (hs:SRep φ tm hp st) {φ':Ph} (hl:Le φ φ') {hp':List SM} {H':List Mem} (hh:RH φ' hp' (fun a=>H'[a]?)):SRep φ' tm hp' ⟨st.tm,H'⟩:=
 ⟨fun i V hV=>by obtain⟨q,h1,h2⟩:=hs.tm i V hV;exact⟨q,h1,RV.mono hl V q h2⟩,hh⟩
theorem SRep.ev {st:St} (hs:SRep φ tm hp st):ZqF φ tm (ev st.tm):=by
 have scal: ∀v V,Zlc v=some V→ ∃q,Ze9 v=some q∧RV φ V q:=by
  intro v V hv
  unfold Zlc at hv
  split at hv<;>first
   |(cases hv;exact⟨.nilp,rfl,by simp only[RV]⟩)
   |(cases hv;exact⟨.nils,rfl,by simp only[RV]⟩)
   |(cases hv;exact⟨.nilf,rfl,by simp only[RV]⟩)
   |(cases hv;exact⟨.nili,rfl,by simp only[RV]⟩)
   |(cases hv;exact⟨.nilm,rfl,by simp only[RV]⟩)
   |(cases hv;exact⟨_,rfl,vb _⟩)
   |(cases hv;exact⟨_,rfl,vi _ _⟩)
   |(cases hv;exact⟨_,rfl,vs' _⟩)
   |(cases hv;done)
 intro x V hx
 cases x with
 |tmp t=>exact hs.tm t V hx
 |const v=>
  change Zr6 v=some V at hx
  show ∃q,Zns v=some q∧_
  unfold Zr6 at hx
  split at hx
  ·rename_i cs
   have lst: ∀ (l:List Value) (Vs:List SV),ZhO l=some Vs→ ∃qs,ZaQ Ze9 l=some qs∧RL φ Vs qs:=by
    intro l
    induction l with
    |nil=>intro Vs h;cases h;exact⟨[],rfl,by simp only[RL]⟩
    |cons v r ih=>
     intro Vs h
     simp only[ZhO]at h
     split at h
     ·rename_i x hx
      split at h
      ·rename_i y hy
       cases h
       obtain⟨q,h1,h2⟩:=scal v x hx
       obtain⟨qs,h3,h4⟩:=ih y hy
       exact⟨q::qs,by rw[Za2,h1,h3];rfl,by simp only[RL];exact⟨_,_,rfl,h2,h4⟩⟩
      ·cases h
     ·cases h
   split at hx
   ·rename_i l hl
    cases hx
    obtain⟨qs,h1,h2⟩:=lst _ _ hl
    exact⟨.agg qs,by simp only[Zns,h1,Option.map_some],by simp only[RV];exact⟨_,rfl,h2⟩⟩
   ·cases hx
  ·rename_i hna
   have e:Zns v=Ze9 v:=by cases v<;>first|rfl|exact absurd rfl (hna _)
   rw[e]
   exact scal v V hx
 |global g=>cases hx
 |func f=>
  cases hx
  exact⟨.func f [] [],rfl,by simp only[RV,RL];exact⟨_,_,rfl,rfl,rfl⟩⟩
theorem ZkO {st:St} (hs:SRep φ tm hp st) {V:SV} {q:PV} (hq:RV φ V q) {N:Nat} {dst:Option Tmp} {k:TM→Prop} (hk:ZdI N dst V tm k): ∃tm0 tm',ZeE N dst q st.tm=some tm0∧SRep φ tm' hp ⟨tm0,st.hp⟩∧k tm':=by
 unfold ZdI at hk
 split at hk
 ·exact⟨st.tm,tm,rfl,hs,hk⟩
 ·rename_i d
  split at hk
  ·rename_i hb
   have hb:d+1≤N:=Nat.le_of_ble_eq_true hb
   exact⟨(d,q)::st.tm,(d,V)::tm,if_pos (Nat.lt_of_succ_le hb),hs.put hq d,hk⟩
  ·cases hk
theorem Zkx (hT:TysOK P T) {N:Nat} {ds:List (Option Tmp)}: ∀ (l:List Oper) (tm:TM) (hp:List SM) (k:TM→List SM→Prop) (φ:Ph) (st:St),wpOps P h T N ds l tm hp k→SRep φ tm hp st→
 ∃st' φ' tm' hp',ZdC P h (lim P h) N ds l st=some st'∧Le φ φ'∧SRep φ' tm' hp' st'∧k tm' hp'
 | [],tm,hp,k,φ,st,hw,hs=>⟨st,φ,tm,hp,rfl,Le.refl φ,hs,hw⟩
 |⟨dst,op,ty,pos,after,g⟩::l,tm,hp,k,φ,⟨t0,H⟩,hw,hs=>by
  have run:opT P h T op tm hp (fun V hp'=>ZdI N dst V tm fun tm'=>wpOps P h T N ds l tm' hp' k)→ ∃st' φ' tm' hp',ZqD P h (lim P h) N ds dst l t0 (opE P h (lim P h) H (ev t0) op)=some st'∧Le φ φ'∧SRep φ' tm' hp' st'∧k tm' hp':=by
   intro ho
   obtain⟨q,H',φ1,V,hp1,h1,h2,h3,h4,h5⟩:=Zrr hT hs.hp hs.ev ho
   have hs1:=hs.mono h2 h3
   obtain⟨tm0,tm',h6,h7,h8⟩:=ZkO hs1 h4 h5
   obtain⟨st',φ',tm2,hp2,h9,h10,h11,h12⟩:=Zkx hT l tm' hp1 k φ1 _ h8 h7
   refine⟨st',φ',tm2,hp2, ?_,h2.trans h10,h11,h12⟩
   rw[h1]
   simp only[ZqD,Option.bind_some]
   rw[show ZeE N dst q t0=some tm0 from h6]
   exact h9
  have skip:ZdI N dst (.tup []) tm (fun tm'=>wpOps P h T N ds l tm' hp k)→ ∃st' φ' tm' hp',ZqD P h (lim P h) N ds dst l t0 (some (.tup [],H))=some st'∧Le φ φ'∧SRep φ' tm' hp' st'∧k tm' hp':=by
   intro ho
   obtain⟨tm0,tm',h6,h7,h8⟩:=ZkO hs (V:= .tup []) (q:= .tup []) (by simp only[RV,RL];exact⟨_,rfl,rfl⟩) ho
   obtain⟨st',φ',tm2,hp2,h9,h10,h11,h12⟩:=Zkx hT l tm' hp k φ _ h8 h7
   refine⟨st',φ',tm2,hp2, ?_,h10,h11,h12⟩
   simp only[ZqD,Option.bind_some]
   rw[show ZeE N dst (.tup []) t0=some tm0 from h6]
   exact h9
  cases g with
  |none=>
   rw[Zyz]
   exact run hw
  |some jw=>
   obtain⟨j,w⟩:=jw
   rw[Zsy,ZwZ]
   simp only[wpOps]at hw
   split at hw
   ·rename_i d hd
    rw[Za5]at hd
    split at hw
    ·rename_i t ht
     obtain⟨q,h1,h2⟩:=hs.tm _ _ ht
     rw[Zfw h2]at h1
     simp only[hd,Option.bind_some,id,show Am.get t0 d=_ from h1,ZvS]
     cases hb:t==w with
     |true=>rw[Zrz];exact run (hw.1 (by simpa using hb))
     |false=>rw[ZjD];exact skip (hw.2 (by cases t<;>cases w<;>simp at hb⊢))
    ·rename_i ht
     obtain⟨q,h1,h2⟩:=hs.tm _ _ ht
     simp only[RV,RL]at h2
     obtain⟨_,rfl,rfl⟩:=h2
     simp only[hd,Option.bind_some,id,show Am.get t0 d=_ from h1,ZvS]
     rw[ZjD]
     exact skip hw
    ·cases hw
   ·cases hw
theorem ZkU {id j:Nat}: ∀ {l:List Nat},ZrA id l=false→j∈l→id≠j
 |i::r,h,hj=>by
  simp only[ZrA]at h
  split at h
  ·cases h
  ·rename_i hb
   rcases List.mem_cons.1 hj with rfl|hj
   ·intro e;subst e;simp at hb
   ·exact ZkU h hj
theorem Zgv {j:Nat}: ∀ {l:List Nat},ZiI hp l=true→j∈l→ZjT hp j=true
 |i::r,h,hj=>by
  simp only[ZiI,Bool.and_eq_true]at h
  rcases List.mem_cons.1 hj with rfl|hj
  ·exact h.1
  ·exact Zgv h.2 hj
theorem ZdS {id:Nat} (h:ZjT hp id=true): ∃m,hp[id]? =some m∧live m=true:=by
 unfold ZjT at h
 split at h
 ·rename_i m hm
  rw[Za5]at hm
  exact⟨m,hm,h⟩
 ·cases h
theorem Zhn {H H':List Mem} {t:TypeId} {a i r b:Nat} {x:PV} (hs:Zct P H t (.ptr a i r) x=some H') (hb:b≠a):H'[b]? =H[b]? :=by
 unfold Zct at hs
 simp only at hs
 split at hs
 ·rename_i es z he
  cases hc:es[i]? with
  |none=>simp[hc]at hs
  |some c=>
   cases hn:ZaV P t with
   |none=>simp[hc,hn]at hs
   |some n=>
    simp only[hc,hn,Option.bind_some]at hs
    split at hs
    ·cases hs
     rw[List.getElem?_set_ne (Ne.symm hb)]
    ·cases hs
 ·cases hs
theorem Ztm {H H':List Mem} {t:TypeId} {a i r b:Nat} {x:PV} {es:List (List PV)} {z:Nat} {m:Bool} (hs:Zct P H t (.ptr a i r) x=some H') (hb:H[b]? =some (.row es z m)): ∃es' m',H'[b]? =some (.row es' z m'):=by
 by_cases hab:b=a
 ·subst hab
  unfold Zct at hs
  simp only[hb]at hs
  split at hs
  ·rename_i es2 z2 he
   cases he
   have hl:=(List.getElem?_eq_some_iff.1 hb).1
   cases hc:es[i]? with
   |none=>simp[hc]at hs
   |some c=>
    cases hn:ZaV P t with
    |none=>simp[hc,hn]at hs
    |some n=>
     simp only[hc,hn,Option.bind_some]at hs
     split at hs
     ·cases hs
      exact⟨_,true,List.getElem?_set_self hl⟩
     ·cases hs
  ·cases hs
 ·exact⟨es,m,by rw[Zhn hs hab];exact hb⟩
def ZyT (P:Program) (φ:Ph) (ks:List (Nat×Nat×Bool)) (H:List Mem) (x:Nat×Oper×List (Nat×PV)×PV):Prop:=
 ∃dst op ty pos after g,x.2.1=⟨dst,op,ty,pos,after,g⟩∧
  ((∀ (h:Hints) (E:Ev) (H':List Mem),ZaD P h E H' (Am.ev x.2.2.1) ⟨dst,op,ty,pos,after,g⟩=some x.2.2.2)∨
   (∃t y j es jv,op= .indexAddr t y j∧Am.ev x.2.2.1 y=some (.lst es)∧Am.ev x.2.2.1 j=some jv∧Zan P H t (.lst es) jv=some x.2.2.2)∨
   (∃t y j place i n m jv id,op= .indexAddr t y j∧Am.ev x.2.2.1 y=some (.ref place i n m)∧Am.ev x.2.2.1 j=some jv∧(x.1,id,false)∈ks∧φ[id]? =some (some place)∧Zan P H t (.ref place i n m) jv=some x.2.2.2)∨
   (∃t a c r,op= .load t a∧Am.ev x.2.2.1 a=some (.box c r)∧ZcW P t c r=some x.2.2.2)∨
   (∃t a place i r id,op= .load t a∧Am.ev x.2.2.1 a=some (.ptr place i r)∧(x.1,id,true)∈ks∧φ[id]? =some (some place)∧Zbt P H t (.ptr place i r)=some x.2.2.2))
def Accs (P:Program) (φ:Ph) (ks:List (Nat×Nat×Bool)) (H:List Mem) (acc:List (Nat×Oper×List (Nat×PV)×PV)):Prop:= ∀x∈acc,ZyT P φ ks H x
theorem Zoi {ks:List (Nat×Nat×Bool)} {H:List Mem}: ∀ {acc:List (Nat×Oper×List (Nat×PV)×PV)},Accs P φ ks H acc→Zc7 P h (lim P h) acc H=some ()
 | [],_=>rfl
 |(n,o,tm0,v)::acc,ha=>by
  have hr:Zc7 P h (lim P h) acc H=some ():=Zoi fun x hx=>ha x (List.mem_cons_of_mem _ hx)
  obtain⟨dst,op,ty,pos,after,g,rfl,hc⟩:=ha _ List.mem_cons_self
  have fin: ∀ {r:Option PV},r=some v→Zo8 P h (lim P h) acc H v r=some ():=fun h=>by rw[h,Zne _ _ _ _ (ZmJ v)];exact hr
  rw[ZpV]
  rcases hc with h1|⟨t,y,j,es,jv,rfl,h1,h2,h3⟩|⟨t,y,j,place,i,n,m,jv,id,rfl,h1,h2,_,_,h3⟩|⟨t,a,c,r,rfl,h1,h2⟩|⟨t,a,place,i,r,id,rfl,h1,_,_,h2⟩
  ·exact fin (h1 _ _ _)
  ·rw[Zb8]
   refine fin ?_
   simp only at h1 h2 h3
   simp only[Zbc,h1,h2,Option.bind_some,h3]
  ·rw[Zb8]
   refine fin ?_
   simp only at h1 h2 h3
   simp only[Zbc,h1,h2,Option.bind_some,h3]
  ·rw[ZeH]
   refine fin ?_
   simp only at h1 h2
   simp only[Zjh,h1,Option.bind_some,Zbt,h2]
  ·rw[ZeH]
   refine fin ?_
   simp only at h1 h2
   simp only[Zjh,h1,Option.bind_some,h2]
def Keeps (H H':List Mem):Prop:= ∀ (a:Nat) (es:List (List PV)) (z:Nat) (m:Bool),H[a]? =some (.row es z m)→ ∃m',H'[a]? =some (.row es z m')
theorem Keeps.refl (H:List Mem):Keeps H H:=fun _ _ _ m h=>⟨m,h⟩
theorem Zhi (ids:List Nat) (H rows:List Mem):Keeps H (Am.freeze ids H++rows):=by
 intro a es z m h
 obtain⟨m',h1,h2⟩:=ZcO ids H a _ h
 have hl:=(List.getElem?_eq_some_iff.1 h1).1
 cases m' with
 |row es' z' m''=>
  simp only[simM]at h2
  obtain⟨rfl,rfl⟩:=h2
  exact⟨m'',by rw[List.getElem?_append_left hl];exact h1⟩
 |_=>simp[simM]at h2
theorem ZjB {H:List Mem} {v:Option PV} {q:PV} {H':List Mem} (h:ZbO H v=some (q,H')):Keeps H H':=by
 cases v with
 |none=>cases h
 |some v=>cases h;exact Keeps.refl H
theorem Zj0 {H:List Mem} {r:Res} {q:PV} {H':List Mem} (h:ZiB H r=some (q,H')):Keeps H H':=by
 cases r with
 |none=>cases h
 |some x=>cases h;exact Zhi _ _ _
theorem Zm4 {H:List Mem} {ρ:Operand→Option PV} {E:Ev} {dst:Option Tmp} {op:Op} {ty:TypeId} {pos:String} {after:Array Edge} {g:Option (Nat×Bool)} {q:PV} {H':List Mem} (hw:isW h ⟨dst,op,ty,pos,after,g⟩=false) (ho:opE P h E H ρ op=some (q,H')):Keeps H H':=by
 cases op<;>first
  |exact ZjB ho
  |exact Zj0 ho
  |(cases ho;done)
  |(cases hw;done)
  |skip
 rename_i c
 have ho:ZgN P h E H ρ c=some (q,H'):=ho
 have hw:ZxK h c=false:=hw
 unfold ZgN at ho
 unfold ZxK at hw
 split at ho
 ·rename_i b hb
  rw[hb]at hw
  cases b<;>first
   |exact ZjB ho
   |(cases hw;done)
 ·rename_i f hf
  rw[hf]at hw
  have hw:h.opn f=false:=hw
  rw[hw]at ho
  exact Zj0 ho
 ·rename_i x h1 hx
  rw[hx]at hw
  split at hw
  ·rename_i hx';cases hx'
  ·rename_i f hx'
   cases hx'
   exact absurd rfl (h1 _)
  ·cases hw
 ·cases ho
theorem Zss {H:List Mem} {ρ:Operand→Option PV} {E:Ev} {c:Call} {q:PV} {H':List Mem} (hρ:ZqF φ tm ρ) (hd:ZyW h tm c=true) (ho:opE P h E H ρ (.call c)=some (q,H')):Keeps H H':=by
 have ho:ZgN P h E H ρ c=some (q,H'):=ho
 unfold ZyW at hd
 unfold ZgN at ho
 split at hd
 ·cases hd
 ·rename_i x hx1 hx
  rw[hx]at ho
  split at hd
  ·rename_i f a cc hev
   obtain⟨p,hp1,hp2⟩:=hρ _ _ hev
   simp only[RV]at hp2
   obtain⟨a',c',rfl,_,_⟩:=hp2
   have hop:h.opn f=false:=by simpa using hd
   have ho:ZqH h E H ρ x c=some (q,H'):=by
    cases x<;>first
     |exact ho
     |exact absurd rfl (hx1 _)
   unfold ZqH at ho
   rw[hp1]at ho
   simp only[Option.bind_some]at ho
   cases hv:ZaQ ρ c.args.toList with
   |none=>simp[hv]at ho
   |some vs=>
    simp only[hv,Option.bind_some,Zch,hop,Bool.false_eq_true,if_false]at ho
    obtain⟨r,_,hr⟩:=Option.map_eq_some_iff.1 ho
    rw[← (Prod.mk.inj hr).2]
    exact Zhi _ _ _
  ·cases hd
 ·cases hd
theorem Keeps.load {H H':List Mem} (hk:Keeps H H') {t:TypeId} {place i r:Nat} {v:PV} (h1:Zbt P H t (.ptr place i r)=some v):Zbt P H' t (.ptr place i r)=some v:=by
 unfold Zbt at h1⊢
 simp only at h1⊢
 split at h1
 ·rename_i es z m hm
  obtain⟨m',h2⟩:=hk _ _ _ _ hm
  rw[h2]
  exact h1
 ·cases h1
def KeepsZ (H H':List Mem) (a:Nat):Prop:= ∀ (es:List (List PV)) (z:Nat) (m:Bool),H[a]? =some (.row es z m)→ ∃es' m',H'[a]? =some (.row es' z m')
theorem Keeps.z {H H':List Mem} (hk:Keeps H H') (a:Nat):KeepsZ H H' a:=fun es z m h=>by
 obtain⟨m',h2⟩:=hk a es z m h
 exact⟨es,m',h2⟩
theorem KeepsZ.index {H H':List Mem} {place:Nat} (hk:KeepsZ H H' place) {t:TypeId} {i n m:Nat} {jv v:PV} (h1:Zan P H t (.ref place i n m) jv=some v):Zan P H' t (.ref place i n m) jv=some v:=by
 cases jv with
 |int kk j=>
  cases hu:P.underlying t with
  |none=>simp[Zan,hu]at h1
  |some u=>
   cases u with
   |slice e=>
    cases hz:ZaV P e with
    |none=>simp[Zan,hu,hz]at h1
    |some z=>
     simp only[Zan,hu,hz,Option.bind_some]at h1⊢
     split at h1
     ·rename_i hj
      rw[if_pos hj]
      split at h1
      ·rename_i es z' m' hm
       obtain⟨es',m'',h2⟩:=hk _ _ _ hm
       rw[h2]
       exact h1
      ·cases h1
     ·cases h1
   |_=>simp[Zan,hu]at h1
 |_=>simp[Zan]at h1
theorem ZrK {H H':List Mem} {t:TypeId} {es:List (List PV)} {jv v:PV} (h1:Zan P H t (.lst es) jv=some v):Zan P H' t (.lst es) jv=some v:=by
 cases jv with
 |int kk j=>
  cases hu:P.underlying t with
  |none=>simp[Zan,hu]at h1
  |some u=>cases u<;>first
   |(simp only[Zan,hu]at h1⊢;exact h1)
   |(simp[Zan,hu]at h1;done)
 |_=>simp[Zan]at h1
theorem Zs8 {o:Oper} {acc:List (Nat×Oper×List (Nat×PV)×PV)} {x:Nat×Oper×List (Nat×PV)×PV} (hx:x∈ZbV h o acc):x∈acc∧(isW h o=true→Zdv o x.1=false):=by
 refine⟨Zr0 hx,fun hw=> ?_⟩
 unfold ZbV at hx
 rw[hw,cond_true]at hx
 clear hw
 induction acc with
 |nil=>cases hx
 |cons y acc ih=>
  have hx:x∈(bif Zdv o y.1 then _ else y::_:List _):=hx
  cases hh:Zdv o y.1 with
  |true=>rw[hh,cond_true]at hx;exact ih hx
  |false=>
   rw[hh,cond_false]at hx
   rcases List.mem_cons.1 hx with rfl|hx
   ·exact hh
   ·exact ih hx
theorem Ziz {o:Oper} {y:Nat×Nat×Bool} (hy:Zdv o y.1=false): ∀ {ks:List (Nat×Nat×Bool)},y∈ks→y∈ZsR o ks
 |x::r,hm=>by
  simp only[ZsR]
  rcases List.mem_cons.1 hm with rfl|hm
  ·rw[hy]
   exact List.mem_cons_self
  ·split
   ·exact Ziz hy hm
   ·exact List.mem_cons_of_mem _ (Ziz hy hm)
theorem Zly {o:Oper} {y:Nat×Nat×Bool} {ks:List (Nat×Nat×Bool)} (hm:y∈ks) (hy:isW h o=true→Zdv o y.1=false):y∈Zp1 h o ks:=by
 unfold Zp1
 split
 ·rename_i hw
  exact Ziz (hy hw) hm
 ·exact hm
theorem Accs.drop {o:Oper} {ks:List (Nat×Nat×Bool)} {H:List Mem} {acc:List (Nat×Oper×List (Nat×PV)×PV)} (ha:Accs P φ ks H acc):Accs P φ (Zp1 h o ks) H (ZbV h o acc):=by
 intro x hx
 obtain⟨h1,h2⟩:=Zs8 hx
 obtain⟨dst,op,ty,pos,after,g,e,hc⟩:=ha x h1
 refine⟨dst,op,ty,pos,after,g,e, ?_⟩
 rcases hc with hc|hc|⟨t,y,j,place,i,n,m,jv,id,e1,e2,e3,e4,e5,e6⟩|hc|⟨t,a,place,i,r,id,e1,e2,e3,e4,e5⟩
 ·exact .inl hc
 ·exact .inr (.inl hc)
 ·exact .inr (.inr (.inl ⟨t,y,j,place,i,n,m,jv,id,e1,e2,e3,Zly e4 h2,e5,e6⟩))
 ·exact .inr (.inr (.inr (.inl hc)))
 ·exact .inr (.inr (.inr (.inr ⟨t,a,place,i,r,id,e1,e2,Zly e3 h2,e4,e5⟩)))
theorem Accs.more {ks:List (Nat×Nat×Bool)} {H:List Mem} {acc:List (Nat×Oper×List (Nat×PV)×PV)} {φ':Ph} (ha:Accs P φ ks H acc) (hl:Le φ φ') (y:Nat×Nat×Bool):Accs P φ' (y::ks) H acc:=by
 intro x hx
 obtain⟨dst,op,ty,pos,after,g,e,hc⟩:=ha x hx
 refine⟨dst,op,ty,pos,after,g,e, ?_⟩
 rcases hc with hc|hc|⟨t,y,j,place,i,n,m,jv,id,e1,e2,e3,e4,e5,e6⟩|hc|⟨t,a,place,i,r,id,e1,e2,e3,e4,e5⟩
 ·exact .inl hc
 ·exact .inr (.inl hc)
 ·exact .inr (.inr (.inl ⟨t,y,j,place,i,n,m,jv,id,e1,e2,e3,List.mem_cons_of_mem _ e4,hl _ _ e5,e6⟩))
 ·exact .inr (.inr (.inr (.inl hc)))
 ·exact .inr (.inr (.inr (.inr ⟨t,a,place,i,r,id,e1,e2,List.mem_cons_of_mem _ e3,hl _ _ e4,e5⟩)))
theorem Accs.mono {ks:List (Nat×Nat×Bool)} {H:List Mem} {acc:List (Nat×Oper×List (Nat×PV)×PV)} {φ':Ph} (ha:Accs P φ ks H acc) (hl:Le φ φ'):Accs P φ' ks H acc:=by
 intro x hx
 obtain⟨dst,op,ty,pos,after,g,e,hc⟩:=ha x hx
 refine⟨dst,op,ty,pos,after,g,e, ?_⟩
 rcases hc with hc|hc|⟨t,y,j,place,i,n,m,jv,id,e1,e2,e3,e4,e5,e6⟩|hc|⟨t,a,place,i,r,id,e1,e2,e3,e4,e5⟩
 ·exact .inl hc
 ·exact .inr (.inl hc)
 ·exact .inr (.inr (.inl ⟨t,y,j,place,i,n,m,jv,id,e1,e2,e3,e4,hl _ _ e5,e6⟩))
 ·exact .inr (.inr (.inr (.inl hc)))
 ·exact .inr (.inr (.inr (.inr ⟨t,a,place,i,r,id,e1,e2,e3,hl _ _ e4,e5⟩)))
theorem Accs.keep {ks:List (Nat×Nat×Bool)} {H H':List Mem} {acc:List (Nat×Oper×List (Nat×PV)×PV)} {φ':Ph} (ha:Accs P φ ks H acc) (hl:Le φ φ') (hz: ∀i id place,(i,id,false)∈ks→φ[id]? =some (some place)→KeepsZ H H' place) (hd: ∀i id place,(i,id,true)∈ks→φ[id]? =some (some place)→ ∀t j r v,Zbt P H t (.ptr place j r)=some v→Zbt P H' t (.ptr place j r)=some v):Accs P φ' ks H' acc:=by
 intro x hx
 obtain⟨dst,op,ty,pos,after,g,e,hc⟩:=ha x hx
 refine⟨dst,op,ty,pos,after,g,e, ?_⟩
 rcases hc with hc|⟨t,y,j,es,jv,e1,e2,e3,e4⟩|⟨t,y,j,place,i,n,m,jv,id,e1,e2,e3,e4,e5,e6⟩|hc|⟨t,a,place,i,r,id,e1,e2,e3,e4,e5⟩
 ·exact .inl hc
 ·exact .inr (.inl ⟨t,y,j,es,jv,e1,e2,e3,ZrK e4⟩)
 ·exact .inr (.inr (.inl ⟨t,y,j,place,i,n,m,jv,id,e1,e2,e3,e4,hl _ _ e5,(hz _ _ _ e4 e5).index e6⟩))
 ·exact .inr (.inr (.inr (.inl hc)))
 ·exact .inr (.inr (.inr (.inr ⟨t,a,place,i,r,id,e1,e2,e3,hl _ _ e4,hd _ _ _ e3 e4 _ _ _ _ e5⟩)))
theorem ZeY {i id:Nat}: ∀ {ks:List (Nat×Nat×Bool)},(i,id,true)∈ks→id∈Zma ks
 |(i',id',true)::r,hm=>by
  rcases List.mem_cons.1 hm with e|hm
  ·cases e
   exact List.mem_cons_self
  ·exact List.mem_cons_of_mem _ (ZeY hm)
 |(i',id',false)::r,hm=>by
  rcases List.mem_cons.1 hm with e|hm
  ·cases e
  ·show id∈Zma r
   exact ZeY hm
theorem Zpc {L:Nat→Option Mem} {a:Nat} {sm:SM} {z:Nat} (hm:RM φ L (some a) sm) (hw:ZxL sm=some z): ∃es m,L a=some (.row es z m):=by
 cases sm with
 |row t l m=>
  simp only[RM]at hm
  obtain⟨es,m',h1,_⟩:=hm
  cases hw
  exact⟨es,m',h1⟩
 |cell cs m=>
  simp only[RM]at hm
  obtain⟨a',cs',m',h0,h1,h2,_⟩:=hm
  cases h0
  cases hw
  refine⟨[cs'],m', ?_⟩
  rw[h1,h2.len]
 |many ct els m=>
  simp only[RM]at hm
  obtain⟨es,m',h1,_⟩:=hm
  cases hw
  exact⟨es,m',h1⟩
 |set ks=>cases hw
 |dead=>cases hw
theorem ZlU {hp hp':List SM} {i id:Nat} {b:Bool}: ∀ {ks:List (Nat×Nat×Bool)},ZtJ hp hp' ks=true→(i,id,b)∈ks→ ∃sm sm' z,hp[id]? =some sm∧hp'[id]? =some sm'∧ZxL sm=some z∧ZxL sm'=some z
 |(i',id',b')::r,h,hm=>by
  simp only[ZtJ]at h
  split at h
  ·rename_i x y hx hy
   simp only[Bool.and_eq_true]at h
   rcases List.mem_cons.1 hm with e|hm
   ·cases e
    obtain⟨sm,h1,h2⟩:=Option.bind_eq_some_iff.1 hx
    obtain⟨sm',h3,h4⟩:=Option.bind_eq_some_iff.1 hy
    rw[Za5]at h1 h3
    rw[Nat.eq_of_beq_eq_true h.1]at h2
    exact⟨sm,sm',_,h1,h3,h2,h4⟩
   ·exact ZlU h.2 hm
  ·cases h
theorem Zn5 {i id:Nat} {b:Bool}: ∀ {ks:List (Nat×Nat×Bool)},(i,id,b)∈ks→id∈ZyC ks
 |(i',id',b')::r,hm=>by
  rcases List.mem_cons.1 hm with e|hm
  ·cases e
   exact List.mem_cons_self
  ·exact List.mem_cons_of_mem _ (Zn5 hm)
theorem Zln {H H':List Mem} {place:Nat} (hk: ∀ (es:List (List PV)) (z:Nat) (m:Bool),H[place]? =some (.row es z m)→ ∃m',H'[place]? =some (.row es z m')) {t:TypeId} {j r:Nat} {v:PV} (hv:Zbt P H t (.ptr place j r)=some v):Zbt P H' t (.ptr place j r)=some v:=by
 simp only[Zbt]at hv⊢
 split at hv
 ·rename_i es z m hm
  obtain⟨m',h2⟩:=hk es z m hm
  rw[h2];exact hv
 ·cases hv
theorem Zl2 {H H':List Mem} {ρ:Operand→Option PV} {E:Ev} {c:Call} {q:PV} {oi:Option Nat} (hρ:ZqF φ tm ρ) (hd:ZyU tm c=some oi) (ho:opE P h E H ρ (.call c)=some (q,H')):
 ∀place,(∀id,some id=oi→φ[id]?≠some (some place))→ ∀ (es:List (List PV)) (z:Nat) (m:Bool),H[place]? =some (.row es z m)→ ∃m',H'[place]? =some (.row es z m'):=by
 have ho:ZgN P h E H ρ c=some (q,H'):=ho
 unfold ZyU at hd
 unfold ZgN at ho
 split at hd
 ·rename_i hc
  rw[hc]at ho
  have ho:Zdu P h H ρ c=some (q,H'):=ho
  unfold Zdu at ho
  obtain⟨vs,h1,g1⟩:=Zai ho
  split at g1
  ·rename_i s x
   split at hd
   ·rename_i y ys hy
    rw[hy]at h1
    obtain⟨b,r,h2,h3,h4⟩:=Zay h1
    obtain⟨rfl,rfl⟩:b=s∧r=[x]:=by cases h4;exact⟨rfl,rfl⟩
    have key: ∀ {H1:List Mem} {x1:PV},Zce P H1 c.argTypes b x1=some (q,H')→ ∀place,(∀i n m,b= .ref place i n m→False)→ ∀m1,H1[place]? =some m1→H'[place]? =some m1:=by
     intro H1 x1 hop place hpl m1 hm1
     unfold Zce at hop
     obtain⟨t,_,hop⟩:=Zai hop
     obtain⟨e,_,hop⟩:=Zai hop
     obtain⟨z,_,hop⟩:=Zai hop
     obtain⟨by_,_,hop⟩:=Zai hop
     obtain⟨zero,_,hop⟩:=Zai hop
     obtain⟨new,_,hop⟩:=Zai hop
     obtain⟨_,hop⟩:=Zaj hop
     have hlt:=(List.getElem?_eq_some_iff.1 hm1).1
     cases b with
     |nils=>
      simp only[Zbo]at hop
      split at hop
      ·cases hop;exact hm1
      ·obtain⟨_,hop⟩:=Zaj hop
       cases hop
       rw[List.getElem?_append_left hlt];exact hm1
     |ref id j n room=>
      have hne:id≠place:=by rintro rfl;exact hpl _ _ _ rfl
      simp only[Zbo]at hop
      split at hop
      ·obtain⟨_,hop⟩:=Zaj hop
       split at hop
       ·cases hop;exact hm1
       ·split at hop
        ·obtain⟨_,hop⟩:=Zaj hop
         cases hop
         rw[List.getElem?_set_ne hne];exact hm1
        ·obtain⟨_,hop⟩:=Zaj hop
         cases hop
         rw[List.getElem?_append_left (by simpa using hlt),List.getElem?_set_ne hne];exact hm1
      ·cases hop
     |_=>simp[Zbo]at hop
    intro place hnp es z m hm
    have hpl: ∀i n m,b= .ref place i n m→False:=by
     rintro i n m rfl
     split at hd
     ·rename_i hev
      obtain⟨p,hp1,hp2⟩:=hρ _ _ hev
      simp only[RV]at hp2
      rw[h2]at hp1;cases hp1;cases hp2
     ·rename_i id i2 n2 m2 hev
      obtain⟨p,hp1,hp2⟩:=hρ _ _ hev
      rw[h2]at hp1;cases hp1
      simp only[RV]at hp2
      cases hd
      rcases hp2 with⟨a,h5,h6⟩|⟨_,h6,_⟩
      ·cases h6
       exact hnp _ rfl h5
      ·cases h6
     ·cases hd
    unfold Zdo at g1
    cases hf:Am.frzT h c.argTypes with
    |false=>rw[hf,cond_false]at g1;exact⟨m,key g1 place hpl _ hm⟩
    |true=>
     rw[hf,cond_true]at g1
     obtain⟨x',_,h7⟩:=Zai g1
     obtain⟨m',h8,h9⟩:=ZcO (rch ZaE H x) H place _ hm
     cases m'<;>simp[simM]at h9
     obtain⟨rfl,rfl⟩:=h9
     exact⟨_,key h7 place hpl _ h8⟩
   ·cases hd
  ·cases g1
 ·cases hd
theorem Zja {H H':List Mem} {t:TypeId} {p:PV} (hp: ∀id,p≠ .map id):Zdz P H' t p=Zdz P H t p:=by
 unfold Zdz
 cases P.underlying t with
 |none=>rfl
 |some u=>cases u<;>cases p<;>first|rfl|exact absurd rfl (hp _)
theorem ZsA {H:List Mem} {ρ:Operand→Option PV} {c:Call} (hρ:ZqF φ tm ρ) (hq:ZyP tm c=true): ∃r:List Mem→Option PV,(∀ (h:Hints) (E:Ev) (H:List Mem),opE P h E H ρ (.call c)=ZbO H (r H))∧(∀ (h:Hints) (E:Ev) (H':List Mem) (dst:Option Tmp) (ty:TypeId) (pos:String) (after:Array Edge),ZaD P h E H' ρ ⟨dst, .call c,ty,pos,after,none⟩=r H)∧ ∀H',r H'=r H:=by
 obtain⟨callee,args,ts⟩:=c
 cases callee<;>first|(cases hq;done)|skip
 case builtin b=>
  have main:(∀H',((ZaQ ρ args.toList).bind fun vs=>Zbh P H' b ts vs)=(ZaQ ρ args.toList).bind fun vs=>Zbh P H b ts vs)→(∀ (h:Hints) (E:Ev) (H:List Mem),opE P h E H ρ (.call ⟨.builtin b,args,ts⟩)=ZbO H ((ZaQ ρ args.toList).bind fun vs=>Zbh P H b ts vs))→_:=fun hs ho=>
   (⟨fun H'=>(ZaQ ρ args.toList).bind fun vs=>Zbh P H' b ts vs,ho,fun _ E H' dst ty pos after=>(Zco _).trans (hs H'),hs⟩: ∃r:List Mem→Option PV,(∀ (h:Hints) (E:Ev) (H:List Mem),opE P h E H ρ (.call ⟨.builtin b,args,ts⟩)=ZbO H (r H))∧(∀ (h:Hints) (E:Ev) (H':List Mem) (dst:Option Tmp) (ty:TypeId) (pos:String) (after:Array Edge),ZaD P h E H' ρ ⟨dst, .call ⟨.builtin b,args,ts⟩,ty,pos,after,none⟩=r H)∧ ∀H',r H'=r H)
  cases b
  case min=>exact main (fun H'=>congrArg (Option.bind _) (funext fun vs=>by cases vs<;>rfl)) (fun _ _ _=>rfl)
  case max=>exact main (fun H'=>congrArg (Option.bind _) (funext fun vs=>by cases vs<;>rfl)) (fun _ _ _=>rfl)
  case len=>
   refine main (fun H'=> ?_) (fun _ _ _=>rfl)
   simp only[ZyP]at hq
   split at hq
   ·rename_i ct xs he
    obtain⟨qs,h1,h2⟩:=Zi6 hρ he
    rw[h1]
    simp only[RL]at h2
    obtain⟨q,_,rfl,h3,rfl⟩:=h2
    have: ∀id,q≠ .map id:=fun id e=>by
     rcases Zhc h3 with⟨rfl,_⟩|⟨es,rfl,_⟩<;>cases e
    simp only[Option.bind_some,Zbh,Zja (H:=H) (H':=H') this]
   ·rename_i he
    obtain⟨qs,h1,h2⟩:=Zi6 hρ he
    rw[h1]
    simp only[RL]at h2
    obtain⟨q,_,rfl,h3,rfl⟩:=h2
    simp only[RV]at h3
    subst h3
    have e:=fun t=>Zja (P:=P) (H:=H) (H':=H') (t:=t) (p:= .nils) (fun id e=>by cases e)
    simp only[Option.bind_some,Zbh,e]
   ·rename_i he
    obtain⟨qs,h1,h2⟩:=Zi6 hρ he
    rw[h1]
    simp only[RL]at h2
    obtain⟨q,_,rfl,h3,rfl⟩:=h2
    simp only[RV]at h3
    have: ∀id,q≠ .map id:=fun id e=>by
     rcases h3 with⟨_,_,rfl⟩|⟨_,rfl,_⟩<;>cases e
    simp only[Option.bind_some,Zbh,Zja (H:=H) (H':=H') this]
   ·cases hq
  all_goals cases hq
theorem Zi0 (hT:TysOK P T) {N:Nat} {ls:List Nat}: ∀ (l:List Oper) (i:Nat) (ks:List (Nat×Nat×Bool)) (tm:TM) (hp:List SM) (k:TM→List SM→Prop) (φ:Ph) (st:St) (acc:List (Nat×Oper×List (Nat×PV)×PV)),Za1 P h T N ls l i ks tm hp k→noG l=true→SRep φ tm hp st→Accs P φ ks st.hp acc→
 ∃st' φ' tm' hp',Zm6 P h (lim P h) N ls l i acc st=some st'∧Le φ φ'∧SRep φ' tm' hp' st'∧k tm' hp'
 | [],i,ks,tm,hp,k,φ,st,acc,hw,_,hs,_=>⟨st,φ,tm,hp,rfl,Le.refl φ,hs,hw⟩
 |⟨dst,op,ty,pos,after,some g⟩::l,i,ks,tm,hp,k,φ,st,acc,hw,hg,hs,hacc=>by cases hg
 |⟨dst,op,ty,pos,after,none⟩::l,i,ks,tm,hp,k,φ,⟨t0,H⟩,acc,hw,hg,hs,hacc=>by
  have hg:noG l=true:=hg
  simp only[Za1]at hw
  split at hw
  ·rename_i hi
   have light: ∀ (ks2:List (Nat×Nat×Bool)) (r:Option PV),opE P h (lim P h) H (Am.ev t0) op=ZbO H r→ZaD P h (lim P h) H (Am.ev t0) ⟨dst,op,ty,pos,after,none⟩=r→(∀q φ1,r=some q→Le φ φ1→Accs P φ1 ks2 H ((i,⟨dst,op,ty,pos,after,none⟩,t0,q)::acc))→
    opT P h T op tm hp (fun V hp'=>ZdI N dst V tm fun tm'=>Za1 P h T N ls l (i+1) ks2 tm' hp' k)→ ∃st' φ' tm' hp',Zm6 P h (lim P h) N ls (⟨dst,op,ty,pos,after,none⟩::l) i acc ⟨t0,H⟩=some st'∧Le φ φ'∧SRep φ' tm' hp' st'∧k tm' hp':=by
    intro ks2 r hr hl ha ho
    obtain⟨q,H',φ1,V,hp1,h1,h2,h3,h4,h5⟩:=Zrr hT hs.hp hs.ev ho
    rw[hr]at h1
    cases r with
    |none=>cases h1
    |some q'=>
     obtain⟨rfl,rfl⟩:q'=q∧H=H':=by cases h1;exact⟨rfl,rfl⟩
     have hs1:=hs.mono h2 h3
     obtain⟨tm0,tm',h6,h7,h8⟩:=ZkO hs1 h4 h5
     obtain⟨st',φ',tm2,hp2,h9,h10,h11,h12⟩:=Zi0 hT l (i+1) ks2 tm' hp1 k φ1 _ ((i,⟨dst,op,ty,pos,after,none⟩,t0,q')::acc) h8 hg h7 (ha q' φ1 rfl h2)
     refine⟨st',φ',tm2,hp2, ?_,h2.trans h10,h11,h12⟩
     rw[Zqy _ _ _ _ _ _ _ _ _ _ _ _ hi,hl]
     simp only[Zyi]
     rw[show ZeE N dst q' t0=some tm0 from h6]
     exact h9
   split at hw
   ·rename_i t a
    split at hw
    ·rename_i id j r hev
     obtain⟨p,hp1',hp2⟩:=hs.ev _ _ hev
     simp only[RV]at hp2
     obtain⟨place,hpl,rfl⟩:=hp2
     refine light _ (Zjh P H t (Am.ev t0 a)) rfl (ZeH _ _ _ _ _ _ _) (fun q φ1 hq hl x hx=> ?_) hw
     rcases List.mem_cons.1 hx with rfl|hx
     ·rw[show Am.ev t0 a=_ from hp1']at hq
      exact⟨dst,_,ty,pos,after,none,rfl, .inr (.inr (.inr (.inr ⟨t,a,place,j,r,id,rfl,hp1',List.mem_cons_self,hl _ _ hpl,hq⟩)))⟩
     ·exact(hacc.more hl _) x hx
    ·rename_i ct y r hev
     obtain⟨p,hp1',hp2⟩:=hs.ev _ _ hev
     simp only[RV]at hp2
     obtain⟨cs,rfl,_⟩:=hp2
     refine light _ (Zjh P H t (Am.ev t0 a)) rfl (ZeH _ _ _ _ _ _ _) (fun q φ1 hq hl x hx=> ?_) hw
     rcases List.mem_cons.1 hx with rfl|hx
     ·rw[show Am.ev t0 a=_ from hp1']at hq
      exact⟨dst,_,ty,pos,after,none,rfl, .inr (.inr (.inr (.inl ⟨t,a,cs,r,rfl,hp1',hq⟩)))⟩
     ·exact(hacc.mono hl) x hx
    ·cases hw
   ·rename_i y
    refine light _ (Am.ev t0 y) rfl (ZjP _ _ _ _ _ _) (fun q φ1 hq hl x hx=> ?_) hw
    rcases List.mem_cons.1 hx with rfl|hx
    ·exact⟨dst,_,ty,pos,after,none,rfl, .inl fun h E H'=>(ZjP _ _ _ _ _ _).trans hq⟩
    ·exact(hacc.mono hl) x hx
   ·rename_i t y j
    split at hw
    ·rename_i id i2 n2 m2 hev
     obtain⟨p,hp1',hp2⟩:=hs.ev _ _ hev
     simp only[RV]at hp2
     refine light _ (Zbc P H t (Am.ev t0 y) (Am.ev t0 j)) rfl (Zb8 _ _ _ _ _ _ _ _) (fun q φ1 hq hl x hx=> ?_) hw
     rcases List.mem_cons.1 hx with rfl|hx
     ·rw[show Am.ev t0 y=_ from hp1']at hq
      cases hj:Am.ev t0 j with
      |none=>simp[Zbc,hj]at hq
      |some jv=>
       rw[hj]at hq
       have hq:Zan P H t p jv=some q:=hq
       rcases hp2 with⟨place,hpl,rfl⟩|⟨_,rfl,_⟩
       ·exact⟨dst,_,ty,pos,after,none,rfl, .inr (.inr (.inl ⟨t,y,j,place,i2,n2,m2.getD n2,jv,id,rfl,hp1',hj,List.mem_cons_self,hl _ _ hpl,hq⟩))⟩
       ·exfalso
        unfold Zan at hq
        cases jv<;>first
         |(cases hq;done)
         |(cases hu:P.underlying t with
          |none=>simp[hu]at hq
          |some u=>cases u<;>simp[hu]at hq)
     ·exact(hacc.more hl _) x hx
    ·rename_i ct xs hev
     obtain⟨p,hp1',hp2⟩:=hs.ev _ _ hev
     refine light _ (Zbc P H t (Am.ev t0 y) (Am.ev t0 j)) rfl (Zb8 _ _ _ _ _ _ _ _) (fun q φ1 hq hl x hx=> ?_) hw
     rcases List.mem_cons.1 hx with rfl|hx
     ·rw[show Am.ev t0 y=_ from hp1']at hq
      cases hj:Am.ev t0 j with
      |none=>simp[Zbc,hj]at hq
      |some jv=>
       rw[hj]at hq
       have hq:Zan P H t p jv=some q:=hq
       rcases Zhc hp2 with⟨rfl,_⟩|⟨es,rfl,_⟩
       ·exfalso
        unfold Zan at hq
        cases jv<;>first
         |(cases hq;done)
         |(cases hu:P.underlying t with
          |none=>simp[hu]at hq
          |some u=>cases u<;>simp[hu]at hq)
       ·exact⟨dst,_,ty,pos,after,none,rfl, .inr (.inl ⟨t,y,j,es,jv,rfl,hp1',hj,hq⟩)⟩
     ·exact(hacc.mono hl) x hx
    ·cases hw
   ·rename_i bo t y z zt
    refine light _ (Znj P bo t z (Am.ev t0 y) (Am.ev t0 z)) rfl (Zco _) (fun q φ1 hq hl x hx=> ?_) hw
    rcases List.mem_cons.1 hx with rfl|hx
    ·exact⟨dst,_,ty,pos,after,none,rfl, .inl fun h E H'=>(Zco _).trans hq⟩
    ·exact(hacc.mono hl) x hx
   ·rename_i t y lo hi mx
    split at hw
    ·rename_i ct xs hev
     obtain⟨p,hp1',hp2⟩:=hs.ev _ _ hev
     have hq0: ∀H',Zb3 P H' (Am.ev t0) t y lo hi mx=Zb3 P H (Am.ev t0) t y lo hi mx:=fun H'=>by
      unfold Zb3
      rw[show Am.ev t0 y=_ from hp1']
      have hs0: ∀ (H1 H2:List Mem) l k m,Zbz P H1 t p l k m=Zbz P H2 t p l k m:=fun H1 H2 l k m=>by
       rcases Zhc hp2 with⟨rfl,_⟩|⟨es,rfl,_⟩<;>(unfold Zbz;cases P.underlying t with
        |none=>rfl
        |some u=>cases u<;>rfl)
      simp only[Option.bind_some,hs0 H' H]
     refine light _ (Zb3 P H (Am.ev t0) t y lo hi mx) rfl (Zco _) (fun q φ1 hq hl x hx=> ?_) hw
     rcases List.mem_cons.1 hx with rfl|hx
     ·exact⟨dst,_,ty,pos,after,none,rfl, .inl fun h E H'=>(Zco _).trans ((hq0 H').trans hq)⟩
     ·exact(hacc.mono hl) x hx
    ·cases hw
   ·rename_i c
    split at hw
    ·rename_i hq
     obtain⟨r,h1,h2,h3⟩:=ZsA (P:=P) (H:=H) hs.ev hq
     refine light _ (r H) (h1 _ _ _) (h2 _ _ _ _ _ _ _) (fun q φ1 hq' hl x hx=> ?_) hw
     rcases List.mem_cons.1 hx with rfl|hx
     ·exact⟨dst,_,ty,pos,after,none,rfl, .inl fun h' E H'=>(h2 h' E H' _ _ _ _).trans hq'⟩
     ·exact(hacc.mono hl) x hx
    ·cases hw
   ·cases hw
  ·rename_i hi
   have hacc:=hacc.drop (h:=h) (o:=⟨dst,op,ty,pos,after,none⟩)
   have step: ∀ (ks2:List (Nat×Nat×Bool)) (kk:SV→List SM→Prop),opT P h T op tm hp kk→(∀V hp1,kk V hp1→ZdI N dst V tm fun tm'=>Za1 P h T N ls l (i+1) ks2 tm' hp1 k)→(∀ (q:PV) (H':List Mem) (φ1:Ph) (V:SV) (hp1:List SM),opE P h (lim P h) H (Am.ev t0) op=some (q,H')→Le φ φ1→RH φ1 hp1 (fun a=>H'[a]?)→kk V hp1→Accs P φ1 ks2 H' (ZbV h ⟨dst,op,ty,pos,after,none⟩ acc))→
    ∃st' φ' tm' hp',Zm6 P h (lim P h) N ls (⟨dst,op,ty,pos,after,none⟩::l) i acc ⟨t0,H⟩=some st'∧Le φ φ'∧SRep φ' tm' hp' st'∧k tm' hp':=by
    intro ks2 kk ho hkk ha
    obtain⟨q,H',φ1,V,hp1,h1,h2,h3,h4,h5⟩:=Zrr hT hs.hp hs.ev ho
    have ha:=ha q H' φ1 V hp1 h1 h2 h3 h5
    have hs1:=hs.mono h2 h3
    obtain⟨tm0,tm',h6,h7,h8⟩:=ZkO hs1 h4 (hkk _ _ h5)
    obtain⟨st',φ',tm2,hp2,h9,h10,h11,h12⟩:=Zi0 hT l (i+1) ks2 tm' hp1 k φ1 _ (ZbV h ⟨dst,op,ty,pos,after,none⟩ acc) h8 hg h7 ha
    refine⟨st',φ',tm2,hp2, ?_,h2.trans h10,h11,h12⟩
    rw[ZpZ _ _ _ _ _ _ _ _ _ _ _ _ hi,h1]
    simp only[ZvZ]
    rw[show ZeE N dst q t0=some tm0 from h6]
    simp only[Option.bind_some,Zoi ha,Zx2]
    exact h9
   split at hw
   ·rename_i hd
    rw[hd]at hacc
    exact step [] _ hw (fun _ _ h=>h) fun q H' φ1 V hp1 h1 h2 _ _=>hacc.keep h2 (fun _ _ _ hm=>absurd hm List.not_mem_nil) (fun _ _ _ hm=>absurd hm List.not_mem_nil)
   ·rename_i y ks' hd
    rw[hd]at hacc
    split at hw
    ·rename_i hq
     refine step (y::ks') _ hw (fun _ _ h=>h) fun q H' φ1 V hp1 h1 h2 _ _=> ?_
     have hk:=Zm4 hq h1
     exact hacc.keep h2 (fun _ _ place _ _=>hk.z place) (fun _ _ _ _ _ _ _ _ _ hv=>hk.load hv)
    ·rename_i hq
     split at hw
     ·rename_i hl
      refine step (y::ks') _ hw (fun V hp1 h=>by unfold Zwj at h;split at h<;>first|exact h|cases h) fun q H' φ1 V hp1 h1 h2 h3 h4=> ?_
      unfold Zwj at h4
      split at h4
      ·rename_i hwid
       refine hacc.keep h2 (fun j id place hm hpl es z m hrow=> ?_) (fun j id place hm=> ?_)
       ·obtain⟨sm,sm',z',e1,e2,e3,e4⟩:=ZlU hwid hm
        obtain⟨es1,m1,g1⟩:=Zpc (hs.hp.row _ _ _ e1 hpl) e3
        obtain⟨es2,m2,g2⟩:=Zpc (h3.row _ _ _ e2 (h2 _ _ hpl)) e4
        have g1:H[place]? =_:=g1
        rw[hrow]at g1
        cases g1
        exact⟨es2,m2,g2⟩
       ·have:=ZeY hm
        rw[hl]at this
        cases this
      ·cases h4
     ·rename_i id0 ids hl
      split at hw
      ·rename_i t a x
       split at hw
       ·rename_i id' j r hev
        split at hw
        ·rename_i hb
         simp only[Bool.and_eq_true,Bool.not_eq_true']at hb
         obtain⟨⟨hl1,hl2⟩,hne⟩:=hb
         refine step (y::ks') _ hw (fun _ _ h=>h) fun q H' φ1 V hp1 h1 h2 _ _=> ?_
         obtain⟨p,hp1',hp2⟩:=hs.ev _ _ hev
         simp only[RV]at hp2
         obtain⟨place',hpl',rfl⟩:=hp2
         have h1':Zef P H t (Am.ev t0 a) (Am.ev t0 x)=some (q,H'):=h1
         rw[show Am.ev t0 a=_ from hp1']at h1'
         simp only[Zef,Option.bind_some]at h1'
         cases hx:(Am.ev t0 x).bind ZhE with
         |none=>simp[hx]at h1'
         |some v=>
          simp only[hx,Option.bind_some]at h1'
          cases hst:Zct P H t (.ptr place' j r) v with
          |none=>simp[hst]at h1'
          |some H2=>
           simp only[hst,Option.map_some,Option.some.injEq,Prod.mk.injEq]at h1'
           obtain⟨rfl,rfl⟩:=h1'
           refine hacc.keep h2 (fun _ _ place _ _ es z m hrow=>Ztm hst hrow) (fun _ id pl hm hpl t2 j2 r2 w hw=> ?_)
           have hid:=ZeY hm
           rw[hl]at hid
           have hnp:pl≠place':=by
            rintro rfl
            obtain⟨m1,g1,g2⟩:=ZdS hl1
            obtain⟨m2,g3,g4⟩:=ZdS (Zgv hl2 hid)
            exact hs.hp.inj id' id m1 m2 pl (ZkU hne hid) g1 g3 g2 g4 hpl' hpl
           rw[←hw]
           simp only[Zbt,Zhn hst hnp]
        ·cases hw
       ·cases hw
      ·rename_i c
       split at hw
       ·rename_i hdq
        refine step (y::ks') _ hw (fun _ _ h=>h) fun q H' φ1 V hp1 h1 h2 _ _=> ?_
        have hk:=Zss hs.ev hdq h1
        exact hacc.keep h2 (fun _ _ place _ _=>hk.z place) (fun _ _ _ _ _ _ _ _ _ hv=>hk.load hv)
       ·split at hw
        ·rename_i hap
         refine step (y::ks') _ hw (fun _ _ h=>h) fun q H' φ1 V hp1 h1 h2 _ _=> ?_
         have hk:=Zl2 (φ:=φ) hs.ev hap h1
         exact hacc.keep h2 (fun _ _ place _ _ es z m hm=>by obtain⟨m',h3⟩:=hk place (by rintro _ ⟨⟩) es z m hm;exact⟨es,m',h3⟩) (fun _ _ place _ _ t j r v hv=>Zln (hk place (by rintro _ ⟨⟩)) hv)
        ·rename_i id' hap
         split at hw
         ·rename_i hb
          simp only[Bool.and_eq_true,Bool.not_eq_true']at hb
          obtain⟨⟨hl1,hl2⟩,hne⟩:=hb
          refine step (y::ks') _ hw (fun _ _ h=>h) fun q H' φ1 V hp1 h1 h2 _ _=> ?_
          have hk:=Zl2 (φ:=φ) hs.ev hap h1
          have hnp: ∀ (n id place:Nat) (bb:Bool),(n,id,bb)∈y::ks'→φ[id]? =some (some place)→ ∀i2,some i2=some id'→φ[i2]?≠some (some place):=by
           rintro n id place bb hm hpl _ ⟨⟩ hpl'
           have hid:=Zn5 hm
           obtain⟨m1,g1,g2⟩:=ZdS hl1
           obtain⟨m2,g3,g4⟩:=ZdS (Zgv hl2 hid)
           exact hs.hp.inj id' id m1 m2 place (ZkU hne hid) g1 g3 g2 g4 hpl' hpl
          refine hacc.keep h2 (fun n id place hm hpl es z m hrow=> ?_) (fun n id place hm hpl t j r v hv=> ?_)
          ·obtain⟨m',h3⟩:=hk place (hnp _ _ _ _ hm hpl) es z m hrow
           exact⟨es,m',h3⟩
          ·exact Zln (hk place (hnp _ _ _ _ hm hpl)) hv
         ·cases hw
        ·cases hw
      ·cases hw
theorem Zst: ∀l:List Oper,Zxz l=l.map (·.dst)
 | []=>rfl
 |o::r=>by simp only[Zxz,Zst r,List.map_cons]
theorem Fr.len {φ φ':Ph} (h:Fr F φ φ') (hF:F≤φ.length):F≤φ'.length:=by
 cases F with
 |zero=>exact Nat.zero_le _
 |succ n=>
  have h1:=h n (by omega)
  rw[List.getElem?_eq_getElem (show n<φ.length by omega)]at h1
  exact(List.getElem?_eq_some_iff.1 h1).1
theorem Zmc (hT:TysOK P T) (c:Cx): ∀ (code:Code) (tm:TM) (hp:List SM) (k:Ex→TM→List SM→Prop) (φ:Ph) (st:St),wp P h T F c code tm hp k→F≤φ.length→SRep φ tm hp st→
 ∃e st' φ' tm' hp',exS P h (lim P h) c code st=some (e,st')∧Fr F φ φ'∧SRep φ' tm' hp' st'∧k e tm' hp'
 | .skip,tm,hp,k,φ,st,hw,_,hs=>⟨.normal,st,φ,tm,hp,rfl,Fr.refl F φ,hs,hw⟩
 | .label _,tm,hp,k,φ,st,hw,_,hs=>⟨.normal,st,φ,tm,hp,rfl,Fr.refl F φ,hs,hw⟩
 | .exit id,tm,hp,k,φ,st,hw,_,hs=>⟨.exit id,st,φ,tm,hp,rfl,Fr.refl F φ,hs,hw⟩
 | .ret,tm,hp,k,φ,st,hw,_,hs=>⟨.ret,st,φ,tm,hp,rfl,Fr.refl F φ,hs,hw⟩
 | .loop b,tm,hp,k,φ,st,hw,hF,hs=>by
  obtain⟨e,st',φ',tm',hp',h1,h2,h3,h4⟩:=LoopOK.out hw φ st hF hs
  exact⟨e,st',φ',tm',hp',h1,h2,h3,h4⟩
 | .region id ops d,tm,hp,k,φ,st,hw,hF,hs=>by
  have key: ∀os:Array Oper,wpR P h T c.N (h.light c.fid id) os tm hp (fun tm' hp'=>k .normal tm' hp')→rgo (h.perm c.fid id) ops=os→ ∃e st' φ' tm' hp',exS P h (lim P h) c (.region id ops d) st=some (e,st')∧Fr F φ φ'∧SRep φ' tm' hp' st'∧k e tm' hp':=by
   intro os hw ho
   unfold wpR at hw
   split at hw
   ·rename_i hl
    obtain⟨st',φ',tm',hp',h1,h2,h3,h4⟩:=Zkx hT _ _ _ _ _ _ hw hs
    refine⟨.normal,st',φ',tm',hp', ?_,h2.fr hF,h3,h4⟩
    simp only[exS,hl,ho,ZtL]
    rw[Zst]at h1
    rw[h1];rfl
   ·rename_i j ls hl
    split at hw
    ·rename_i hg
     obtain⟨st',φ',tm',hp',h1,h2,h3,h4⟩:=Zi0 hT _ _ _ _ _ _ _ _ [] hw hg hs (fun x hx=>by cases hx)
     refine⟨.normal,st',φ',tm',hp', ?_,h2.fr hF,h3,h4⟩
     rw[Zt1,hl,ho,ZrE _ _ _ _ _ hg,h1];rfl
    ·cases hw
  simp only[wp]at hw
  split at hw
  ·rename_i hp;exact key _ hw (by rw[hp];rfl)
  ·rename_i hp;exact key _ hw (by rw[hp])
 | .seq a b,tm,hp,k,φ,st,hw,hF,hs=>by
  obtain⟨e,st1,φ1,tm1,hp1,h1,h2,h3,h4⟩:=Zmc hT c a _ _ _ φ st hw hF hs
  cases e with
  |normal=>
   obtain⟨e,st',φ',tm',hp',g1,g2,g3,g4⟩:=Zmc hT c b _ _ _ φ1 st1 h4 (h2.len hF) h3
   exact⟨e,st',φ',tm',hp',by simp only[exS,h1,Option.bind_some,Zim,g1],h2.trans g2,g3,g4⟩
  |exit j=>exact⟨_,st1,φ1,tm1,hp1,by simp only[exS,h1,Option.bind_some,Zim],h2,h3,h4⟩
  |ret=>exact⟨_,st1,φ1,tm1,hp1,by simp only[exS,h1,Option.bind_some,Zim],h2,h3,h4⟩
 | .cond x a b,tm,hp,k,φ,st,hw,hF,hs=>by
  simp only[wp]at hw
  split at hw
  ·rename_i t ht
   obtain⟨q,h1,h2⟩:=hs.ev _ _ ht
   rw[Zfw h2]at h1
   cases t with
   |true=>
    obtain⟨e,st',φ',tm',hp',g1,g2,g3,g4⟩:=Zmc hT c a _ _ _ φ st (hw.1 rfl) hF hs
    exact⟨e,st',φ',tm',hp',by simp only[exS,h1,Option.bind_some,ZnF,g1],g2,g3,g4⟩
   |false=>
    obtain⟨e,st',φ',tm',hp',g1,g2,g3,g4⟩:=Zmc hT c b _ _ _ φ st (hw.2 rfl) hF hs
    exact⟨e,st',φ',tm',hp',by simp only[exS,h1,Option.bind_some,ZnF,g1],g2,g3,g4⟩
  ·cases hw
 | .block id b,tm,hp,k,φ,st,hw,hF,hs=>by
  simp only[wp]at hw
  split at hw
  ·rename_i hk
   obtain⟨e,st1,φ1,tm1,hp1,h1,h2,h3,h4⟩:=Zmc hT c b _ _ _ φ st hw hF hs
   cases e with
   |normal=>exact⟨.normal,st1,φ1,tm1,hp1,by simp only[exS,h1,Option.bind_some,Zgj,hk,Ze6,Option.map_some],h2,h3,h4⟩
   |exit j=>
    simp only[Zvg]at h4
    split at h4
    ·rename_i hj
     have hj:=Nat.eq_of_beq_eq_true hj
     exact⟨.normal,st1,φ1,tm1,hp1,by simp only[exS,h1,Option.bind_some,Zgj,hk,Ze6,Option.map_some,if_pos hj],h2,h3,h4⟩
    ·rename_i hj
     have hj:j≠id:=fun e=>by subst e;simp at hj
     exact⟨.exit j,st1,φ1,tm1,hp1,by simp only[exS,h1,Option.bind_some,Zgj,if_neg hj],h2,h3,h4⟩
   |ret=>exact⟨.ret,st1,φ1,tm1,hp1,by simp only[exS,h1,Option.bind_some,Zgj],h2,h3,h4⟩
  ·cases hw
 | .goto _,_,_,_,_,_,hw,_,_| .refuse _,_,_,_,_,_,hw,_,_| .rangeFunc _ _ _ _,_,_,_,_,_,hw,_,_| .scope _,_,_,_,_,_,hw,_,_=>hw.elim
theorem Zn1: ∀ {t t':CT} {l:List t.D} {l':List t'.D},Zxj t t' l l'→t=t'∧HEq l l':=by
 intro t t' l l' hs
 unfold Zxj at hs
 split at hs
 ·split at hs
  ·rename_i hk
   have:=Zfa hk
   subst this
   subst hs
   exact⟨rfl,HEq.rfl⟩
  ·cases hs
 ·subst hs;exact⟨rfl,HEq.rfl⟩
 ·subst hs;exact⟨rfl,HEq.rfl⟩
 ·split at hs
  ·rename_i hc
   have:=Ziu hc
   subst this
   subst hs
   exact⟨rfl,HEq.rfl⟩
  ·cases hs
def Zjc (φ:Ph):List Im→Ph
 | []=> []
 | .is i::r=>(match φ[i]? with|some o=>o|none=>none)::Zjc φ r
 | .nil::r=>none::Zjc φ r
theorem Zld (φ:Ph): ∀σ:List Im,(Zjc φ σ).length=σ.length
 | []=>rfl
 | .is i::r=>by simp only[Zjc,List.length_cons,Zld φ r]
 | .nil::r=>by simp only[Zjc,List.length_cons,Zld φ r]
theorem Zeo (φ:Ph): ∀ (σ:List Im) (j i:Nat) (o:Option Nat),nth σ j=some (.is i)→φ[i]? =some o→(Zjc φ σ)[j]? =some o
 | .is i'::r,0,i,o,h,ho=>by
  simp only[nth,Option.some.injEq,Im.is.injEq]at h
  subst h
  simp[Zjc,ho]
 | .nil::r,0,i,o,h,ho=>by simp[nth]at h
 | .is i'::r,j+1,i,o,h,ho=>by simpa[Zjc]using Zeo φ r j i o h ho
 | .nil::r,j+1,i,o,h,ho=>by simpa[Zjc]using Zeo φ r j i o h ho
theorem ZhJ (φ:Ph): ∀ (σ:List Im) (j:Nat),nth σ j=some .nil→(Zjc φ σ)[j]? =some none
 | .nil::r,0,h=>by simp[Zjc]
 | .is i'::r,0,h=>by simp[nth]at h
 | .is i'::r,j+1,h=>by simpa[Zjc]using ZhJ φ r j h
 | .nil::r,j+1,h=>by simpa[Zjc]using ZhJ φ r j h
theorem ZsX {σ:List Im} (hl:φ.length=hp.length): ∀ {V V':SV} {q:PV},ZyF σ V V'→RV φ V q→RV (Zjc φ σ) V' q:=by
 intro V V' q hs hr
 unfold ZyF at hs
 split at hs
 ·split at hs
  ·rename_i hk
   have:=Zfa hk
   subst this
   subst hs
   simpa only[RV]using hr
  ·cases hs
 ·subst hs;simpa only[RV]using hr
 ·subst hs;simpa only[RV]using hr
 ·subst hs;simpa only[RV]using hr
 ·obtain⟨rfl,h2⟩:=Zn1 hs
  have h2:=eq_of_heq h2
  subst h2
  simpa only[RV]using hr
 ·simp only[RV]at hr
  subst hr
  subst hs
  show RR _ _ _
  exact .inl ⟨rfl,rfl⟩
 ·simpa only[RV]using hr
 ·simpa only[RV]using hr
 ·simpa only[RV]using hr
 ·simpa only[RV]using hr
 ·simp only[RV]at hr
  subst hr
  split at hs
  ·rename_i hn
   simp only[RV]
   exact .inr ⟨ZhJ φ σ _ hn,trivial,hs⟩
  ·cases hs
 ·split at hs
  ·rename_i d hn
   split at hs
   ·rename_i hd
    have hd:=Nat.eq_of_beq_eq_true hd
    subst hd
    obtain⟨rfl,rfl,hm⟩:=hs
    simp only[RV]at hr⊢
    rcases hr with⟨a,h1,h2⟩|⟨h1,h2,h3,h4,h5⟩
    ·exact .inl ⟨a,Zeo φ σ _ _ _ hn h1,by rw[hm];exact h2⟩
    ·exact .inr ⟨Zeo φ σ _ _ _ hn h1,h2,h3,h4,by rw[hm];exact h5⟩
   ·cases hs
  ·cases hs
 ·split at hs
  ·rename_i d hn
   split at hs
   ·rename_i hd
    have hd:=Nat.eq_of_beq_eq_true hd
    subst hd
    obtain⟨rfl,rfl⟩:=hs
    simp only[RV]at hr⊢
    obtain⟨a,h1,h2⟩:=hr
    exact⟨a,Zeo φ σ _ _ _ hn h1,h2⟩
   ·cases hs
  ·cases hs
 ·obtain⟨h1,rfl⟩:=hs
  obtain⟨rfl,h2⟩:=Zn1 h1
  have h2:=eq_of_heq h2
  cases h2
  simpa only[RV]using hr
 ·cases hs
theorem ZeO {σ:List Im} (hl:φ.length=hp.length): ∀ {l l':List SV} {qs:List PV},Zn0 σ l l'→RL φ l qs→RL (Zjc φ σ) l' qs
 | [],[],qs,_,hr=>by simpa only[RL]using hr
 |a::l,b::r,qs,hs,hr=>by
  simp only[RL]at hr⊢
  obtain⟨q,r',rfl,h1,h2⟩:=hr
  exact⟨q,r',rfl,ZsX hl hs.1 h1,ZeO hl hs.2 h2⟩
theorem Zv8 {σ:List Im} (hl:φ.length=hp.length) {V V':SV} {q:PV} (hs:ZyG σ V V') (hr:RV φ V q):RV (Zjc φ σ) V' q:=by
 unfold ZyG at hs
 split at hs
 ·obtain⟨rfl,h1,h2⟩:=hs
  simp only[RV]at hr⊢
  obtain⟨a,c,rfl,h3,h4⟩:=hr
  exact⟨a,c,rfl,ZeO hl h1 h3,ZeO hl h2 h4⟩
 ·simp only[RV]at hr⊢
  obtain⟨a,rfl,h3⟩:=hr
  exact⟨a,rfl,ZeO hl hs h3⟩
 ·simp only[RV]at hr⊢
  obtain⟨a,rfl,h3⟩:=hr
  exact⟨a,rfl,ZeO hl hs h3⟩
 ·exact ZsX hl hs hr
theorem Zkl: ∀ {σ:List Im} {j j' i:Nat},Zhb σ=true→j≠j'→nth σ j=some (.is i)→nth σ j'=some (.is i)→False
 | .nil::r,0,_,_,_,_,h1,_=>by simp[nth]at h1
 | .nil::r,_,0,_,_,_,_,h2=>by simp[nth]at h2
 | .nil::r,j+1,j'+1,i,ha,hne,h1,h2=>Zkl (σ:=r) ha (by omega) h1 h2
 | .is x::r,0,0,_,_,hne,_,_=>hne rfl
 | .is x::r,0,j'+1,i,ha,_,h1,h2=>by
  simp only[Zhb,Bool.and_eq_true,List.all_eq_true]at ha
  simp only[nth,Option.some.injEq,Im.is.injEq]at h1
  subst h1
  have:nth r j'=some (.is x):=h2
  rw[Za5]at this
  have:=ha.1 _ (List.mem_of_getElem? this)
  simp at this
 | .is x::r,j+1,0,i,ha,_,h1,h2=>by
  simp only[Zhb,Bool.and_eq_true,List.all_eq_true]at ha
  simp only[nth,Option.some.injEq,Im.is.injEq]at h2
  subst h2
  have:nth r j=some (.is x):=h1
  rw[Za5]at this
  have:=ha.1 _ (List.mem_of_getElem? this)
  simp at this
 | .is x::r,j+1,j'+1,i,ha,hne,h1,h2=>by
  simp only[Zhb,Bool.and_eq_true]at ha
  exact Zkl (σ:=r) ha.2 (by omega) h1 h2
theorem Zod {σ:List Im}: ∀ {ss:List Im} {ms:List SM} {j:Nat} {m:SM},Zug σ hp ss ms→ms[j]? =some m→ ∃s,nth ss j=some s∧Zy0 σ hp s m
 |_,[],j,m,_,h=>by simp at h
 | [],_::_,_,_,hs,_=>hs.elim
 |s::ss,m'::ms,0,m,hs,h=>by
  simp at h
  subst h
  exact⟨s,rfl,hs.1⟩
 |s::ss,m'::ms,j+1,m,hs,h=>Zod (ss:=ss) hs.2 (by simpa using h)
theorem RH.view {L:Nat→Option Mem} (hh:RH φ hp L) {σ:List Im} {hp':List SM} (hlen:σ.length=hp'.length) (ha:Zhb σ=true) (hs:Zug σ hp σ hp'):RH (Zjc φ σ) hp' L:=by
 have ph: ∀ {i:Nat} {m:SM},nth hp i=some m→ ∃o,φ[i]? =some o∧RM φ L o m:=fun h=>hh.ph h
 have at_: ∀ {j:Nat} {m:SM} {o:Option Nat},hp'[j]? =some m→(Zjc φ σ)[j]? =some o→RM (Zjc φ σ) L o m∧(∀a,o=some a→live m=true→ ∃i m0,nth σ j=some (.is i)∧nth hp i=some m0∧live m0=true∧φ[i]? =some (some a)):=by
  intro j m o hm ho
  obtain⟨s,h1,h2⟩:=Zod hs hm
  unfold Zy0 at h2
  split at h2
  ·rename_i id t' l' m'
   split at h2
   ·rename_i t l m0 hrow
    obtain⟨o',h3,h4⟩:=ph hrow
    have h5:=Zeo φ σ _ _ _ h1 h3
    rw[h5]at ho;cases ho
    obtain⟨h6,h7⟩:=h2
    obtain⟨rfl,h8⟩:=Zn1 h6
    have h8:=eq_of_heq h8
    subst h8
    refine⟨?_,fun a ha _=>⟨_,_,h1,hrow,rfl,by rw[h3,ha]⟩⟩
    simp only[RM]at h4⊢
    cases o with
    |none=>exact h4
    |some a=>
     obtain⟨es,m1,g1,g2,g3⟩:=h4
     exact⟨es,m1,g1,g2,fun h=>g3 (h7 h)⟩
   ·cases h2
  ·have h5:=ZhJ φ σ _ h1
   rw[h5]at ho;cases ho
   exact⟨by simp only[RM];exact h2,fun a ha=>by cases ha⟩
  ·split at h2
   ·rename_i cs m0 hrow
    obtain⟨o',h3,h4⟩:=ph hrow
    have h5:=Zeo φ σ _ _ _ h1 h3
    rw[h5]at ho;cases ho
    refine⟨?_,fun a ha _=>⟨_,_,h1,hrow,rfl,by rw[h3,ha]⟩⟩
    simp only[RM]at h4⊢
    obtain⟨a,cs',m1,g0,g1,g2,g3⟩:=h4
    exact⟨a,cs',m1,g0,g1,ZeO hh.len h2.1 g2,fun h=>g3 (h2.2 h)⟩
   ·cases h2
  ·exact⟨trivial,fun a _ hl=>by cases hl⟩
  ·cases h2
 refine⟨by rw[Zld,hlen],fun j m o hm ho=>(at_ hm ho).1, ?_⟩
 intro j j' m m' a hne hm hm' hl hl' ho ho'
 obtain⟨i,m0,h1,h2,h3,h4⟩:=(at_ hm ho).2 a rfl hl
 obtain⟨i',m0',h1',h2',h3',h4'⟩:=(at_ hm' ho').2 a rfl hl'
 by_cases hi:i=i'
 ·subst hi
  exact Zkl ha hne h1 h1'
 ·rw[Za5]at h2 h2'
  exact hh.inj _ _ _ _ _ hi h2 h2' h3 h3' h4 h4'
theorem Zo2 (tm tm':TM) (hp hp':List SM): ∀ (j:Nat) (l:List SM),(ZyJ tm tm' hp hp' j l).length=l.length
 |_,[]=>rfl
 |j,_::r=>by simp only[ZyJ,List.length_cons,Zo2 tm tm' hp hp' (j+1) r]
theorem Zlr: ∀ {F:Nat} {σ:List Im} {j:Nat},ZoD F σ=true→j<F→nth σ j=some (.is j)
 |F+1,σ,j,h,hj=>by
  simp only[ZoD]at h
  split at h
  ·rename_i i hi
   simp only[Bool.and_eq_true]at h
   by_cases e:j=F
   ·subst e
    rw[hi,Nat.eq_of_beq_eq_true h.1]
   ·exact Zlr h.2 (by omega)
  ·cases h
theorem ZaC {tm':TM} {hp':List SM} {σ:List Im} (hσ:ZyJ tm tm' hp hp' 0 hp'=σ) (h0:(Zhb σ&&ZoD F σ)=true) (h1:ZtX σ tm tm') (h2:Zug σ hp σ hp'):Ent F tm hp tm' hp':=by
 refine⟨fun φ st hF hs=>⟨Zjc φ σ, ?_, ?_, ?_⟩⟩
 ·simp only[Bool.and_eq_true]at h0
  intro j hj
  have h3:φ[j]? =some φ[j]:=List.getElem?_eq_getElem (by omega)
  rw[h3]
  exact Zeo φ σ j j _ (Zlr h0.2 hj) h3
 ·intro i V' hV'
  have: ∀ (l:TM),ZtX σ tm l→ZcR i l=some V'→ ∃V,ZcR i tm=some V∧ZyG σ V V':=by
   intro l
   induction l with
   |nil=>intro _ h;cases h
   |cons x r ih=>
    obtain⟨j,W⟩:=x
    intro h3 h4
    simp only[ZtX]at h3
    rw[Zem]at h4
    split at h3
    ·rename_i V hV
     cases hb:Nat.beq i j with
     |true=>
      rw[hb]at h4
      cases h4
      have:=Nat.eq_of_beq_eq_true hb
      subst this
      exact⟨V,hV,h3.1⟩
     |false=>
      rw[hb]at h4
      exact ih h3.2 h4
    ·cases h3
  obtain⟨V,hV,hsub⟩:=this tm' h1 hV'
  obtain⟨q,h3,h4⟩:=hs.tm i V hV
  exact⟨q,h3,Zv8 hs.hp.len hsub h4⟩
 ·simp only[Bool.and_eq_true]at h0
  exact hs.hp.view (by rw[←hσ,Zo2]) h0.1 h2
theorem ZaU:Ent F tm hp tm hp:=⟨fun φ _ _ hs=>⟨φ,Fr.refl F φ,hs⟩⟩
def ZvF {σ:Type} (F:Nat) (ctm:σ→TM) (chp:σ→List SM) (Inv:σ→Prop) (meas:σ→Nat) (a:σ) (k:Ex→TM→List SM→Prop):Ex→TM→List SM→Prop
 | .normal,tm,hp=> ∃a',Inv a'∧meas a'<meas a∧Ent F tm hp (ctm a') (chp a')
 |e,tm,hp=>k e tm hp
theorem Zaz {σ:Type} (hT:TysOK P T) {c:Cx} {b:Code} {k:Ex→TM→List SM→Prop} (hk:h.keep c.fid (ZdT b)=none) (ctm:σ→TM) (chp:σ→List SM) (Inv:σ→Prop) (meas:σ→Nat)
 (round: ∀a,Inv a→wp P h T F c b (ctm a) (chp a) (ZvF F ctm chp Inv meas a k)) (a:σ) (hi:Inv a) (he:Ent F tm hp (ctm a) (chp a)):LoopOK P h F c b tm hp k:=by
 have main: ∀ (n:Nat) (a:σ),meas a=n→Inv a→ ∀φ st,F≤φ.length→SRep φ (ctm a) (chp a) st→ ∃e st' φ' tm' hp',(lim P h).ex c (.loop b) st=some (e,st')∧Fr F φ φ'∧SRep φ' tm' hp' st'∧k e tm' hp':=by
  intro n
  induction n using Nat.strongRecOn with
  |_ n ih=>
   intro a hm hi φ st hF hs
   obtain⟨e,st1,φ1,tm1,hp1,h1,h2,h3,h4⟩:=Zmc hT c b _ _ _ φ st (round a hi) hF hs
   have hr:Zjo P h (lim P h) c b st=some (e,st1):=by unfold Zjo;rw[hk];exact h1
   cases e with
   |normal=>
    obtain⟨a',g1,g2,g3⟩:=h4
    obtain⟨φ2,g4,g5⟩:=g3.out φ1 st1 (h2.len hF) h3
    obtain⟨e,st',φ',tm',hp',f1,f2,f3,f4⟩:=ih (meas a') (by omega) a' rfl g1 φ2 st1 (g4.len (h2.len hF)) g5
    exact⟨e,st',φ',tm',hp',Zsv hr f1,(h2.trans g4).trans f2,f3,f4⟩
   |exit j=>exact⟨_,st1,φ1,tm1,hp1,ZlX (by simp) hr,h2,h3,h4⟩
   |ret=>exact⟨_,st1,φ1,tm1,hp1,ZlX (by simp) hr,h2,h3,h4⟩
 refine⟨fun φ st hF hs=> ?_⟩
 obtain⟨φ1,h1,h2⟩:=he.out φ st hF hs
 obtain⟨e,st',φ',tm',hp',f1,f2,f3,f4⟩:=main _ a rfl hi φ1 st (h1.len hF) h2
 exact⟨e,st',φ',tm',hp',f1,h1.trans f2,f3,f4⟩
theorem LoopOK.mono {c:Cx} {b:Code} {k k':Ex→TM→List SM→Prop} (hl:LoopOK P h F c b tm hp k) (hk: ∀e tm hp,k e tm hp→k' e tm hp):LoopOK P h F c b tm hp k':=
 ⟨fun φ st hF hs=>by
  obtain⟨e,st',φ',tm',hp',f1,f2,f3,f4⟩:=hl.out φ st hF hs
  exact⟨e,st',φ',tm',hp',f1,f2,f3,hk _ _ _ f4⟩⟩
theorem LoopOK.ent {c:Cx} {b:Code} {k:Ex→TM→List SM→Prop} {tm':TM} {hp':List SM} (hl:LoopOK P h F c b tm' hp' k) (he:Ent F tm hp tm' hp'):LoopOK P h F c b tm hp k:=
 ⟨fun φ st hF hs=>by
  obtain⟨φ1,h1,h2⟩:=he.out φ st hF hs
  obtain⟨e,st',φ',tm',hp',f1,f2,f3,f4⟩:=hl.out φ1 st (h1.len hF) h2
  exact⟨e,st',φ',tm',hp',f1,h1.trans f2,f3,f4⟩⟩
theorem LoopOK.through {c:Cx} {b:Code} {k k':Ex→TM→List SM→Prop} (hl:LoopOK P h F c b tm hp k) (hk: ∀e tm hp,k e tm hp→ ∃tm' hp',Ent F tm hp tm' hp'∧k' e tm' hp'):LoopOK P h F c b tm hp k':=
 ⟨fun φ st hF hs=>by
  obtain⟨e,st',φ',tm',hp',f1,f2,f3,f4⟩:=hl.out φ st hF hs
  obtain⟨tm2,hp2,g1,g2⟩:=hk _ _ _ f4
  obtain⟨φ2,g3,g4⟩:=g1.out φ' st' (f2.len hF) f3
  exact⟨e,st',φ2,tm2,hp2,f1,f2.trans g3,g4,g2⟩⟩
theorem PureOK.mono {f:FuncId} {Vs:List SV} {Q Q':SV→Prop} (hp:PureOK P h f Vs Q) (hq: ∀V,Q V→Q' V):PureOK P h f Vs Q':=
 ⟨fun qs hr=>by obtain⟨q,V,h1,h2,h3⟩:=hp.out qs hr;exact⟨q,V,h1,h2,hq V h3⟩⟩
def AsV (V V':SV):Prop:= ∀φ q,RV φ V q→RV φ V' q
theorem PureOK.as {f:FuncId} {Vs:List SV} {Q Q':SV→Prop} (hp:PureOK P h f Vs Q) (hq: ∀V,Q V→ ∃V',AsV V V'∧Q' V'):PureOK P h f Vs Q':=
 ⟨fun qs hr=>by
  obtain⟨q,V,h1,h2,h3⟩:=hp.out qs hr
  obtain⟨V',h4,h5⟩:=hq V h3
  exact⟨q,V',h1,h4 _ _ h2,h5⟩⟩
theorem AsV.refl (V:SV):AsV V V:=fun _ _ h=>h
theorem AsV.nil (e:CT):AsV .nils (.v (.l e) ([]:List e.D)):=fun φ q h=>by
 simp only[RV]at h
 subst h
 show RR _ _ _
 exact .inl ⟨rfl,rfl⟩
theorem AsV.tup2 {a b a' b':SV} (h1:AsV a a') (h2:AsV b b'):AsV (.tup [a,b]) (.tup [a',b']):=fun φ q h=>by
 simp only[RV,RL]at h⊢
 obtain⟨_,rfl,_,_,rfl,h3,_,_,rfl,h4,rfl⟩:=h
 exact⟨_,rfl,_,_,rfl,h1 _ _ h3,_,_,rfl,h2 _ _ h4,rfl⟩
theorem ImpOK.mono {f:FuncId} {Vs:List SV} {Q Q':SV→List SM→Bool→Prop} (hp:ImpOK P h f Vs Q) (hq: ∀V hn sf,Q V hn sf→Q' V hn sf):ImpOK P h f Vs Q':=
 ⟨fun qs hr base=>by obtain⟨v,rows,sf,φ,V,hp',sf',h1,h2,h3,h4,h5⟩:=hp.out qs hr base;exact⟨v,rows,sf,φ,V,hp',sf',h1,h2,h3,h4,hq _ _ _ h5⟩⟩
theorem OpenOK.mono {f:FuncId} {Vs:List SV} {Q Q':SV→List SM→Prop} (ho:OpenOK P h f Vs hp Q) (hq: ∀V hp,Q V hp→Q' V hp):OpenOK P h f Vs hp Q':=
 ⟨fun φ H qs h1 h2=>by obtain⟨v,H',φ',V,hp',g1,g2,g3,g4,g5⟩:=ho.out φ H qs h1 h2;exact⟨v,H',φ',V,hp',g1,g2,g3,g4,hq _ _ g5⟩⟩
theorem ZkJ (hT:TysOK P T) {st:St} (hs:SRep φ tm hp st): ∀ {rs:List ResultVar} {k:List SV→Prop},Zw1 T tm hp rs k→ ∃vs l,ZaQ (Zir P st.tm st.hp) rs=some vs∧RL φ l vs∧k l
 | [],k,hk=>⟨[],[],rfl,by simp only[RL],hk⟩
 | .tmp t::r,k,hk=>by
  simp only[Zw1]at hk
  split at hk
  ·rename_i V hV
   obtain⟨q,h1,h2⟩:=hs.tm _ _ hV
   obtain⟨vs,l,h3,h4,h5⟩:=ZkJ hT hs hk
   exact⟨q::vs,V::l,by rw[Za2,h3];simp only[Zir,h1,Option.bind_some],by simp only[RL];exact⟨_,_,rfl,h2,h4⟩,h5⟩
  ·cases hk
 | .cell a t::r,k,hk=>by
  simp only[Zw1]at hk
  split at hk
  ·rename_i V hV
   obtain⟨q,h1,h2⟩:=hs.tm _ _ hV
   obtain⟨q',V',h6,h7,h8⟩:=Zpb hT hs.hp hk h2
   obtain⟨vs,l,h3,h4,h5⟩:=ZkJ hT hs h8
   exact⟨q'::vs,V'::l,by rw[Za2,h3];simp only[Zir,h1,h6,Option.bind_some],by simp only[RL];exact⟨_,_,rfl,h7,h4⟩,h5⟩
  ·cases hk
theorem ZsN {l:List SV} {vs:List PV} (hr:RL φ l vs):RV φ (ZyN l) (Zbm vs):=by
 match l,vs,hr with
 | [],vs,hr=>simp only[RL]at hr;subst hr;simp only[ZyN,Zbm,RV,RL];exact⟨_,rfl,rfl⟩
 | [V],vs,hr=>
  obtain⟨q,rfl,h2⟩:=RL1 hr
  exact h2
 |V::W::r,vs,hr=>
  have hr':=hr
  simp only[RL]at hr'
  obtain⟨q,r1,rfl,_,q2,r2,rfl,_⟩:=hr'
  simp only[ZyN,Zbm]
  show RV φ (.tup _) _
  simp only[RV]
  exact⟨_,rfl,hr⟩
theorem ZwV (hT:TysOK P T) {st:St} (hs:SRep φ tm hp st) {rs:List ResultVar} {k:SV→List SM→Prop} {e:Ex} (hk:Zw0 T rs k e tm hp): ∃v V,ZyH P rs (e,st)=some (v,st.hp)∧RV φ V v∧k V hp:=by
 cases e with
 |exit j=>cases hk
 |normal=>
  obtain⟨vs,l,h1,h2,h3⟩:=ZkJ hT hs hk
  exact⟨_,_,by simp only[ZyH,h1,Option.map_some],ZsN h2,h3⟩
 |ret=>
  obtain⟨vs,l,h1,h2,h3⟩:=ZkJ hT hs hk
  exact⟨_,_,by simp only[ZyH,h1,Option.map_some],ZsN h2,h3⟩
theorem ZkG {qs:List PV}: ∀ {Vs:List SV} {n:Nat},RL φ Vs qs→ ∀i V,ZcR i (ZcB n Vs)=some V→ ∃q,Am.get (Zbi n qs) i=some q∧RV φ V q:=by
 intro Vs
 induction Vs generalizing qs with
 |nil=>intro n _ i V h;cases h
 |cons W r ih=>
  intro n hr i V hV
  simp only[RL]at hr
  obtain⟨q,r',rfl,h2,h3⟩:=hr
  simp only[ZcB]at hV
  rw[Zem]at hV
  show ∃q',(bif Nat.beq i n then some q else Am.get (Zbi (n+1) r') i)=some q'∧_
  cases hb:Nat.beq i n with
  |true=>rw[hb]at hV;cases hV;exact⟨q,rfl,h2⟩
  |false=>rw[hb]at hV;exact ih h3 i V hV
theorem ZwA (hT:TysOK P T) {f:FuncId} {fn:Func} {code:Code} {Vs:List SV} {k:SV→List SM→Prop} (hok:h.ok f=true) (hf:P.funcs[f]? =some fn) (hb:fn.body=some code) (hn:Vs.length≤fn.ntmps) {H:List Mem}
 (hw:wp P h T F ⟨f,H.length,fn.ntmps⟩ code (ZcB 0 Vs) hp (Zw0 T fn.results.toList k)) {qs:List PV} (hF:F≤φ.length) (hh:RH φ hp (fun a=>H[a]?)) (hr:RL φ Vs qs):
 ∃v H' φ' V hp',(lim P h).rn f qs H=some (v,H')∧Fr F φ φ'∧RH φ' hp' (fun a=>H'[a]?)∧RV φ' V v∧k V hp':=by
 obtain⟨e,st',φ',tm',hp',h1,h2,h3,h4⟩:=Zmc hT _ code _ _ _ φ ⟨Zbi 0 qs,H⟩ hw hF ⟨ZkG hr,hh⟩
 obtain⟨v,V,h5,h6,h7⟩:=ZwV hT h3 h4
 refine⟨v,st'.hp,φ',V,hp', ?_,h2,h3.hp,h6,h7⟩
 refine Zxd hok hf hb (by rw[←hr.len];exact hn) ?_
 rw[h1,Option.bind_some]
 exact h5
theorem RH.empty:RH [] [] (fun a=>([]:List Mem)[a]?):=⟨rfl,fun _ _ _ h=>by simp at h,fun _ _ _ _ _ _ h=>by simp at h⟩
theorem ZiH (hT:TysOK P T) {f:FuncId} {fn:Func} {code:Code} {Vs:List SV} {Q:SV→Prop} (hok:h.ok f=true) (hp:h.prim f=none) (hf:P.funcs[f]? =some fn) (hb:fn.body=some code) (hn:Vs.length≤fn.ntmps)
 (hw:wp P h T 0 ⟨f,0,fn.ntmps⟩ code (ZcB 0 Vs) [] (Zw0 T fn.results.toList fun V hp=>Zla hp 40 V Q)):PureOK P h f Vs Q:=by
 refine⟨fun qs hr=> ?_⟩
 obtain⟨v,H',φ',V,hp',h1,_,h3,h4,h5⟩:=ZwA (φ:=[]) (H:=[]) hT hok hf hb hn hw (Nat.zero_le _) RH.empty hr
 obtain⟨q',V',g1,g2,g3,_⟩:=Zkw h3 40 V v Q h5 h4
 refine⟨q',V', ?_,g2,g3⟩
 simp only[ZbR,hp,h1,Option.bind_some]
 exact g1
theorem ZiE (hT:TysOK P T) {f:FuncId} {fn:Func} {code:Code} {Vs:List SV} {Q:SV→List SM→Prop} (hok:h.ok f=true) (hf:P.funcs[f]? =some fn) (hb:fn.body=some code) (hn:Vs.length≤fn.ntmps)
 (hw: ∀base,wp P h T hp.length ⟨f,base,fn.ntmps⟩ code (ZcB 0 Vs) hp (Zw0 T fn.results.toList Q)):OpenOK P h f Vs hp Q:=by
 refine⟨fun φ H qs hh hr=> ?_⟩
 obtain⟨v,H',φ',V,hp',h1,h2,h3,h4,h5⟩:=ZwA (φ:=φ) (H:=H) hT hok hf hb hn (hw H.length) (by rw[hh.len];exact Nat.le_refl _) hh hr
 exact⟨v,H',φ',V,hp',h1,h2.le (by rw[hh.len];exact Nat.le_refl _),h3,h4,h5⟩
end
end Go.Tx
