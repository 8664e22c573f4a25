/-
 The program logic's operations that bring values.
-/
import Derived.Test.YtkhpbclcfldhmaaGreatDoorTx2
set_option linter.constructorNameAsVariable false
set_option linter.unusedSimpArgs false
set_option linter.unusedVariables false
namespace Go.Tx
open Go.Am
section
variable {P : Program} {T : TypeId → TI} {φ : Ph} {hp : List SM} {H : List Mem}
theorem RH.ph {L:Nat→Option Mem} (hh:RH φ hp L) {id:Nat} {sm:SM} (h:nth hp id=some sm): ∃o,φ[id]? =some o∧RM φ L o sm:=by
 rw[Za5]at h
 have hi:=(List.getElem?_eq_some_iff.1 h).1
 rw[←hh.len]at hi
 exact⟨φ[id],List.getElem?_eq_getElem hi,hh.row _ _ _ h (List.getElem?_eq_getElem hi)⟩
theorem RH.ref {L:Nat→Option Mem} (hh:RH φ hp L) {id i n:Nat} {mm:Option Nat} {t:CT} {l:List t.D} {m:Bool} {q:PV} (h:nth hp id=some (.row t l m)) (hq:RV φ (.ref id i n mm) q):
 (∃a es m',q= .ref a i n (mm.getD n)∧φ[id]? =some (some a)∧L a=some (.row es t.w m')∧All2 (RR t) l es∧(m=true→m'=true))∨(q= .nils∧l=[]∧i=0∧n=0∧mm.getD n=0∧φ[id]? =some none):=by
 obtain⟨o,ho,hr⟩:=hh.ph h
 simp only[RV]at hq
 rcases hq with⟨a,h1,h2⟩|⟨h1,h2,h3,h4,h5⟩
 ·rw[h1]at ho;cases ho
  simp only[RM]at hr
  obtain⟨es,m',h3,h4,h5⟩:=hr
  exact .inl ⟨a,es,m',h2,h1,h3,h4,h5⟩
 ·rw[h1]at ho;cases ho
  simp only[RM]at hr
  exact .inr ⟨h2,hr,h3,h4,h5,h1⟩
theorem RH.refC {L:Nat→Option Mem} (hh:RH φ hp L) {id i n:Nat} {mm:Option Nat} {cs:List SV} {m:Bool} {q:PV} (h:nth hp id=some (.cell cs m)) (hq:RV φ (.ref id i n mm) q):
 ∃a cs' m',q= .ref a i n (mm.getD n)∧φ[id]? =some (some a)∧L a=some (.row [cs'] cs'.length m')∧RL φ cs cs'∧(m=true→m'=true):=by
 obtain⟨o,ho,hr⟩:=hh.ph h
 simp only[RV]at hq
 simp only[RM]at hr
 obtain⟨a,cs',m',rfl,h3,h4,h5⟩:=hr
 rcases hq with⟨b,h1,h2⟩|⟨h1,_⟩
 ·rw[h1]at ho;cases ho
  exact⟨a,cs',m',h2,h1,h3,h4,h5⟩
 ·rw[h1]at ho;cases ho
theorem RH.ptr {L:Nat→Option Mem} (hh:RH φ hp L) {id i r:Nat} {t:CT} {l:List t.D} {m:Bool} {q:PV} (h:nth hp id=some (.row t l m)) (hq:RV φ (.ptr id i r) q):
 ∃a es m',q= .ptr a i r∧φ[id]? =some (some a)∧L a=some (.row es t.w m')∧All2 (RR t) l es∧(m=true→m'=true):=by
 obtain⟨o,ho,hr⟩:=hh.ph h
 simp only[RV]at hq
 obtain⟨a,h1,h2⟩:=hq
 rw[h1]at ho;cases ho
 simp only[RM]at hr
 obtain⟨es,m',h3,h4,h5⟩:=hr
 exact⟨a,es,m',h2,h1,h3,h4,h5⟩
theorem RH.ptrC {L:Nat→Option Mem} (hh:RH φ hp L) {id i r:Nat} {cs:List SV} {m:Bool} {q:PV} (h:nth hp id=some (.cell cs m)) (hq:RV φ (.ptr id i r) q):
 ∃a cs' m',q= .ptr a i r∧φ[id]? =some (some a)∧L a=some (.row [cs'] cs'.length m')∧RL φ cs cs'∧(m=true→m'=true):=by
 obtain⟨o,ho,hr⟩:=hh.ph h
 simp only[RV]at hq
 obtain⟨a,h1,h2⟩:=hq
 rw[h1]at ho;cases ho
 simp only[RM]at hr
 obtain⟨b,cs',m',h6,h3,h4,h5⟩:=hr
 cases h6
 exact⟨a,cs',m',h2,h1,h3,h4,h5⟩
theorem RH.refM {L:Nat→Option Mem} (hh:RH φ hp L) {id i n:Nat} {mm:Option Nat} {ct:CT} {els:List SV} {m:Bool} {q:PV} (h:nth hp id=some (.many ct els m)) (hq:RV φ (.ref id i n mm) q):
 (∃a es m',q= .ref a i n (mm.getD n)∧φ[id]? =some (some a)∧L a=some (.row es 1 m')∧All2 (fun V c=> ∃q,c=[q]∧RV φ V q) els es∧(m=true→m'=true))∨(q= .nils∧els=[]∧i=0∧n=0∧mm.getD n=0∧φ[id]? =some none):=by
 obtain⟨o,ho,hr⟩:=hh.ph h
 simp only[RV]at hq
 rcases hq with⟨a,h1,h2⟩|⟨h1,h2,h3,h4,h5⟩
 ·rw[h1]at ho;cases ho
  simp only[RM]at hr
  obtain⟨es,m',h3,h4,h5⟩:=hr
  exact .inl ⟨a,es,m',h2,h1,h3,h4,h5⟩
 ·rw[h1]at ho;cases ho
  simp only[RM]at hr
  exact .inr ⟨h2,hr,h3,h4,h5,h1⟩
theorem RH.ptrM {L:Nat→Option Mem} (hh:RH φ hp L) {id i r:Nat} {ct:CT} {els:List SV} {m:Bool} {q:PV} (h:nth hp id=some (.many ct els m)) (hq:RV φ (.ptr id i r) q):
 ∃a es m',q= .ptr a i r∧φ[id]? =some (some a)∧L a=some (.row es 1 m')∧All2 (fun V c=> ∃q,c=[q]∧RV φ V q) els es∧(m=true→m'=true):=by
 obtain⟨o,ho,hr⟩:=hh.ph h
 simp only[RV]at hq
 obtain⟨a,h1,h2⟩:=hq
 rw[h1]at ho;cases ho
 simp only[RM]at hr
 obtain⟨es,m',h3,h4,h5⟩:=hr
 exact⟨a,es,m',h2,h1,h3,h4,h5⟩
theorem Zwb (hT:TysOK P T) {op:BinOp} {t:TypeId} {x y:SV} {a b:PV} {k:SV→Prop} (h:ZyY T op t x y k) (hx:RV φ x a) (hy:RV φ y b):ValOK φ k (Zgx P op t a b):=by
 unfold ZyY at h
 split at h
 ·rw[ZbZ hx,ZbZ hy];exact ZvB h
 ·rw[Zes hx,Zes hy];exact ZvH h
 ·rw[Zfw hx,Zfw hy]
  split at h
  ·rename_i hk
   have:=(hT.get hk (by simp)).k
   rw[hk]at this
   simp only[Zgx,Zkf,show P.underlying t=_ from this,if_true]
   exact ZfJ h
  ·cases h
 ·simp only[RV]at hx hy;subst hx;subst hy
  split at h
  ·rename_i hk
   have:=(hT.get hk (by simp)).k
   rw[hk]at this
   obtain⟨e,he⟩:=this
   simp only[Zgx,Zhg,he,if_true]
   exact ZfJ h
  ·cases h
 ·simp only[RV]at hx hy;subst hy
  obtain⟨_,_,rfl⟩:=hx
  split at h
  ·rename_i hk
   have:=(hT.get hk (by simp)).k
   rw[hk]at this
   obtain⟨e,he⟩:=this
   simp only[Zgx,Zhg,he,if_true]
   exact ZfJ h
  ·cases h
 ·simp only[RV]at hx hy;subst hy
  obtain⟨_,rfl,_⟩:=hx
  split at h
  ·rename_i hk
   have:=(hT.get hk (by simp)).k
   rw[hk]at this
   obtain⟨e,he⟩:=this
   simp only[Zgx,Zhg,he,if_true]
   exact ZfJ h
  ·cases h
 ·simp only[RV]at hx hy;subst hx;subst hy
  split at h
  ·rename_i hk
   have:=(hT.get hk (by simp)).k
   rw[hk]at this
   simp only[Zgx,Zcm,show P.underlying t=_ from this,if_true]
   exact ZfJ h
  ·cases h
 ·simp only[RV,RR]at hx hy;subst hy
  split at h
  ·rename_i hk
   have:=(hT.get hk (by simp)).k
   rw[hk]at this
   rcases hx with⟨e,hxs⟩|⟨es,e,_⟩
   ·cases e
    simp only[Zgx,Zcm,show P.underlying t=_ from this,if_true]
    exact ZfJ (h.1 hxs)
   ·cases e
    simp only[Zgx,Zcm,show P.underlying t=_ from this,if_true]
    exact ZfJ h.2
  ·cases h
 ·simp only[RV]at hx hy;subst hy
  split at h
  ·rename_i hk
   have:=(hT.get hk (by simp)).k
   rw[hk]at this
   rcases hx with⟨_,_,rfl⟩|⟨_,rfl,_,hn,_⟩
   ·simp only[Zgx,Zcm,show P.underlying t=_ from this,if_true]
    exact ZfJ h.2
   ·simp only[Zgx,Zcm,show P.underlying t=_ from this,if_true]
    exact ZfJ (h.1 hn)
  ·cases h
 ·cases h
theorem ZxZ {op:UnOp} {x:SV} {a:PV} {k:SV→Prop} (h:unT op x k) (hx:RV φ x a):ValOK φ k (ZyL op a):=by
 unfold unT at h
 split at h
 ·rw[ZbZ hx];exact .mk (vi _ _) h
 ·rw[Zfw hx];exact .mk (vb _) h
 ·rw[ZbZ hx];exact .mk (vi _ _) h
 ·cases h
theorem KM.some {t:TypeId} {k:TK} (h:KM P t k) (ho:k≠ .other): ∃u,P.underlying t=some u:=by
 cases k<;>first
  |exact⟨_,h⟩
  |(obtain⟨_,h,_⟩:=h;exact⟨_,h⟩)
  |(obtain⟨_,h⟩:=h;exact⟨_,h⟩)
  |(obtain⟨_,_,_,h⟩:=h;exact⟨_,h⟩)
  |(obtain⟨_,_,h,_⟩:=h;exact⟨_,h⟩)
  |exact absurd rfl ho
theorem Zju (a:List UInt8):All2 (RR (.i .u8)) (Zdj a) (byteCells ⟨a.toArray⟩):=by
 unfold byteCells Zdj
 rw[Ziv]
 induction a with
 |nil=>trivial
 |cons x r ih=>exact⟨rfl,ih⟩
theorem Zft: ∀ {xs:List Int} {es:List (List PV)},All2 (RR (.i .u8)) xs es→bytesOf es=some (Zsw xs)
 | [],[],_=>rfl
 |x::xs,e::es,h=>by
  have h1:=h.1
  simp only[RR]at h1
  subst h1
  simp only[bytesOf,Zft h.2,Option.map_some]
  rfl
theorem Zuv (hT:TysOK P T) (hh:RH φ hp (fun a=>H[a]?)) {s d:TypeId} {x:SV} {a:PV} {k:SV→Prop} (h:Zwy T s d hp x k) (hx:RV φ x a):ValOK φ k (ZcC P H s d a):=by
 have known: ∀t,(T t).k≠ .other→ ∃u,P.underlying t=some u:=fun t ho=>KM.some (hT.get rfl ho).k ho
 unfold Zwy at h
 split at h
 ·cases h
 ·rename_i hd hs
  obtain⟨u,hu⟩:=known s (fun e=>hs e)
  have:=(hT.get hd (by simp)).k
  rw[hd]at this
  rw[ZbZ hx]
  simp only[ZcC,hu,show P.underlying d=_ from this]
  exact .mk (vi _ _) h
 ·rename_i hs hd
  obtain⟨⟨h0,h1⟩,h⟩:=h
  have e1:=(hT.get hs (by simp)).k
  have e2:=(hT.get hd (by simp)).k
  rw[hs]at e1;rw[hd]at e2
  rw[ZbZ hx,Zyf (by rw[show P.underlying s=_ from e1];rfl) e2 _ h0 h1]
  exact .mk (vs _) h
 ·rename_i hd hs
  obtain⟨u,hu⟩:=known s (fun e=>hs e)
  have:=(hT.get hd (by simp)).k
  rw[hd]at this
  rw[Zes hx]
  simp only[ZcC,hu,show P.underlying d=_ from this]
  exact .mk (vs _) h
 ·rename_i hs hd
  split at h
  ·rename_i he
   have h1:=(hT.get hs (by simp)).k
   have h2:=(hT.get hd (by simp)).k
   have h3:=(hT.get he (by simp)).k
   rw[hs]at h1;rw[hd]at h2;rw[he]at h3
   rw[Zes hx]
   simp only[ZcC,show P.underlying s=_ from h1,show P.underlying d=_ from h2,show P.underlying _=_ from h3]
   refine .mk ?_ h
   simp only[RV,RR]
   exact .inr ⟨_,rfl,Zju _⟩
  ·cases h
 ·rename_i hs hd
  split at h
  ·rename_i he
   have h1:=(hT.get hs (by simp)).k
   have h2:=(hT.get hd (by simp)).k
   have h3:=(hT.get he (by simp)).k
   rw[hs]at h1;rw[hd]at h2;rw[he]at h3
   rcases Zhc hx with⟨rfl,rfl⟩|⟨es,rfl,hes⟩
   ·simp only[ZcC,show P.underlying s=_ from h1,show P.underlying d=_ from h2,show P.underlying _=_ from h3,elems,Option.bind_some,bytesOf,Option.map_some]
    exact .mk (vs _) h
   ·simp only[ZcC,show P.underlying s=_ from h1,show P.underlying d=_ from h2,show P.underlying _=_ from h3,elems,Option.bind_some,Zft hes,Option.map_some]
    exact .mk (vs _) h
  ·cases h
 ·rename_i hs hd
  split at h
  ·rename_i he
   split at h
   ·rename_i hrow
    have h1:=(hT.get hs (by simp)).k
    have h2:=(hT.get hd (by simp)).k
    have h3:=(hT.get he (by simp)).k
    rw[hs]at h1;rw[hd]at h2;rw[he]at h3
    rcases hh.ref hrow hx with⟨a',es,m',rfl,_,ha,hes,_⟩|⟨rfl,rfl,rfl,rfl,_,_⟩
    ·have hl:=hes.len
     simp only[ZcC,show P.underlying s=_ from h1,show P.underlying d=_ from h2,show P.underlying _=_ from h3,elems,show H[a']? =_ from ha]
     rw[if_pos (by omega)]
     simp only[Option.bind_some,Zft (hes.sub _ _),Option.map_some]
     exact .mk (vs _) h.2
    ·simp only[ZcC,show P.underlying s=_ from h1,show P.underlying d=_ from h2,show P.underlying _=_ from h3,elems,Option.bind_some,bytesOf,Option.map_some]
     exact .mk (vs _) h.2
   ·cases h
  ·cases h
 ·cases h
theorem ZoU {t:TypeId} (hT:TysOK P T) (ho:(T t).k≠ .other):ZaV P t=some (T t).sz∧ZqE P t=some (match(T t).k with| .struct _| .arr _ _=>true|_=>false):=by
 have h:=hT.get rfl ho
 refine⟨h.sz, ?_⟩
 have hk:=h.k
 revert hk
 cases hk:(T t).k<;>intro hm<;>simp only[KM]at hm<;>first
  |(simp only[ZqE,hm];done)
  |(obtain⟨_,hm,_⟩:=hm;simp only[ZqE,hm];done)
  |(obtain⟨_,hm⟩:=hm;simp only[ZqE,hm];done)
  |(obtain⟨_,_,_,hm⟩:=hm;simp only[ZqE,hm];done)
  |(obtain⟨_,_,hm,_⟩:=hm;simp only[ZqE,hm];done)
  |exact absurd hk ho
theorem Ze3 (hT:TysOK P T) {t:TypeId} {cs:List SV} {qs:List PV} {off:Nat} {V:SV} (h:ZgA (T t) cs off=some V) (hr:RL φ cs qs): ∃q,ZcW P t qs off=some q∧RV φ V q:=by
 have ho:(T t).k≠ .other:=by
  intro ho
  unfold ZgA at h
  rw[ho]at h
  cases h
 obtain⟨h1,h2⟩:=ZoU hT ho
 have hl:=hr.len
 have agg: ∀V,(bif Nat.ble (off+(T t).sz) cs.length then some (SV.agg ((cs.drop off).take (T t).sz))else none)=some V→ZqE P t=some true→ ∃q,ZcW P t qs off=some q∧RV φ V q:=by
  intro V h h2
  cases hb:Nat.ble (off+(T t).sz) cs.length with
  |false=>rw[hb]at h;cases h
  |true=>
   rw[hb]at h;cases h
   have:=Nat.le_of_ble_eq_true hb
   simp only[ZcW,h2,h1,Option.bind_some]
   rw[if_pos (by omega)]
   refine⟨_,rfl, ?_⟩
   simp only[RV]
   exact⟨_,rfl,RL.take _ (RL.drop _ hr)⟩
 unfold ZgA at h
 split at h
 ·rename_i hk
  rw[hk]at h2
  exact agg V h h2
 ·rename_i hk
  rw[hk]at h2
  exact agg V h h2
 ·cases h
 ·rename_i h3 h4 h5
  rw[Za5]at h
  obtain⟨q,hq1,hq2⟩:=hr.get h
  refine⟨q, ?_,hq2⟩
  have:ZqE P t=some false:=by
   rw[h2]
   revert h3 h4 h5
   cases(T t).k<;>intros<;>first
    |rfl
    |(rename_i a _ _;exact absurd rfl (a _))
    |(rename_i a _;exact absurd rfl (a _ _))
    |(rename_i a;exact absurd rfl a)
  simp only[ZcW,this]
  exact hq1
theorem Zpb (hT:TysOK P T) (hh:RH φ hp (fun a=>H[a]?)) {t:TypeId} {x:SV} {a:PV} {k:SV→Prop} (h:Zme T t hp x k) (hx:RV φ x a):ValOK φ k (Zbt P H t a):=by
 unfold Zme at h
 split at h
 ·split at h
  ·rename_i hrow
   obtain⟨y,hy,h⟩:=h
   obtain⟨a',es,m',rfl,_,ha,hes,_⟩:=hh.ptr hrow hx
   obtain⟨c,hc,hyc⟩:=hes.get hy
   split at h
   ·rename_i V hV
    obtain⟨q,h1,h2⟩:=Ze3 hT hV (ZfQ (φ:=φ) hyc)
    simp only[Zbt,show H[a']? =_ from ha,hc,Option.bind_some,h1]
    exact .mk h2 h
   ·cases h
  ·rename_i hrow
   obtain⟨rfl,h⟩:=h
   obtain⟨a',cs',m',rfl,_,ha,hcs,_⟩:=hh.ptrC hrow hx
   split at h
   ·rename_i V hV
    obtain⟨q,h1,h2⟩:=Ze3 hT hV hcs
    simp only[Zbt,show H[a']? =_ from ha,List.getElem?_cons_zero,Option.bind_some,h1]
    exact .mk h2 h
   ·cases h
  ·rename_i hrow
   obtain⟨W,hW,h⟩:=h
   obtain⟨a',es,m',rfl,_,ha,hes,_⟩:=hh.ptrM hrow hx
   obtain⟨c,hc,y,rfl,hy⟩:=hes.get hW
   split at h
   ·rename_i V hV
    obtain⟨q,h1,h2⟩:=Ze3 hT hV (show RL φ [W] [y]by simp only[RL];exact⟨_,_,rfl,hy,rfl⟩)
    simp only[Zbt,show H[a']? =_ from ha,hc,Option.bind_some,h1]
    exact .mk h2 h
   ·cases h
  ·cases h
 ·split at h
  ·rename_i V hV
   simp only[RV]at hx
   obtain⟨cs,rfl,hcs⟩:=hx
   obtain⟨q,h1,h2⟩:=Ze3 hT hV (ZfQ (φ:=φ) hcs)
   simp only[Zbt,h1]
   exact .mk h2 h
  ·cases h
 ·cases h
theorem ZxH (hh:RH φ hp (fun a=>H[a]?)) {t e:TypeId} {z:Nat} (hu:P.underlying t=some (.slice e)) (hz:ZaV P e=some z) {x:SV} {a:PV} {kk:IntKind} {j:Int} {k:SV→Prop} (h:ixT z hp x j k) (hx:RV φ x a):ValOK φ k (Zan P H t a (.int kk j)):=by
 unfold ixT at h
 split at h
 ·split at h
  ·rename_i hw
   have hw:=Nat.eq_of_beq_eq_true hw
   obtain⟨y,h0,hy,h⟩:=h
   rcases Zhc hx with⟨rfl,rfl⟩|⟨es,rfl,hes⟩
   ·simp at hy
   ·obtain⟨c,hc,hyc⟩:=hes.get hy
    have hlt:=(List.getElem?_eq_some_iff.1 hc).1
    simp only[Zan,hu,hz,Option.bind_some]
    rw[if_pos ⟨h0,by omega⟩,hc]
    simp only[Option.bind_some]
    rw[if_pos (by rw[hyc.len];exact hw)]
    refine .mk ?_ h
    simp only[RV]
    exact⟨c,rfl,hyc⟩
  ·cases h
 ·split at h
  ·rename_i hrow
   split at h
   ·rename_i hw
    have hw:=Nat.eq_of_beq_eq_true hw
    obtain⟨⟨h0,h1⟩,h⟩:=h
    rcases hh.ref hrow hx with⟨a',es,m',rfl,hp',ha,hes,_⟩|⟨rfl,rfl,rfl,rfl,_,_⟩
    ·simp only[Zan,hu,hz,Option.bind_some]
     rw[if_pos ⟨h0,h1⟩]
     simp only[show H[a']? =_ from ha]
     rw[if_pos hw]
     refine .mk ?_ h
     simp only[RV]
     exact⟨a',hp',rfl⟩
    ·omega
   ·cases h
  ·rename_i hrow
   split at h
   ·rename_i hw
    have hw:=Nat.eq_of_beq_eq_true hw
    obtain⟨⟨h0,h1⟩,h⟩:=h
    obtain⟨a',cs',m',rfl,hp',ha,hcs,_⟩:=hh.refC hrow hx
    simp only[Zan,hu,hz,Option.bind_some]
    rw[if_pos ⟨h0,h1⟩]
    simp only[show H[a']? =_ from ha]
    rw[if_pos (by rw[←hcs.len];exact hw)]
    refine .mk ?_ h
    simp only[RV]
    exact⟨a',hp',rfl⟩
   ·cases h
  ·rename_i hrow
   split at h
   ·rename_i hw
    have hw:=Nat.eq_of_beq_eq_true hw
    obtain⟨⟨h0,h1⟩,h⟩:=h
    rcases hh.refM hrow hx with⟨a',es,m',rfl,hp',ha,hes,_⟩|⟨rfl,rfl,rfl,rfl,_,_⟩
    ·simp only[Zan,hu,hz,Option.bind_some]
     rw[if_pos ⟨h0,h1⟩]
     simp only[show H[a']? =_ from ha]
     rw[if_pos hw]
     refine .mk ?_ h
     simp only[RV]
     exact⟨a',hp',rfl⟩
    ·omega
   ·cases h
  ·cases h
 ·cases h
theorem ZkH (hT:TysOK P T) (hh:RH φ hp (fun a=>H[a]?)) {t:TypeId} {x ix:SV} {a b:PV} {k:SV→Prop} (h:Ze0 T t hp x ix k) (hx:RV φ x a) (hi:RV φ ix b):ValOK φ k (Zan P H t a b):=by
 unfold Ze0 at h
 split at h
 ·rw[ZbZ hi]
  split at h
  ·rename_i hk
   have h1:=(hT.get hk (by simp)).k
   rw[hk]at h1
   split at h
   ·cases h
   ·rename_i he
    exact ZxH hh h1 (hT.get rfl (fun e=>he e)).sz h hx
  ·rename_i hk
   have h1:=(hT.get hk (by simp)).k
   rw[hk]at h1
   split at h
   ·cases h
   ·rename_i he
    have hz:=(hT.get rfl (fun e=>he e)).sz
    split at h
    ·simp only[RV]at hx
     obtain⟨a',h2,rfl⟩:=hx
     simp only[Zan,show P.underlying t=_ from h1,hz,Option.bind_some]
     rw[if_pos h.1]
     refine .mk ?_ h.2
     simp only[RV]
     exact⟨a',h2,rfl⟩
    ·simp only[RV]at hx
     obtain⟨cs,rfl,hcs⟩:=hx
     simp only[Zan,show P.underlying t=_ from h1,hz,Option.bind_some]
     rw[if_pos h.1]
     refine .mk ?_ h.2
     simp only[RV]
     exact⟨cs,rfl,hcs⟩
    ·cases h
  ·cases h
 ·cases h
theorem ZqI (hT:TysOK P T) {t:TypeId} {x ix:SV} {a b:PV} {k:SV→Prop} (h:ZqJ T t x ix k) (hx:RV φ x a) (hi:RV φ ix b):ValOK φ k (ZgQ P t a b):=by
 unfold ZqJ at h
 split at h
 ·rw[ZbZ hi]
  split at h
  ·rename_i hk
   have h1:=(hT.get hk (by simp)).k
   rw[hk]at h1
   obtain⟨c,h0,hc,h⟩:=h
   rw[Zes hx]
   simp only[ZgQ,show P.underlying t=_ from h1,Ziv,hc,Option.map_some]
   rw[if_pos h0]
   exact .mk (vi _ _) h
  ·rename_i hk
   have h1:=(hT.get hk (by simp)).k
   rw[hk]at h1
   obtain⟨h0,h⟩:=h
   split at h
   ·cases h
   ·rename_i hp' he
    have hz:=(hT.get rfl (fun e=>he e)).sz
    simp only[RV]at hx
    obtain⟨cs',rfl,hcs⟩:=hx
    obtain⟨q,h2,h3⟩:=Ze3 hT hp' hcs
    simp only[ZgQ,show P.underlying t=_ from h1,hz,Option.bind_some]
    rw[if_pos h0,h2]
    exact .mk h3 h
   ·cases h
  ·cases h
 ·cases h
theorem ZgK (hT:TysOK P T) {s:TypeId} {fs:List (Nat×TypeId×Nat)} (hk:(T s).k= .struct fs) {f off:Nat} {ty:TypeId} {n:Nat} (hf:nth fs f=some (off,ty,n)):fieldAt P s f=some (off,ty)∧ZaV P ty=some n:=by
 have h1:=(hT.get hk (by simp)).k
 rw[hk]at h1
 obtain⟨a,hu,hm,hs⟩:=h1
 rw[Za5]at hf
 have hx:=hs _ (List.mem_of_getElem? hf)
 refine⟨?_,hx⟩
 have:(a.toList.map fun f=>(f.offset,f.type))[f]? =some (off,ty):=by
  rw[←hm,List.getElem?_map,hf];rfl
 simp only[List.getElem?_map,Array.getElem?_toList]at this
 simp only[fieldAt,hu]
 exact this
theorem Zki (hT:TysOK P T) {s:TypeId} {x:SV} {a:PV} {f:Nat} {k:SV→Prop} (h:Zg3 T s x f k) (hx:RV φ x a):ValOK φ k (Zcf P s a f):=by
 unfold Zg3 at h
 split at h
 ·rename_i hk
  split at h
  ·rename_i hf
   obtain⟨h1,h2⟩:=ZgK hT hk hf
   split at h
   ·simp only[RV]at hx
    obtain⟨a',h3,rfl⟩:=hx
    simp only[Zcf,h1,Option.bind_some,h2]
    refine .mk ?_ h
    simp only[RV]
    exact⟨a',h3,rfl⟩
   ·simp only[RV]at hx
    obtain⟨cs,rfl,hcs⟩:=hx
    simp only[Zcf,h1,Option.bind_some,h2]
    refine .mk ?_ h
    simp only[RV]
    exact⟨cs,rfl,hcs⟩
   ·cases h
  ·cases h
 ·cases h
theorem ZsH (hT:TysOK P T) {s:TypeId} {x:SV} {a:PV} {f:Nat} {k:SV→Prop} (h:ZsW T s x f k) (hx:RV φ x a):ValOK φ k (Zh8 P s a f):=by
 unfold ZsW at h
 split at h
 ·rename_i hk
  split at h
  ·rename_i hf
   obtain⟨h1,h2⟩:=ZgK hT hk hf
   split at h
   ·rename_i hp'
    simp only[RV]at hx
    obtain⟨cs',rfl,hcs⟩:=hx
    obtain⟨q,h3,h4⟩:=Ze3 hT hp' hcs
    simp only[Zh8,h1,Option.bind_some,h3]
    exact .mk h4 h
   ·cases h
  ·cases h
 ·cases h
theorem ZvY (hT:TysOK P T) {t:TypeId} {x:SV} {a:PV} {k:SV→Prop} (h:Zy7 T t x k) (hx:RV φ x a):ValOK φ k (Zdz P H t a):=by
 unfold Zy7 at h
 split at h
 ·rename_i hk
  have h1:=(hT.get hk (by simp)).k
  rw[hk]at h1
  rw[Zes hx]
  simp only[Zdz,show P.underlying t=_ from h1,Zm5]
  exact .mk (vi _ _) h
 ·rename_i hk
  have h1:=(hT.get hk (by simp)).k
  rw[hk]at h1
  rcases Zhc hx with⟨rfl,rfl⟩|⟨es,rfl,hes⟩
  ·simp only[Zdz,show P.underlying t=_ from h1]
   exact .mk (vi _ _) h
  ·simp only[Zdz,show P.underlying t=_ from h1,←hes.len]
   exact .mk (vi _ _) h
 ·rename_i hk
  have h1:=(hT.get hk (by simp)).k
  rw[hk]at h1
  simp only[RV]at hx;subst hx
  simp only[Zdz,show P.underlying t=_ from h1]
  exact .mk (vi _ _) h
 ·rename_i hk
  have h1:=(hT.get hk (by simp)).k
  rw[hk]at h1
  simp only[RV]at hx
  rcases hx with⟨a',_,rfl⟩|⟨_,rfl,_,rfl,_⟩
  ·simp only[Zdz,show P.underlying t=_ from h1]
   exact .mk (vi _ _) h
  ·simp only[Zdz,show P.underlying t=_ from h1]
   exact .mk (vi _ _) h
 ·rename_i hk
  have h1:=(hT.get hk (by simp)).k
  rw[hk]at h1
  simp only[Zdz,show P.underlying t=_ from h1]
  exact .mk (vi _ _) h
 ·cases h
theorem Zkc (mx:Bool): ∀ {l:List SV} {x:SV} {a:PV} {qs:List PV} {k:SV→Prop},Zrl mx l x k→RV φ x a→RL φ l qs→ValOK φ k (Zhy (match mx with|true=>max2|false=>min2) qs a)
 | [],x,a,qs,k,h,hx,hl=>by
  simp only[RL]at hl;subst hl
  cases mx<;>exact .mk hx h
 |y::l,x,a,qs,k,h,hx,hl=>by
  simp only[RL]at hl
  obtain⟨q,r,rfl,h2,h3⟩:=hl
  unfold Zrl mmT at h
  split at h
  ·split at h
   ·rename_i hk
    have hk:=Zfa hk
    subst hk
    rw[ZbZ hx,ZbZ h2]
    cases mx with
    |true=>
     simp only[Zhy,max2,if_true,Option.bind_some]
     exact Zkc true h (vi _ _) h3
    |false=>
     simp only[Zhy,min2,if_true,Option.bind_some]
     exact Zkc false h (vi _ _) h3
   ·cases h
  ·cases h
end
end Go.Tx
