/- The program logic: tables of types; results that are own memory. -/
import Derived.Test.YtapbiodcncnnfaaGreatDoorTx6
import Derived.Test.YtapbiodcncnnfaaGreatDoorRows
import Derived.Lib.LaidTab
import Derived.Lib.ItoaMem
set_option linter.all false
set_option maxHeartbeats 8000000
set_option maxRecDepth 100000
namespace Go.Tx
noncomputable section
open Go.Am
def ZBv:TI:=⟨.other,0,0,[],none⟩
inductive Tr where
 |lf (k:Nat) (v:TI)
 |nd (k:Nat) (a b:Tr)
def Tr.find:Tr→Nat→TI
 | .lf k v,t=>match Nat.beq t k with
  |true=>v
  |false=>ZBv
 | .nd k a b,t=>match Nat.ble k t with
  |true=>b.find t
  |false=>a.find t
def Tr.all (p:Nat→TI→Bool):Tr→Bool
 | .lf k v=>p k v
 | .nd _ a b=>a.all p&&b.all p
theorem Tr.all_find {p:Nat→TI→Bool}: ∀ {tr:Tr},tr.all p=true→ ∀t,tr.find t=ZBv∨p t (tr.find t)=true
 | .lf k v,h,t=>by
  simp only[Tr.find]
  split
  ·rename_i j
   rw[Xam j]
   exact .inr h
  ·exact .inl rfl
 | .nd k a b,h,t=>by
  simp only[Tr.all,Xag]at h
  simp only[Tr.find]
  split
  ·exact Tr.all_find h.2 t
  ·exact Tr.all_find h.1 t
def zeq:SV→PV→Bool
 | .v (.i k) n, .int j n'=>keq k j&&(n==n')
 | .v .b b, .bool C=>b==C
 | .v .s s, .str I=>s.isEmpty&&Nat.beq I.size 0
 | .nils, .nils=>true
 | .nilp, .nilp=>true
 | .nilf, .nilf=>true
 | .nili, .nili=>true
 | .nilmp, .nilm=>true
 |_,_=>false
def Zz0:List SV→List PV→Bool
 | [],[]=>true
 |a::l,b::r=>zeq a b&&Zz0 l r
 |_,_=>false
theorem ZjR {φ:Ph} {V:SV} {q:PV} (h:zeq V q=true):RV φ V q:=by
 unfold zeq at h
 split at h<;>first
  |(simp only[Xag,beq_iff_eq]at h;rw[Zfy h.1,h.2];exact vi _ _)
  |(simp only[beq_iff_eq]at h;rw[h];exact vb _)
  |(simp only[RV];done)
  |(cases h;done)
  |skip
 rename_i s j
 simp only[Xag,XbN]at h
 rw[h.1]
 have:j=⟨([]:List UInt8).toArray⟩:=by
  have C:=Xam h.2
  apply ByteArray.ext
  exact Array.eq_empty_of_size_eq_zero C
 rw[this]
 exact vs []
theorem ZrL {φ:Ph}: ∀ {l:List SV} {j:List PV},Zz0 l j=true→RL φ l j
 | [],[],_=>by simp only[RL]
 |a::l,b::r,h=>by
  simp only[Zz0,Xag]at h
  simp only[RL]
  exact⟨_,_,rfl,ZjR h.1,ZrL h.2⟩
def zct:(c:CT)→List PV→Bool
 | .p a c,cs=>zct a (cs.take a.w)&&zct c (cs.drop a.w)
 | .i k,cs=>match cs with
  | [q]=>zeq (.v (.i k) (0:Int)) q
  |_=>false
 | .b,cs=>match cs with
  | [q]=>zeq (.v .b false) q
  |_=>false
 | .s,cs=>match cs with
  | [q]=>zeq (.v .s []) q
  |_=>false
 | .l _,cs=>match cs with
  | [q]=>zeq .nils q
  |_=>false
 | .any,cs=>match cs with
  | [q]=>zeq .nili q
  |_=>false
theorem Zq8: ∀ {c:CT} {cs:List PV},zct c cs=true→RR c c.z cs
 | .p a c,cs,h=>by
  simp only[zct,Xag]at h
  exact⟨_,_,(XaR a.w cs).symm,Zq8 h.1,Zq8 h.2⟩
 | .i k,cs,h=>by
  simp only[zct]at h
  split at h
  ·have:=ZjR (φ:=[]) h
   simp only[RV]at this
   exact this
  ·cases h
 | .b,cs,h=>by
  simp only[zct]at h
  split at h
  ·have:=ZjR (φ:=[]) h
   simp only[RV]at this
   exact this
  ·cases h
 | .s,cs,h=>by
  simp only[zct]at h
  split at h
  ·have:=ZjR (φ:=[]) h
   simp only[RV]at this
   exact this
  ·cases h
 | .any,cs,h=>by
  simp only[zct]at h
  split at h
  ·have:=ZjR (φ:=[]) h
   simp only[RV]at this
   subst this
   rfl
  ·cases h
 | .l e,cs,h=>by
  simp only[zct]at h
  split at h
  ·have:=ZjR (φ:=[]) h
   simp only[RV]at this
   subst this
   exact .inl ⟨rfl,rfl⟩
  ·cases h
def Zvn (P:Program):List (Nat×TypeId×Nat)→List Field→Bool
 | [],[]=>true
 |(off,t,n)::r,f::j=>Nat.beq off f.offset&&Nat.beq t f.type&&(match Za1 P t with|some m=>Nat.beq m n|none=>false)&&Zvn P r j
 |_,_=>false
theorem ZoE {P:Program}: ∀ {l:List (Nat×TypeId×Nat)} {j:List Field},Zvn P l j=true→(l.map fun x=>(x.1,x.2.1))=j.map (fun f=>(f.offset,f.type))∧ ∀x∈l,Za1 P x.2.1=some x.2.2
 | [],[],_=>⟨rfl,by simp⟩
 | [],_::_,h=>by cases h
 |_::_,[],h=>by cases h
 |(off,t,n)::r,f::j,h=>by
  simp only[Zvn,Xag]at h
  obtain⟨⟨⟨I,J⟩,C⟩,R⟩:=h
  have U:=Xam I
  have e2:t=f.type:=Xam J
  obtain⟨g1,g2⟩:=ZoE R
  refine⟨by simp only[Xbb,g1,U,e2], ?_⟩
  intro x hx
  rcases Xav.1 hx with rfl|hx
  ·split at C
   ·rename_i m hm
    rw[←Xam C]
    exact hm
   ·cases C
  ·exact g2 x hx
def ZAj (P:Program) (t:TypeId):TK→Bool
 | .int k=>match P.underlying t with|some (.int C)=>keq k C|_=>false
 | .bool=>match P.underlying t with|some .bool=>true|_=>false
 | .str=>match P.underlying t with|some .string=>true|_=>false
 | .slice e=>match P.underlying t with|some (.slice j)=>Nat.beq e j|_=>false
 | .arr n e=>match P.underlying t with|some (.array n' j)=>Nat.beq n n'&&Nat.beq e j|_=>false
 | .struct I=>match P.underlying t with|some (.struct a)=>Zvn P I a.toList|_=>false
 | .ptr=>match P.underlying t with|some (.pointer _)=>true|_=>false
 | .func=>match P.underlying t with|some (.func _ _ _)=>true|_=>false
 | .smap=>match P.underlying t,Zjy P t with|some (.map _ e),some (.string,j)=>Nat.beq e j&&(match ZcU P e with|some (.bool false)=>true|_=>false)|_,_=>false
 | .any=>match P.underlying t with|some (.interface _)=>true|_=>false
 | .other=>true
theorem ZxF {P:Program} {t:TypeId} {k:TK} (h:ZAj P t k=true):KM P t k:=by
 cases k<;>simp only[ZAj]at h<;>simp only[KM]<;>(try trivial)<;>(split at h<;>first|(cases h;done)|skip)
 ·rename_i hu;rw[Zfy h];exact hu
 ·rename_i hu;exact hu
 ·rename_i hu;exact hu
 ·rename_i hu;rw[hu,show _=_ from Xam h]
 ·rename_i hu
  simp only[Xag]at h
  rw[hu,show _=_ from Xam h.1,show _=_ from Xam h.2]
 ·rename_i hu
  obtain⟨C,j⟩:=ZoE h
  exact⟨_,hu,C,j⟩
 ·rename_i hu;exact⟨_,hu⟩
 ·rename_i hu;exact⟨_,_,_,hu⟩
 ·rename_i hu I
  simp only[Xag]at h
  obtain⟨C,j⟩:=h
  have J:=Xam C
  split at j
  ·rename_i R
   exact⟨_,_,hu,by rw[I,J],R⟩
  ·cases j
 ·rename_i hu;exact⟨_,hu⟩
def ZA1 (P:Program) (t:TypeId):TK→Bool
 | .int k=>match ZcU P t with|some (.int j n)=>keq k j&&(n==0)|_=>false
 | .str=>match ZcU P t with|some (.str s)=>Nat.beq s.size 0|_=>false
 |_=>true
def ZxC (P:Program) (t:TypeId) (i:TI):Bool:=
 (ZAj P t i.k&&ZA1 P t i.k)&&(match Za1 P t with|some n=>Nat.beq n i.sz|none=>false)&&(match ZiU P t with|some n=>Nat.beq n i.by_|none=>false)&&
 (match Zdn P t with|some zs=>Zz0 i.zero zs&&Nat.beq zs.length i.sz&&(match i.ct with|some c=>Nat.beq c.w i.sz&&zct c zs|none=>true)|none=>false)
theorem Zvp {P:Program} {t:TypeId} {i:TI} (h:ZxC P t i=true):TIok P t i:=by
 simp only[ZxC,Xag]at h
 obtain⟨⟨⟨⟨h1,j⟩,U⟩,h3⟩,J⟩:=h
 split at U
 ·rename_i n hn
  split at h3
  ·rename_i m hm
   split at J
   ·rename_i zs hz
    simp only[Xag]at J
    obtain⟨⟨h5,h6⟩,R⟩:=J
    refine⟨ZxF h1,by rw[hn,Xam U],by rw[hm,Xam h3],⟨zs,hz,fun φ=>ZrL h5,Xam h6⟩, ?_, ?_, ?_⟩
    rotate_left 1
    ·intro k hk
     rw[hk]at j
     simp only[ZA1]at j
     split at j
     ·rename_i k' n C
      simp only[Xag,beq_iff_eq]at j
      rw[C,Zfy j.1,j.2]
     ·cases j
    ·intro hk
     rw[hk]at j
     simp only[ZA1]at j
     split at j
     ·rename_i s C
      have e:s=⟨#[]⟩:=by
       apply ByteArray.ext
       exact Array.eq_empty_of_size_eq_zero (Xam j)
      rw[C,e]
     ·cases j
    intro c hc
    rw[hc]at R
    simp only[Xag]at R
    refine⟨Xam R.1,fun aa I=> ?_⟩
    rw[hz]at I;cases I
    exact Zq8 R.2
   ·cases J
  ·cases h3
 ·cases U
theorem ZzL {P:Program} {tr:Tr} (h:tr.all (ZxC P)=true):TysOK P tr.find:=by
 intro t
 rcases Tr.all_find h t with h|h
 ·left;rw[h];rfl
 ·exact .inr (Zvp h)
def Zwo:SV→Bool
 | .v _ _| .nilp| .nils| .nilf| .ref _ _ _ _=>true
 |_=>false
def okV:SV→Bool
 | .agg cs=>cs.all Zwo
 |V=>Zwo V
def Zv9:SV→List Nat
 | .ref id _ _ _=> [id]
 | .agg cs=>cs.flatMap fun c=>match c with| .ref id _ _ _=> [id]|_=> []
 |_=> []
def Zdm:SV→List SV
 | .tup vs=>vs
 |V=> [V]
def ZjH:SV→Bool
 | .v (.l _) _=>false
 | .v _ _| .nilp| .nils| .nilf| .ref _ _ _ _=>true
 |_=>false
def Zro:SV→Bool
 | .agg cs=>cs.all ZjH
 |V=>ZjH V
def Zp0:CT→Bool
 | .l _=>false
 | .p a c=>Zp0 a&&Zp0 c
 |_=>true
def Zh6:List SM→Bool
 | []=>true
 | .row _ _ _::r=>Zh6 r
 | .dead::r=>Zh6 r
 | .cell _ _::_=>false
 | .many _ _ _::_=>false
 | .set _::_=>false
def Zqe:List SM→Bool
 | []=>true
 | .row t _ _::r=>Zp0 t&&Zqe r
 | .dead::r=>Zqe r
 | .cell _ _::_=>false
 | .many _ _ _::_=>false
 | .set _::_=>false
def Zz3 (i:Nat):List Nat→Bool
 | []=>false
 |j::r=>match Nat.beq i j with
  |true=>true
  |false=>Zz3 i r
def ZeF (ids:List Nat):Nat→List SM→Bool
 |_,[]=>true
 |j, .dead::r=>ZeF ids (j+1) r
 |j,_::r=>Zz3 j ids&&ZeF ids (j+1) r
def ZpN (hp:List SM):List Nat→Bool
 | []=>true
 |j::r=>match nth hp j with
  |some (.row _ _ _)=>ZpN hp r
  |_=>false
def ZBm (Q:SV→List SM→Bool→Prop) (V:SV) (hp:List SM):Prop:=
 ∃V' hp',Ent 0 (ZcW 0 (Zdm V)) hp (ZcW 0 (Zdm V')) hp'∧(Nat.beq (Zdm V).length (Zdm V').length&&Bool.xor (ZbH V) (!ZbH V')&&(Zdm V').all okV&&Zh6 hp'&&ZeF ((Zdm V').flatMap Zv9) 0 hp'&&ZpN hp' ((Zdm V').flatMap Zv9))=true∧Q V' hp' ((Zdm V').all Zro&&Zqe hp')
theorem ZtH {i:Nat}: ∀ {xs ids:List Nat},i∈xs.foldl Zcj ids→i∈ids∨i∈xs
 | [],ids,h=> .inl h
 |x::xs,ids,h=>by
  rcases ZtH (xs:=xs) h with h|h
  ·unfold Zcj at h
   split at h
   ·exact .inl h
   ·rcases XaA.1 h with h|h
    ·exact .inl h
    ·exact .inr (by rw[Xat.1 h];exact Xah)
  ·exact .inr (Xai _ h)
theorem ZdS {H:List Mem} {ids:List Nat} (h: ∀i∈ids,ZnX H i=[]):ZeS H ids=ids:=by
 unfold ZeS
 rw[List.flatMap_eq_nil_iff.2 h];rfl
theorem ZfV {q:PV} (h:ZcX q=true):ZgP q=true∧ZbC q=true∧(∀b,sh b q=q)∧ZcI q=[]:=by
 cases q<;>simp only[ZcX]at h<;>first
  |exact⟨rfl,rfl,fun _=>rfl,rfl⟩
  |(cases h;done)
theorem Zfa {t:CT} {l:List t.D} {es:List (List PV)} (h:All2 (RR t) l es) (z:Nat) (m:Bool):ZfR (.row es z m)=true∧Zyl (.row es z m)=true∧ ∀b,shM b (.row es z m)= .row es z m:=by
 have hp:=RRs.plain h
 refine⟨Zse (fun c j v C=>(ZfV (hp c j v C)).1) z m, ?_,fun b=> ?_⟩
 ·simp only[Zyl,Xau]
  exact fun c j v C=>(ZfV (hp c j v C)).2.1
 ·simp only[shM,Mem.row.injEq,and_true]
  rw[List.map_congr_left (g:=id) (fun c j=>by
   rw[List.map_congr_left (g:=id) (fun v C=>(ZfV (hp c j v C)).2.2.1 b)];simp)]
  simp
section
variable {φ : Ph}
theorem Zrk {V:SV} {q:PV} (U:Zwo V=true) (C:RV φ V q):ZdF q=true∧ZbC q=true∧ZcI q=Zcq q∧(∀i,i∈Zcq q↔ ∃id j n m,V= .ref id j n m∧φ[id]? =some (some i)):=by
 cases V with
 |v t x=>
  have hp:ZcX q=true:=by simp only[RV]at C;exact C.plain q (by simp)
  cases q<;>simp only[ZcX]at hp<;>first
   |(cases hp;done)
   |exact⟨rfl,rfl,rfl,fun i=>by simp[Zcq]⟩
 |nilp=>simp only[RV]at C;subst C;exact⟨rfl,rfl,rfl,fun i=>by simp[Zcq]⟩
 |nils=>simp only[RV]at C;subst C;exact⟨rfl,rfl,rfl,fun i=>by simp[Zcq]⟩
 |nilf=>simp only[RV]at C;subst C;exact⟨rfl,rfl,rfl,fun i=>by simp[Zcq]⟩
 |ref id j n m=>
  simp only[RV]at C
  rcases C with⟨a,J,rfl⟩|⟨J,rfl,_⟩
  ·refine⟨rfl,rfl,rfl,fun i=> ?_⟩
   simp only[Zcq,Xat]
   constructor
   ·rintro rfl;exact⟨id,j,n,m,rfl,J⟩
   ·rintro⟨R,j',n',m',e,I⟩
    cases e
    rw[J]at I
    exact(XbF (XbF I)).symm
  ·refine⟨rfl,rfl,rfl,fun i=> ?_⟩
   simp only[Zcq,XaU,false_iff]
   rintro⟨R,j',n',m',e,I⟩
   cases e
   rw[J]at I
   cases I
 |_=>cases U
theorem ZrV {V:SV} {q:PV} (hv:Zwo V=true) (C:RV φ V q) (ids:List Nat) (base:Nat):RV (φ.map (Option.map fun a=>base+pos a ids)) V (sh1 base (ZjQ ids q))∧sh base (ren ids q)=sh1 base (ZjQ ids q)∧ZbC (ren ids q)=true∧ZdF (ZjQ ids q)=true∧(ZjH V=true→Zde (ren ids q)=true∧ZhY (ZjQ ids q)=true):=by
 cases V with
 |v t x=>
  have hp:ZcX q=true:=by simp only[RV]at C;exact C.plain q (by simp)
  have I:RV (φ.map (Option.map fun a=>base+pos a ids)) (.v t x) q:=by simpa only[RV]using C
  cases q<;>simp only[ZcX]at hp<;>first
   |(cases hp;done)
   |skip
  ·exact⟨I,rfl,rfl,rfl,fun _=>⟨rfl,rfl⟩⟩
  ·exact⟨I,rfl,rfl,rfl,fun _=>⟨rfl,rfl⟩⟩
  ·exact⟨I,rfl,rfl,rfl,fun _=>⟨rfl,rfl⟩⟩
  ·exact⟨I,rfl,rfl,rfl,fun _=>⟨rfl,rfl⟩⟩
  ·exact⟨I,rfl,rfl,rfl,fun _=>⟨rfl,rfl⟩⟩
  ·exact⟨I,rfl,rfl,rfl,fun _=>⟨rfl,rfl⟩⟩
  ·refine⟨I,rfl,rfl,rfl,fun U=> ?_⟩
   cases t<;>simp only[ZjH]at U<;>first
    |(cases U;done)
    |(simp[RV,RR]at C;done)
    |(simp only[RV,RR,List.cons.injEq,and_true]at C;cases x<;>(cases C;done))
    |skip
   simp only[RV]at C
   have:=C.len
   obtain⟨u,v,e,J,R⟩:=C
   have l1:=J.len
   have l2:=R.len
   have:=congrArg List.length e
   simp only[Xap,XbG,Xaw]at this
   have w: ∀t:CT,1≤t.w:=by
    intro t
    induction t with
    |p a c aa ab=>simp only[CT.w];omega
    |_=>simp[CT.w]
   rename_i a c _
   have:=w a
   have:=w c
   omega
 |nilp=>simp only[RV]at C;subst C;exact⟨by simp only[RV];rfl,rfl,rfl,rfl,fun _=>⟨rfl,rfl⟩⟩
 |nils=>simp only[RV]at C;subst C;exact⟨by simp only[RV];rfl,rfl,rfl,rfl,fun _=>⟨rfl,rfl⟩⟩
 |nilf=>simp only[RV]at C;subst C;exact⟨by simp only[RV];rfl,rfl,rfl,rfl,fun _=>⟨rfl,rfl⟩⟩
 |ref id j n m=>
  simp only[RV]at C
  rcases C with⟨a,J,rfl⟩|⟨J,rfl,R⟩
  ·refine⟨?_,rfl,rfl,rfl,fun _=>⟨rfl,rfl⟩⟩
   simp only[RV]
   exact .inl ⟨base+pos a ids,by rw[Xa2,J];rfl,rfl⟩
  ·refine⟨?_,rfl,rfl,rfl,fun _=>⟨rfl,rfl⟩⟩
   simp only[RV]
   exact .inr ⟨by rw[Xa2,J];rfl,rfl,R⟩
 |_=>cases hv
theorem Zw8 {V:SV} {q:PV} (U:okV V=true) (J:RV φ V q):ZbC q=true∧ ∀i,i∈ZcI q↔ ∃id,id∈Zv9 V∧φ[id]? =some (some i):=by
 have one:okV V=Zwo V→(∀i,(∃id j n m,V= .ref id j n m∧φ[id]? =some (some i))↔ ∃id,id∈Zv9 V∧φ[id]? =some (some i))→ZbC q=true∧ ∀i,i∈ZcI q↔ ∃id,id∈Zv9 V∧φ[id]? =some (some i):=by
  intro C h2
  rw[C]at U
  obtain⟨_,g2,g3,g4⟩:=Zrk U J
  exact⟨g2,fun i=>by rw[g3,g4 i,h2 i]⟩
 cases V with
 |ref id j n m=>
  refine one rfl fun i=>⟨?_, ?_⟩
  ·rintro⟨I,j',n',m',e,h⟩;cases e;exact⟨_,Xat.2 rfl,h⟩
  ·rintro⟨I,C,h⟩;rw[Xat.1 C]at h;exact⟨_,_,_,_,rfl,h⟩
 |agg cs=>
  simp only[okV,Xau]at U
  simp only[RV]at J
  obtain⟨aa,rfl,J⟩:=J
  have: ∀ (l:List SV) (R:List PV),(∀c∈l,Zwo c=true)→RL φ l R→R.all ZdF=true∧ ∀i,i∈R.flatMap Zcq↔ ∃id,id∈(l.flatMap fun c=>match c with| .ref id _ _ _=> [id]|_=> [])∧φ[id]? =some (some i):=by
   intro l
   induction l with
   |nil=>intro R _ h;simp only[RL]at h;subst h;simp
   |cons c r ih=>
    intro R C h2
    simp only[RL]at h2
    obtain⟨q,r',rfl,h3,h4⟩:=h2
    obtain⟨g1,_,_,g4⟩:=Zrk (C c Xah) h3
    obtain⟨f1,f2⟩:=ih r' (fun c hc=>C c (Xai _ hc)) h4
    refine⟨by simp only[XbL,g1,f1,Bool.and_self],fun i=> ?_⟩
    simp only[Xbu,XaA,g4 i,f2 i]
    constructor
    ·rintro(⟨id,j,n,m,rfl,h⟩|⟨id,h,h'⟩)
     ·exact⟨id, .inl (Xat.2 rfl),h⟩
     ·exact⟨id, .inr h,h'⟩
    ·rintro⟨id,h|h,h'⟩
     ·left
      cases c<;>simp at h
      subst h
      exact⟨_,_,_,_,rfl,h'⟩
     ·exact .inr ⟨id,h,h'⟩
  exact this cs aa U J
 |_=>
  refine one rfl fun i=>⟨?_, ?_⟩
  ·rintro⟨I,j',n',m',e,h⟩;cases e
  ·rintro⟨I,C,h⟩;simp[Zv9]at C
theorem ZxN {V:SV} {q:PV} (I:okV V=true) (C:RV φ V q) (ids:List Nat) (base:Nat):RV (φ.map (Option.map fun a=>base+pos a ids)) V (sh base (ren ids q))∧ZbC (ren ids q)=true∧(Zro V=true→Zde (ren ids q)=true):=by
 have one:okV V=Zwo V→Zro V=ZjH V→RV (φ.map (Option.map fun a=>base+pos a ids)) V (sh base (ren ids q))∧ZbC (ren ids q)=true∧(Zro V=true→Zde (ren ids q)=true):=by
  intro J R
  rw[J]at I
  obtain⟨g1,g2,g3,_,g4⟩:=ZrV I C ids base
  exact⟨by rw[g2];exact g1,g3,fun h=>(g4 (R▸h)).1⟩
 cases V with
 |agg cs=>
  simp only[okV,Xau]at I
  simp only[RV]at C⊢
  obtain⟨U,rfl,C⟩:=C
  have: ∀ (l:List SV) (j:List PV),(∀c∈l,Zwo c=true)→RL φ l j→RL (φ.map (Option.map fun a=>base+pos a ids)) l ((j.map (ZjQ ids)).map (sh1 base))∧(j.map (ZjQ ids)).all ZdF=true∧(l.all ZjH=true→(j.map (ZjQ ids)).all ZhY=true):=by
   intro l
   induction l with
   |nil=>intro j _ h;simp only[RL]at h;subst h;simp[RL]
   |cons c r ih=>
    intro j J R
    simp only[RL]at R
    obtain⟨q,r',rfl,h3,h4⟩:=R
    obtain⟨g1,_,_,g3,g4⟩:=ZrV (J c Xah) h3 ids base
    obtain⟨f1,f2,f3⟩:=ih r' (fun c hc=>J c (Xai _ hc)) h4
    refine⟨?_,by simp only[Xbb,XbL,g3,f2,Bool.and_self],fun hs=> ?_⟩
    ·simp only[Xbb,RL]
     exact⟨_,_,rfl,g1,f1⟩
    ·simp only[XbL,Xag]at hs
     simp only[Xbb,XbL,(g4 hs.1).2,f3 hs.2,Bool.and_self]
  obtain⟨f1,f2,f3⟩:=this cs U I C
  exact⟨⟨_,rfl,f1⟩,f2,f3⟩
 |_=>exact one rfl rfl
theorem Zph (ids:List Nat) (base:Nat): ∀ {l:List SV} {j:List PV},l.all okV=true→RL φ l j→RL (φ.map (Option.map fun a=>base+pos a ids)) l (j.map fun q=>sh base (ren ids q))∧(∀q∈j,ZbC (ren ids q)=true)∧(l.all Zro=true→ ∀q∈j,Zde (ren ids q)=true)
 | [],j,_,h=>by simp only[RL]at h;subst h;simp[RL]
 |V::l,j,C,J=>by
  simp only[XbL,Xag]at C
  simp only[RL]at J
  obtain⟨q,r',rfl,R,U⟩:=J
  obtain⟨g1,g2,g3⟩:=ZxN C.1 R ids base
  obtain⟨f1,f2,f3⟩:=Zph ids base C.2 U
  refine⟨?_, ?_, ?_⟩
  ·simp only[Xbb,RL]
   exact⟨_,_,rfl,g1,f1⟩
  ·intro x hx
   rcases Xav.1 hx with rfl|hx
   ·exact g2
   ·exact f2 x hx
  ·intro I x hx
   simp only[XbL,Xag]at I
   rcases Xav.1 hx with rfl|hx
   ·exact g3 I.1
   ·exact f3 I.2 x hx
theorem ZoC: ∀ {l:List SV} {C:List PV},l.all okV=true→RL φ l C→(∀q∈C,ZbC q=true)∧ ∀i,i∈C.flatMap ZcI↔ ∃id,id∈l.flatMap Zv9∧φ[id]? =some (some i)
 | [],C,_,h=>by simp only[RL]at h;subst h;simp
 |V::l,C,I,J=>by
  simp only[XbL,Xag]at I
  simp only[RL]at J
  obtain⟨q,r',rfl,R,U⟩:=J
  obtain⟨g1,g2⟩:=Zw8 I.1 R
  obtain⟨f1,f2⟩:=ZoC I.2 U
  refine⟨?_,fun i=> ?_⟩
  ·intro x hx
   rcases Xav.1 hx with rfl|hx
   ·exact g1
   ·exact f1 x hx
  ·simp only[Xbu,XaA,g2 i,f2 i]
   constructor
   ·rintro(⟨id,h,j⟩|⟨id,h,j⟩)
    ·exact⟨id, .inl h,j⟩
    ·exact⟨id, .inr h,j⟩
   ·rintro⟨id,h|h,j⟩
    ·exact .inl ⟨id,h,j⟩
    ·exact .inr ⟨id,h,j⟩
end
open Go.Am
section
variable {φ : Ph} {hp : List SM}
theorem Zvo {V:SV} {v:PV} (I:RV φ V v):RL φ (Zdm V) (Zcg v)∧(ZbH V=true→ ∀y,ZhC v [y]=y)∧(ZbH V=false→ ∀C,ZhC v C= .tup C):=by
 have one:(∀vs,v≠ .tup vs)→Zdm V=[V]→ZbH V=true→RL φ (Zdm V) (Zcg v)∧(ZbH V=true→ ∀y,ZhC v [y]=y)∧(ZbH V=false→ ∀C,ZhC v C= .tup C):=by
  intro J R U
  have e1:Zcg v=[v]:=by
   cases v<;>first
    |rfl
    |exact absurd rfl (J _)
  refine⟨?_,fun _ y=> ?_,fun h=>by rw[U]at h;cases h⟩
  ·rw[R,e1]
   simp only[RL]
   exact⟨_,_,rfl,I,rfl⟩
  ·cases v<;>first
    |rfl
    |exact absurd rfl (J _)
 have j:=I
 cases V<;>simp only[RV]at j
 case v t x=>
  have hp:ZcX v=true:=j.plain v (by simp)
  exact one (fun vs e=>by subst e;cases hp) rfl rfl
 case nilp=>subst j;exact one (by simp) rfl rfl
 case nils=>subst j;exact one (by simp) rfl rfl
 case nilf=>subst j;exact one (by simp) rfl rfl
 case nili=>subst j;exact one (by simp) rfl rfl
 case nilmp=>subst j;exact one (by simp) rfl rfl
 case mp=>obtain⟨a,_,rfl⟩:=j;exact one (by simp) rfl rfl
 case ref=>rcases j with⟨a,_,rfl⟩|⟨_,rfl,_⟩<;>exact one (by simp) rfl rfl
 case ptr=>obtain⟨a,_,rfl⟩:=j;exact one (by simp) rfl rfl
 case box=>obtain⟨a,rfl,_⟩:=j;exact one (by simp) rfl rfl
 case func=>obtain⟨_,_,rfl,_⟩:=j;exact one (by simp) rfl rfl
 case agg=>obtain⟨_,rfl,_⟩:=j;exact one (by simp) rfl rfl
 case tup vs=>
  obtain⟨vs',rfl,h⟩:=j
  exact⟨h,fun h=>by(cases h),fun _ C=>rfl⟩
theorem Zkl: ∀ (l:List SV) (n i:Nat),ZcD (n+i) (ZcW n l)=l[i]?
 | [],n,i=>by simp[ZcW,ZcD]
 |V::r,n,0=>by
  simp only[ZcW,ZeU,Nat.add_zero,List.getElem?_cons_zero]
  rw[show Nat.beq n n=true from by simp];rfl
 |V::r,n,i+1=>by
  simp only[ZcW,ZeU,Xbp]
  have:Nat.beq (n+(i+1)) n=false:=by
   cases j:Nat.beq (n+(i+1)) n with
   |true=>have:=Xam j;omega
   |false=>rfl
  rw[this,cond_false,show n+(i+1)=(n+1)+i from by omega]
  exact Zkl r (n+1) i
theorem ZlL: ∀ {l:List SV} {j:List PV},l.length=j.length→(∀ (i:Nat) (V:SV),l[i]? =some V→ ∃q,j[i]? =some q∧RV φ V q)→RL φ l j
 | [],[],_,_=>by simp only[RL]
 |V::l,q::j,I,h=>by
  simp only[RL]
  obtain⟨U,C,J⟩:=h 0 V rfl
  simp at C
  subst C
  exact⟨q,j,rfl,J,ZlL (by simpa using I) fun i W R=>by simpa using h (i+1) W (by simpa using R)⟩
theorem Zgm {i:Nat}: ∀ {l:List Nat},Zz3 i l=true→i∈l
 | [],h=>by cases h
 |j::r,h=>by
  simp only[Zz3]at h
  split at h
  ·rename_i C
   rw[Xam C];exact Xah
  ·exact Xai _ (Zgm h)
theorem Zcc {ids:List Nat}: ∀ {l:List SM} {n j:Nat} {m:SM},ZeF ids n l=true→l[j]? =some m→live m=true→n+j∈ids
 | .dead::r,n,0,m,h,hm,C=>by simp at hm;subst hm;cases C
 | .dead::r,n,j+1,m,h,hm,C=>by
  have:=Zcc (l:=r) (n:=n+1) (j:=j) h (by simpa using hm) C
  rw[show n+(j+1)=n+1+j from by omega];exact this
 | .row _ _ _::r,n,0,m,h,hm,C=>by
  simp only[ZeF,Xag]at h
  exact Zgm h.1
 | .row _ _ _::r,n,j+1,m,h,hm,C=>by
  simp only[ZeF,Xag]at h
  have:=Zcc (l:=r) (n:=n+1) (j:=j) h.2 (by simpa using hm) C
  rw[show n+(j+1)=n+1+j from by omega];exact this
 | .cell _ _::r,n,0,m,h,hm,C=>by
  simp only[ZeF,Xag]at h
  exact Zgm h.1
 | .cell _ _::r,n,j+1,m,h,hm,C=>by
  simp only[ZeF,Xag]at h
  have:=Zcc (l:=r) (n:=n+1) (j:=j) h.2 (by simpa using hm) C
  rw[show n+(j+1)=n+1+j from by omega];exact this
 | .many _ _ _::r,n,0,m,h,hm,C=>by
  simp only[ZeF,Xag]at h
  exact Zgm h.1
 | .many _ _ _::r,n,j+1,m,h,hm,C=>by
  simp only[ZeF,Xag]at h
  have:=Zcc (l:=r) (n:=n+1) (j:=j) h.2 (by simpa using hm) C
  rw[show n+(j+1)=n+1+j from by omega];exact this
 | .set _::r,n,0,m,h,hm,C=>by
  simp only[ZeF,Xag]at h
  exact Zgm h.1
 | .set _::r,n,j+1,m,h,hm,C=>by
  simp only[ZeF,Xag]at h
  have:=Zcc (l:=r) (n:=n+1) (j:=j) h.2 (by simpa using hm) C
  rw[show n+(j+1)=n+1+j from by omega];exact this
theorem ZfQ: ∀ {l:List SM} {j:Nat} {m:SM},Zh6 l=true→l[j]? =some m→live m=true→ ∃t r b,m= .row t r b
 | .row t x b::r,0,m,_,hm,_=>by simp at hm;subst hm;exact⟨t,x,b,rfl⟩
 | .row _ _ _::r,j+1,m,h,hm,C=>ZfQ (l:=r) h (by simpa using hm) C
 | .dead::r,0,m,_,hm,C=>by simp at hm;subst hm;cases C
 | .dead::r,j+1,m,h,hm,C=>ZfQ (l:=r) h (by simpa using hm) C
theorem Zkq: ∀ {l:List SM} {j:Nat} {t:CT} {x:List t.D} {b:Bool},Zqe l=true→l[j]? =some (.row t x b)→Zp0 t=true
 | .row t x b::r,0,_,_,_,h,hm=>by
  simp only[Zqe,Xag]at h
  simp at hm
  obtain⟨rfl,_⟩:=hm
  exact h.1
 | .row _ _ _::r,j+1,_,_,_,h,hm=>by
  simp only[Zqe,Xag]at h
  exact Zkq (l:=r) h.2 (by simpa using hm)
 | .dead::r,0,_,_,_,_,hm=>by simp at hm
 | .dead::r,j+1,_,_,_,h,hm=>Zkq (l:=r) h (by simpa using hm)
theorem Zld: ∀ {t:CT} {x:t.D} {cs:List PV},Zp0 t=true→RR t x cs→ ∀q∈cs,Zde q=true
 | .i _,_,_,_,h,q,hq| .b,_,_,_,h,q,hq| .s,_,_,_,h,q,hq=>by simp only[RR]at h;subst h;rw[Xat.1 hq];rfl
 | .any,x,_,_,h,q,hq=>by simp only[RR]at h;subst h;rw[Xat.1 hq];cases x<;>rfl
 | .p a c,x,cs,j,h,q,hq=>by
  simp only[Zp0,Xag]at j
  obtain⟨u,v,rfl,C,I⟩:=h
  rcases XaA.1 hq with hq|hq
  ·exact Zld j.1 C q hq
  ·exact Zld j.2 I q hq
theorem Zko {hp:List SM}: ∀ {l:List Nat} {j:Nat},ZpN hp l=true→j∈l→ ∃t x b,hp[j]? =some (.row t x b)
 |i::r,j,h,hj=>by
  simp only[ZpN]at h
  split at h
  ·rename_i C
   rcases Xav.1 hj with rfl|hj
   ·rw[Za5]at C;exact⟨_,_,_,C⟩
   ·exact Zko h hj
  ·cases h
theorem ZwX {P:Program} {h:Hints} {f:FuncId} {qs:List PV} {v:PV} {H:List Mem} {V:SV} {Q:SV→List SM→Bool→Prop} (bl:(lim P h).rn f qs []=some (v,H)) (hh:RH φ hp (fun a=>H[a]?)) (hv:RV φ V v) (hk:ZBm Q V hp) (base:Nat):
 ∃v rows sf φ V hp ay,ZdL (lim P h) f qs base=some (v,rows,sf)∧RV φ V v∧RH φ hp (fun a=>if base≤a then rows[a-base]? else none)∧(ay=true→sf=true)∧Q V hp ay:=by
 obtain⟨V',hp',az,ao,hQ⟩:=hk
 simp only[Xag]at ao
 obtain⟨⟨⟨⟨⟨hlen,ad⟩,a1⟩,aq⟩,ag⟩,bm⟩:=ao
 have hlen:=Xam hlen
 obtain⟨ae,a6,a7⟩:=Zvo hv
 obtain⟨ψ,_,hs⟩:=az.out φ ⟨Zbq 0 (Zcg v),H⟩ (Xao _) ⟨ZkI ae,hh⟩
 have a8:RL ψ (Zdm V') (Zcg v):=by
  refine ZlL (by rw[←hlen];exact ae.len) fun i W hW=> ?_
  obtain⟨q,R,h2⟩:=hs.tm i W (by have:=Zkl (Zdm V') 0 i;rw[Xaq]at this;rw[this];exact hW)
  have C:=ZgJ (Zcg v) 0 i
  rw[Xaq]at C
  exact⟨q,by rw[←C];exact R,h2⟩
 have ak:=hs.hp
 obtain⟨ba,bb⟩:=ZoC a1 a8
 have al:((Zbq 0 (Zcg v)).flatMap fun x=>ZcI x.2)=(Zcg v).flatMap ZcI:=by
  have:=ZbS (Zcg v) 0
  conv=>rhs;rw[←this]
  rw[List.flatMap_map]
 obtain⟨ids,U⟩: ∃ids,ZAC (Zbq 0 (Zcg v))=ids:=⟨_,rfl⟩
 have af: ∀i,i∈ids↔ ∃id,id∈(Zdm V').flatMap Zv9∧ψ[id]? =some (some i):=by
  intro i
  rw[←bb i,←U]
  unfold ZAC
  rw[al]
  constructor
  ·intro hm
   rcases ZtH hm with hm|hm
   ·simp at hm
   ·exact hm
  ·exact(Zet _ [] List.nodup_nil).2.2 i
 have J: ∀i∈ids,∃ (j:Nat) (t:CT) (l:List t.D) (b:Bool) (es:List (List PV)) (I:Bool),hp'[j]? =some (.row t l b)∧ψ[j]? =some (some i)∧H[i]? =some (.row es t.w I)∧All2 (RR t) l es∧(b=true→I=true):=by
  intro i hi
  obtain⟨j,R,h2⟩:=(af i).1 hi
  obtain⟨t,l,b,hm⟩:=Zko bm R
  have hr:=ak.row _ _ _ hm h2
  simp only[RM]at hr
  obtain⟨es,I,C,h4,h5⟩:=hr
  exact⟨j,t,l,b,es,I,hm,h2,C,h4,h5⟩
 have aa: ∀i∈ids,ZnX H i=[]:=by
  intro i hi
  obtain⟨j,t,l,b,es,I,_,_,C,h4,_⟩:=J i hi
  rw[Zus,C,ZtO,Zgy (Zfa h4 _ _).1]
 obtain⟨Hc,ar⟩: ∃Hc,ZaV (fun i=>(H[i]?).bind fun m=>if(okM m&&(Zm3 m).all ids.contains)=true then some (Znv ids m)else none) ids=some Hc:=by
  have: ∀l:List Nat,(∀i∈l,i∈ids)→ ∃Hc,ZaV (fun i=>(H[i]?).bind fun m=>if(okM m&&(Zm3 m).all ids.contains)=true then some (Znv ids m)else none) l=some Hc:=by
   intro l
   induction l with
   |nil=>intro _;exact⟨[],rfl⟩
   |cons i r ih=>
    intro hl
    obtain⟨Hr,hr⟩:=ih fun x hx=>hl x (Xai _ hx)
    obtain⟨j,t,l,b,es,I,_,_,C,h4,_⟩:=J i (hl i Xah)
    have hf:=(Zfa h4 t.w I).1
    refine⟨.row es t.w I::Hr, ?_⟩
    rw[Za7,hr,C]
    simp only[Xab,ZkM hf,Zgy hf,List.all_nil,Bool.and_self,if_true,Zi6 hf]
  exact this ids fun _ h=>h
 have bc: ∀ (i:Nat) (es:List (List PV)) (z:Nat) (I:Bool),i∈ids→H[i]? =some (.row es z I)→ZfR (.row es z I)=true→Hc[pos i ids]? =some (.row es z I):=by
  intro i es z I hi C hf
  rw[(ZnJ ar).2,ZiG hi]
  simp only[Xab,C,ZkM hf,Zgy hf,List.all_nil,Bool.and_self,if_true,Zi6 hf]
 have ab: ∀m∈Hc,∃i∈ids,H[i]? =some m:=by
  intro m hm
  obtain⟨i,hi,R⟩:=ZkA ar m hm
  refine⟨i,hi, ?_⟩
  obtain⟨j,t,l,b,es,I,_,_,C,h4,_⟩:=J i hi
  have hf:=(Zfa h4 t.w I).1
  rw[C]at R
  simp only[Xab,ZkM hf,Zgy hf,List.all_nil,Bool.and_self,if_true,Zi6 hf,Xaf]at R
  rw[C,R]
 have au:Zeb (Zbq 0 (Zcg v)) H=some ⟨(Zbq 0 (Zcg v)).map fun x=>(x.1,ren ids x.2),Hc⟩:=by
  rw[ZnM,U,ZdS aa,ZdS aa,ZdS aa]
  unfold Zo4
  rw[if_pos ?_,ar]
  ·rfl
  ·rw[Xau]
   intro x hx
   refine ba x.2 ?_
   have:=List.mem_map_of_mem (f:=fun y:Nat×PV=>y.2) hx
   rw[ZbS]at this
   exact this
 obtain⟨ah,bd,an⟩:=Zph (φ:=ψ) ids base a1 a8
 have av:((Zbq 0 (Zcg v)).map fun x=>(x.1,ren ids x.2)).map (fun y=>sh base y.2)=(Zcg v).map fun q=>sh base (ren ids q):=by
  have:=ZbS (Zcg v) 0
  rw[List.map_map]
  conv=>rhs;rw[←this]
  rw[List.map_map];rfl
 have bf:((((Zbq 0 (Zcg v)).map fun x=>(x.1,ren ids x.2)).all fun y=>ZbC y.2)&&Hc.all Zyl)=true:=by
  rw[Xag,Xau,Xau]
  refine⟨fun y hy=> ?_,fun m hm=> ?_⟩
  ·obtain⟨x,hx,rfl⟩:=Xbq.1 hy
   refine bd x.2 ?_
   have:=List.mem_map_of_mem (f:=fun y:Nat×PV=>y.2) hx
   rw[ZbS]at this
   exact this
  ·obtain⟨i,hi,R⟩:=ab m hm
   obtain⟨j,t,l,b,es,I,_,_,C,h4,_⟩:=J i hi
   rw[R]at C;cases C
   exact(Zfa h4 _ _).2.1
 have bn:Hc.map (shM base)=Hc:=by
  conv=>rhs;rw[←List.map_id Hc]
  refine List.map_congr_left fun m hm=> ?_
  obtain⟨i,hi,R⟩:=ab m hm
  obtain⟨j,t,l,b,es,I,_,_,C,h4,_⟩:=J i hi
  rw[R]at C;cases C
  exact(Zfa h4 _ _).2.2 base
 refine⟨ZhC v ((Zcg v).map fun q=>sh base (ren ids q)),Hc,(((Zbq 0 (Zcg v)).map fun x=>(x.1,ren ids x.2)).all fun y=>Zde y.2)&&Hc.all ZlK,ψ.map (Option.map fun a=>base+pos a ids),V',hp',_, ?_, ?_,⟨by simp[ak.len], ?_, ?_⟩, ?_,hQ⟩
 ·simp only[ZdL,bl,Xab,au]
  rw[if_pos bf,av,bn]
 ·cases hn:ZbH V' with
  |true=>
   have aw:ZbH V=true:=by rw[hn]at ad;cases h:ZbH V<;>simp[h]at ad⊢
   have hp1:Zdm V'=[V']:=by cases V'<;>first|rfl|cases hn
   rw[hp1]at ah
   obtain⟨q,R,h2⟩:=RL1 ah
   rw[R,a6 aw]
   exact h2
  |false=>
   have aw:ZbH V=false:=by rw[hn]at ad;cases h:ZbH V<;>simp[h]at ad⊢
   rw[a7 aw]
   cases V'<;>first
    |cases hn
    |skip
   simp only[RV]
   exact⟨_,rfl,ah⟩
 ·intro j m o hm ho
  by_cases hl:live m=true
  ·obtain⟨t,l,b,rfl⟩:=ZfQ aq hm hl
   rw[Xa2]at ho
   obtain⟨o',ai,rfl⟩:=Zxf ho
   have hr:=ak.row _ _ _ hm ai
   have aj:=Zcc ag hm hl
   rw[Xaq]at aj
   simp only[RM]at hr⊢
   cases o' with
   |none=>exact hr
   |some a=>
    obtain⟨es,I,C,h4,h5⟩:=hr
    have ha:a∈ids:=(af a).2 ⟨j,aj,ai⟩
    refine⟨es,I, ?_,h4,h5⟩
    show(if base≤base+pos a ids then Hc[base+pos a ids-base]? else none)=_
    rw[if_pos (by omega),show base+pos a ids-base=pos a ids from by omega]
    exact bc a es _ I ha C (Zfa h4 _ _).1
  ·cases m with
   |dead=>trivial
   |_=>exact absurd rfl hl
 ·intro j j' m I a bo hm bg hl bh ho ai
  rw[Xa2]at ho ai
  obtain⟨o,R,h2⟩:=Zxf ho
  obtain⟨o',bj,bk⟩:=Zxf ai
  cases o with
  |none=>cases h2
  |some x=>
   cases o' with
   |none=>cases bk
   |some x'=>
    simp only[Xak,Xaf]at h2 bk
    have g:=Zcc ag hm hl
    have g':=Zcc ag bg bh
    rw[Xaq]at g g'
    have e1:=ZiG ((af x).2 ⟨j,g,R⟩)
    have e2:=ZiG ((af x').2 ⟨j',g',bj⟩)
    rw[show pos x ids=pos x' ids from by omega]at e1
    rw[e1]at e2
    cases e2
    exact ak.inj _ _ _ _ _ bo hm bg hl bh R bj
 ·intro ax
  rw[Xag]at ax
  rw[Xag,Xau,Xau]
  refine⟨fun y hy=> ?_,fun m hm=> ?_⟩
  ·obtain⟨x,hx,rfl⟩:=Xbq.1 hy
   refine an ax.1 x.2 ?_
   have:=List.mem_map_of_mem (f:=fun y:Nat×PV=>y.2) hx
   rw[ZbS]at this
   exact this
  ·obtain⟨i,hi,R⟩:=ab m hm
   obtain⟨j,t,l,b,es,I,h6,_,C,h4,_⟩:=J i hi
   rw[R]at C;cases C
   have hc:=Zkq ax.2 h6
   simp only[ZlK,Xau]
   intro c bp q hq
   obtain⟨x,_,hx⟩:=h4.mem bp
   exact Zld hc hx q hq
theorem ZbR {P:Program} {h:Hints} {T:TypeId→TI} (C:TysOK P T) {f:FuncId} {fn:Func} {code:Code} {Vs:List SV} {Q:SV→List SM→Bool→Prop} (j:h.ok f=true) (I:P.funcs[f]? =some fn) (J:fn.body=some code) (R:Vs.length≤fn.ntmps)
 (hw:wp P h T 0 ⟨f,0,fn.ntmps⟩ code (ZcW 0 Vs) [] (Zyr T fn.results.toList fun V hp=>ZBm Q V hp)):ImpOK P h f Vs Q:=by
 refine⟨fun qs U base=> ?_⟩
 obtain⟨v,H',φ',V,hp',h1,_,h3,h4,h5⟩:=ZwT (φ:=[]) (H:=[]) C j I J R hw (Xao _) RH.empty U
 exact ZwX h1 h3 h4 h5 base
end
theorem Zai {P:Program} {h:Hints} {T:TypeId→TI} (C:TysOK P T) {f:FuncId} {fn:Func} {Vs:List SV} {Q:SV→Prop} (I:P.funcs[f]? =some fn)
 (hw:wp P h T 0 ⟨f,0,fn.ntmps⟩ (Zbn fn) (ZcW 0 Vs) [] (Zyr T fn.results.toList fun V hp=>Zjq hp 40 V Q))
 (j:h.ok f=true:=by kernel_rfl) (hp:h.prim f=none:=by exact rfl) (J:fn.body=some (Zbn fn):=by kernel_rfl) (R:Vs.length≤fn.ntmps:=by exact Xal (by kernel_rfl)):PureOK P h f Vs Q:=
 ZiJ C j hp I J R hw
end
end Go.Tx
namespace Go.Proofs.YtapbiodcncnnfaaGreatDoor
noncomputable section
open Go.Tx
def ZBi:Tr:=
 (.nd 57 (.nd 29 (.nd 22 (.nd 4 (.nd 3 (.lf 2 ⟨.int .i64,1,8,[.v (.i .i64) (0:Int)],some (.i .i64)⟩) (.lf 3 ⟨.int .i64,1,8,[.v (.i .i64) (0:Int)],some (.i .i64)⟩)) (.nd 5 (.lf 4 ⟨.bool,1,1,[.v .b false],some (.b)⟩) (.nd 9 (.lf 5 ⟨.int .u8,1,1,[.v (.i .u8) (0:Int)],some (.i .u8)⟩) (.lf 9 ⟨.str,1,16,[.v .s []],some (.s)⟩)))) (.nd 25 (.nd 23 (.lf 22 ⟨.slice 9,1,24,[.nils],some (.l (.s))⟩) (.nd 24 (.lf 23 ⟨.slice 86,1,24,[.nils],some (.l (.p (.s) (.p (.s) (.p (.s) (.p (.b) (.b))))))⟩) (.lf 24 ⟨.slice 50,1,24,[.nils],some (.l (.p (.s) (.p (.s) (.p (.s) (.p (.i .i64) (.p (.i .i64) (.p (.i .i64) (.p (.i .i64) (.p (.i .i64) (.i .i64))))))))))⟩))) (.nd 26 (.lf 25 ⟨.slice 88,1,24,[.nils],some (.l (.p (.s) (.p (.s) (.p (.i .i64) (.p (.i .i64) (.i .i64))))))⟩) (.nd 27 (.lf 26 ⟨.slice 90,1,24,[.nils],some (.l (.p (.s) (.p (.s) (.i .i64))))⟩) (.lf 27 ⟨.slice 106,1,24,[.nils],some (.l (.p (.s) (.p (.s) (.p (.i .i64) (.p (.i .i64) (.i .i64))))))⟩))))) (.nd 38 (.nd 31 (.nd 30 (.lf 29 ⟨.struct [(0,22,1),(1,23,1),(2,24,1),(3,25,1),(4,26,1),(5,27,1)],6,144,[.nils, .nils, .nils, .nils, .nils, .nils],some (.p (.l (.s)) (.p (.l (.p (.s) (.p (.s) (.p (.s) (.p (.b) (.b)))))) (.p (.l (.p (.s) (.p (.s) (.p (.s) (.p (.i .i64) (.p (.i .i64) (.p (.i .i64) (.p (.i .i64) (.p (.i .i64) (.i .i64)))))))))) (.p (.l (.p (.s) (.p (.s) (.p (.i .i64) (.p (.i .i64) (.i .i64)))))) (.p (.l (.p (.s) (.p (.s) (.i .i64)))) (.l (.p (.s) (.p (.s) (.p (.i .i64) (.p (.i .i64) (.i .i64)))))))))))⟩) (.lf 30 ⟨.slice 39,1,24,[.nils],some (.l (.l (.s)))⟩)) (.nd 33 (.lf 31 ⟨.slice 3,1,24,[.nils],some (.l (.i .i64))⟩) (.nd 34 (.lf 33 ⟨.ptr,1,8,[.nilp],none⟩) (.lf 34 ⟨.int .i64,1,8,[.v (.i .i64) (0:Int)],some (.i .i64)⟩)))) (.nd 46 (.nd 39 (.lf 38 ⟨.slice 57,1,24,[.nils],some (.l (.s))⟩) (.nd 43 (.lf 39 ⟨.slice 57,1,24,[.nils],some (.l (.s))⟩) (.lf 43 ⟨.slice 4,1,24,[.nils],some (.l (.b))⟩))) (.nd 50 (.lf 46 ⟨.slice 52,1,24,[.nils],some (.l (.p (.s) (.i .i64)))⟩) (.nd 52 (.lf 50 ⟨.struct [(0,9,1),(1,9,1),(2,9,1),(3,3,1),(4,3,1),(5,3,1),(6,3,1),(7,3,1),(8,3,1)],9,96,[.v .s [], .v .s [], .v .s [], .v (.i .i64) (0:Int), .v (.i .i64) (0:Int), .v (.i .i64) (0:Int), .v (.i .i64) (0:Int), .v (.i .i64) (0:Int), .v (.i .i64) (0:Int)],some (.p (.s) (.p (.s) (.p (.s) (.p (.i .i64) (.p (.i .i64) (.p (.i .i64) (.p (.i .i64) (.p (.i .i64) (.i .i64)))))))))⟩) (.lf 52 ⟨.struct [(0,9,1),(1,3,1)],2,24,[.v .s [], .v (.i .i64) (0:Int)],some (.p (.s) (.i .i64))⟩)))))) (.nd 91 (.nd 72 (.nd 64 (.nd 61 (.lf 57 ⟨.str,1,16,[.v .s []],some (.s)⟩) (.lf 61 ⟨.slice 76,1,24,[.nils],some (.l (.p (.p (.b) (.l (.i .u32))) (.p (.b) (.l (.i .u32)))))⟩)) (.nd 68 (.lf 64 ⟨.struct [(0,24,1),(1,61,1),(2,31,1),(3,43,1),(4,3,1)],5,104,[.nils, .nils, .nils, .nils, .v (.i .i64) (0:Int)],some (.p (.l (.p (.s) (.p (.s) (.p (.s) (.p (.i .i64) (.p (.i .i64) (.p (.i .i64) (.p (.i .i64) (.p (.i .i64) (.i .i64)))))))))) (.p (.l (.p (.p (.b) (.l (.i .u32))) (.p (.b) (.l (.i .u32))))) (.p (.l (.i .i64)) (.p (.l (.b)) (.i .i64)))))⟩) (.nd 71 (.lf 68 ⟨.slice 71,1,24,[.nils],some (.l (.p (.s) (.p (.l (.s)) (.p (.b) (.b)))))⟩) (.lf 71 ⟨.struct [(0,9,1),(1,22,1),(2,4,1),(3,4,1)],4,48,[.v .s [], .nils, .v .b false, .v .b false],some (.p (.s) (.p (.l (.s)) (.p (.b) (.b))))⟩)))) (.nd 86 (.nd 74 (.lf 72 ⟨.slice 132,1,24,[.nils],some (.l (.i .u32))⟩) (.nd 76 (.lf 74 ⟨.struct [(0,4,1),(1,72,1)],2,32,[.v .b false, .nils],some (.p (.b) (.l (.i .u32)))⟩) (.lf 76 ⟨.struct [(0,74,2),(2,74,2)],4,64,[.v .b false, .nils, .v .b false, .nils],some (.p (.p (.b) (.l (.i .u32))) (.p (.b) (.l (.i .u32))))⟩))) (.nd 88 (.lf 86 ⟨.struct [(0,9,1),(1,9,1),(2,9,1),(3,4,1),(4,4,1)],5,56,[.v .s [], .v .s [], .v .s [], .v .b false, .v .b false],some (.p (.s) (.p (.s) (.p (.s) (.p (.b) (.b)))))⟩) (.nd 90 (.lf 88 ⟨.struct [(0,9,1),(1,9,1),(2,3,1),(3,3,1),(4,3,1)],5,56,[.v .s [], .v .s [], .v (.i .i64) (0:Int), .v (.i .i64) (0:Int), .v (.i .i64) (0:Int)],some (.p (.s) (.p (.s) (.p (.i .i64) (.p (.i .i64) (.i .i64)))))⟩) (.lf 90 ⟨.struct [(0,9,1),(1,9,1),(2,3,1)],3,40,[.v .s [], .v .s [], .v (.i .i64) (0:Int)],some (.p (.s) (.p (.s) (.i .i64)))⟩))))) (.nd 126 (.nd 96 (.nd 93 (.lf 91 ⟨.slice 34,1,24,[.nils],some (.l (.i .i64))⟩) (.nd 94 (.lf 93 ⟨.func,1,8,[.nilf],none⟩) (.lf 94 ⟨.smap,1,8,[.nilmp],none⟩))) (.nd 106 (.lf 96 ⟨.struct [(0,94,1),(1,22,1)],2,32,[.nilmp, .nils],none⟩) (.nd 121 (.lf 106 ⟨.struct [(0,9,1),(1,9,1),(2,3,1),(3,3,1),(4,3,1)],5,56,[.v .s [], .v .s [], .v (.i .i64) (0:Int), .v (.i .i64) (0:Int), .v (.i .i64) (0:Int)],some (.p (.s) (.p (.s) (.p (.i .i64) (.p (.i .i64) (.i .i64)))))⟩) (.lf 121 ⟨.int .u64,1,8,[.v (.i .u64) (0:Int)],some (.i .u64)⟩)))) (.nd 164 (.nd 132 (.lf 126 ⟨.int .u64,1,8,[.v (.i .u64) (0:Int)],some (.i .u64)⟩) (.nd 137 (.lf 132 ⟨.int .u32,1,4,[.v (.i .u32) (0:Int)],some (.i .u32)⟩) (.lf 137 ⟨.slice 5,1,24,[.nils],some (.l (.i .u8))⟩))) (.nd 202 (.lf 164 ⟨.arr 2 9,2,32,[.v .s [], .v .s []],some (.p (.s) (.s))⟩) (.nd 203 (.lf 202 ⟨.arr 32 5,32,32,[.v (.i .u8) (0:Int), .v (.i .u8) (0:Int), .v (.i .u8) (0:Int), .v (.i .u8) (0:Int), .v (.i .u8) (0:Int), .v (.i .u8) (0:Int), .v (.i .u8) (0:Int), .v (.i .u8) (0:Int), .v (.i .u8) (0:Int), .v (.i .u8) (0:Int), .v (.i .u8) (0:Int), .v (.i .u8) (0:Int), .v (.i .u8) (0:Int), .v (.i .u8) (0:Int), .v (.i .u8) (0:Int), .v (.i .u8) (0:Int), .v (.i .u8) (0:Int), .v (.i .u8) (0:Int), .v (.i .u8) (0:Int), .v (.i .u8) (0:Int), .v (.i .u8) (0:Int), .v (.i .u8) (0:Int), .v (.i .u8) (0:Int), .v (.i .u8) (0:Int), .v (.i .u8) (0:Int), .v (.i .u8) (0:Int), .v (.i .u8) (0:Int), .v (.i .u8) (0:Int), .v (.i .u8) (0:Int), .v (.i .u8) (0:Int), .v (.i .u8) (0:Int), .v (.i .u8) (0:Int)],none⟩) (.lf 203 ⟨.arr 64 5,64,64,[.v (.i .u8) (0:Int), .v (.i .u8) (0:Int), .v (.i .u8) (0:Int), .v (.i .u8) (0:Int), .v (.i .u8) (0:Int), .v (.i .u8) (0:Int), .v (.i .u8) (0:Int), .v (.i .u8) (0:Int), .v (.i .u8) (0:Int), .v (.i .u8) (0:Int), .v (.i .u8) (0:Int), .v (.i .u8) (0:Int), .v (.i .u8) (0:Int), .v (.i .u8) (0:Int), .v (.i .u8) (0:Int), .v (.i .u8) (0:Int), .v (.i .u8) (0:Int), .v (.i .u8) (0:Int), .v (.i .u8) (0:Int), .v (.i .u8) (0:Int), .v (.i .u8) (0:Int), .v (.i .u8) (0:Int), .v (.i .u8) (0:Int), .v (.i .u8) (0:Int), .v (.i .u8) (0:Int), .v (.i .u8) (0:Int), .v (.i .u8) (0:Int), .v (.i .u8) (0:Int), .v (.i .u8) (0:Int), .v (.i .u8) (0:Int), .v (.i .u8) (0:Int), .v (.i .u8) (0:Int), .v (.i .u8) (0:Int), .v (.i .u8) (0:Int), .v (.i .u8) (0:Int), .v (.i .u8) (0:Int), .v (.i .u8) (0:Int), .v (.i .u8) (0:Int), .v (.i .u8) (0:Int), .v (.i .u8) (0:Int), .v (.i .u8) (0:Int), .v (.i .u8) (0:Int), .v (.i .u8) (0:Int), .v (.i .u8) (0:Int), .v (.i .u8) (0:Int), .v (.i .u8) (0:Int), .v (.i .u8) (0:Int), .v (.i .u8) (0:Int), .v (.i .u8) (0:Int), .v (.i .u8) (0:Int), .v (.i .u8) (0:Int), .v (.i .u8) (0:Int), .v (.i .u8) (0:Int), .v (.i .u8) (0:Int), .v (.i .u8) (0:Int), .v (.i .u8) (0:Int), .v (.i .u8) (0:Int), .v (.i .u8) (0:Int), .v (.i .u8) (0:Int), .v (.i .u8) (0:Int), .v (.i .u8) (0:Int), .v (.i .u8) (0:Int), .v (.i .u8) (0:Int), .v (.i .u8) (0:Int)],none⟩)))))))
def tys (t:Nat):TI:=ZBi.find t
theorem Zag:TysOK Tryz.prog tys:=ZzL (tr:=ZBi) (by decide+kernel)
theorem Zos {P:Program} {w w':World} {name:String} {k:IntKind} {zs:List Int} {g:Nat} (j:P.globalNamed name=some g) (C:w'.heap[g]? =w.heap[g]?) (h:Lib.TabIs P w name k zs):Lib.TabIs P w' name k zs:=by
 unfold Lib.TabIs World.var? at*
 simp only[j,Xab]at h⊢
 rw[C]
 exact h
def ZeW:String:= "internal/strconv.uint64pow10"
instance natLaid:Am.Laid where
 ok S w:= ∃g,Tryz.prog.globalNamed ZeW=some g∧S g∧Lib.TabIs Tryz.prog w ZeW .u64 Lib.pow10Tab
 mono:=by
  rintro S w S' w' h ⟨g,h1,h2,h3⟩
  exact⟨g,h1,(h g h2).1,Zos h1 (h g h2).2 h3⟩
def hOk:List Nat:=
 [3,4,5,6,7,8,9,10,11,12,13,14,15,16,17,18,19,20,21,22,23,24,25,26,27,28,29,30,31,32,33,34,35,36,37,38,39,40,41,42,43,44,45,46,47,48,49,50,51,52,53,54,55,56,57,58,59,60,61,62,63,64,65,66,67,68,69,71,72,73,74,75,76,77,78,79,80,81,82,83,84,85,87,88,91,92,93,94,95,96,97,98,99,100,101,112,113,114,116,117,123,127,128,132,140,143,144,145]
def ZBG:List Nat:=
 [5,7,20,35,37]
def ZBz:List Nat:=
 [14,23,25,26,28,50,51,53,54,71,72,74,75,91,93,99,101,116,117,123]
def ZBD:List Nat:=
 [9,10,13,18,19,38,39,40,41,42,43,44,128]
def ZzI:List (Nat×List (Nat×List Nat)):=
 [(3,[(25,[3,4,5,6,7,9,10,11,12,13,14])]),(7,[(15,[9])]),(44,[(9,[0])])]
def ZAP:List (Nat×List (Nat×List Nat)):=
 [(3,[(25,[0,1,2,4,5,6,7,8,9,11,12,13,14,15,16,3,10,17,18,19])])]
def Zwf:Am.Hints:=Am.withPerm (Am.mkHints hOk ZBG ZBz ZBD [] [] ZzI [68]) ZAP
theorem Ztj:Am.Static Tryz.prog Zwf:=Am.static_ofP Tryz.checked.mixed (by decide+kernel)
def Zo2 (p:FuncId→Option (List Am.PV→Option Am.PV)):Am.Hints:=Am.withPrims Zwf p
def prims:FuncId→Option (List Am.PV→Option Am.PV)
 |115=>some Dv.textG
 |70=>some Dv.parseG
 |86=>some Dv.indexG
 |_=>none
def Zao:Am.Hints:=Zo2 prims
open Go.Am Go.Tx Dv
theorem Zan {x:Int} (j: -9223372036854775808≤x) (C:x<9223372036854775808):IntKind.i64.wrap x=x:=by
 unfold IntKind.wrap IntKind.signed IntKind.bits
 simp only[Bool.true_and]
 split<;>rename_i h<;>simp only[decide_eq_true_eq]at h<;>omega
abbrev Zby (l:List Int):SV:= .v (.l (.i .u32)) l
theorem Zax {x:Int} (j:0≤x) (C:x<18446744073709551616):IntKind.u64.wrap x=x:=by
 unfold IntKind.wrap IntKind.signed IntKind.bits
 simp only[XbD,XaG,if_false]
 omega
theorem Za8 (x:Int):IntKind.u32.wrap x=x % 4294967296:=by
 unfold IntKind.wrap IntKind.signed IntKind.bits
 simp
theorem Zn8 (x:Int):x.fdiv (2^min (Int.toNat 32) IntKind.u64.bits)=x/4294967296:=by
 show x.fdiv 4294967296=_
 rw[Int.fdiv_eq_ediv_of_nonneg _ (by omega)]
def ZAF (a b:List Int) (s:Nat×Int×List Int):TM:=[(0,Zby a),(1,Zby b),(5, .ref 0 0 (a.length+1) none),(6, .v (.i .u64) s.2.1),(20, .v (.i .i64) (a.length:Int)),(21, .v (.i .i64) (s.1:Int))]
theorem ZsU (a b:List Int) (ha:Wd a) (hb:Wd b) (ab:b.length≤a.length) (hl:a.length≤1000000):LoopOK Tryz.prog Zao 0 ⟨91,0,57⟩ (Za4 Tryz.f91 6) (ZAF a b (0,0,List.replicate (a.length+1) 0)) [.row (.i .u32) (List.replicate (a.length+1) (0:Int)) true]
 (fun e tm hp=>e= .exit 0∧ ∃c out X,0≤c∧c≤1∧out.length=a.length+1∧Wd (out.take a.length)∧wv (out.take a.length)+4294967296^a.length*c=wv a+wv b∧tm=(22,X)::ZAF a b (a.length,c,out)∧hp=[.row (.i .u32) out true]):=by
 refine Zaw Zag rfl (ZAF a b) (fun s=> [.row (.i .u32) s.2.2 true])
  (fun s=>s.1≤a.length∧0≤s.2.1∧s.2.1≤1∧s.2.2.length=a.length+1∧Wd (s.2.2.take s.1)∧wv (s.2.2.take s.1)+4294967296^s.1*s.2.1=wv (a.take s.1)+wv (b.take s.1)) (fun s=>a.length-s.1) ?_ (0,0,List.replicate (a.length+1) 0) ?_ ?_
 ·rintro⟨i,c,out⟩ ⟨hi,R,U,hlen,J,j⟩
  simp only at hi R U hlen J j
  refine Xaa (fun h=> ?_) (fun h=> ?_)
  ·have C:i<a.length:=by have:=of_decide_eq_true h;simp only at this;omega
   have ad:=ha _ (Xax C)
   have e1:IntKind.u64.wrap a[i]=a[i]:=Zax (by omega) (by omega)
   have e2:IntKind.u64.wrap (c+IntKind.u64.wrap a[i])=c+a[i]:=by rw[e1];exact Zax (by omega) (by omega)
   have ho:i<out.length:=by omega
   have aa: ∀c':Int,Wd ((out.set i (c' % 4294967296)).take (i+1)):=by
    intro c' x hx
    rw[Zcl ho]at hx
    rcases XaA.1 hx with hx|hx
    ·exact J x hx
    ·rw[Xat.1 hx];omega
   have wi:IntKind.i64.wrap ((i:Int)+1)=((i+1:Nat):Int):=Zan (by omega) (by omega)
   refine⟨a[i],Xaj i,Xac C, ?_⟩
   refine Xaa (fun h2=> ?_) (fun h2=> ?_)
   ·have I:i<b.length:=by have:=of_decide_eq_true h2;simp only at this;omega
    have ae:=hb _ (Xax I)
    have e3:IntKind.u64.wrap b[i]=b[i]:=Zax (by omega) (by omega)
    have e4:IntKind.u64.wrap (IntKind.u64.wrap (c+IntKind.u64.wrap a[i])+IntKind.u64.wrap b[i])=c+a[i]+b[i]:=by rw[e2,e3];exact Zax (by omega) (by omega)
    refine⟨b[i],Xaj i,Xac I, ?_⟩
    refine Xaa ⟨Xaj i,by show(i:Int)<((a.length+1:Nat):Int);omega⟩ ?_
    refine Exists.intro (out[i]) (Xaa (by simp) ?_)
    refine Xaa (by decide) ?_
    have ec:(c+a[i]+b[i])/4294967296=(IntKind.u64.wrap (IntKind.u64.wrap (c+IntKind.u64.wrap a[i])+IntKind.u64.wrap b[i])).fdiv (2^min (Int.toNat 32) IntKind.u64.bits):=by rw[e4,Zn8]
    have er:out.set i ((c+a[i]+b[i]) % 4294967296)=out.set (0+(i:Int).toNat) (IntKind.u32.wrap (IntKind.u64.wrap (IntKind.u64.wrap (c+IntKind.u64.wrap a[i])+IntKind.u64.wrap b[i]))):=by rw[e4,Za8,Xad,Xaq]
    refine⟨(i+1,(c+a[i]+b[i])/4294967296,out.set i ((c+a[i]+b[i]) % 4294967296)),⟨C, ?_, ?_, ?_,aa _, ?_⟩, ?_, ?_⟩
    ·show 0≤(c+a[i]+b[i])/4294967296;omega
    ·show(c+a[i]+b[i])/4294967296≤1;omega
    ·show(out.set _ _).length=_;simpa using hlen
    ·exact Zo3 C ho (ZbL I) rfl j
    ·show a.length-(i+1)<a.length-i;omega
    ·refine Zas rfl rfl ?_ ?_
     ·exact⟨rfl,rfl,⟨rfl,rfl,rfl⟩,ec,rfl,wi.symm,trivial⟩
     ·exact⟨⟨er,fun _=>rfl⟩,trivial⟩
   ·have I:b.length≤i:=by have:=of_decide_eq_false h2;simp only at this;omega
    have hz:wv (b.take (i+1))=wv (b.take i)+4294967296^i*0:=by rw[Xay (by omega),Xay I];omega
    refine Xaa ⟨Xaj i,by show(i:Int)<((a.length+1:Nat):Int);omega⟩ ?_
    refine Exists.intro (out[i]) (Xaa (by simp) ?_)
    refine Xaa (by decide) ?_
    have ec:(c+a[i]+0)/4294967296=(IntKind.u64.wrap (c+IntKind.u64.wrap a[i])).fdiv (2^min (Int.toNat 32) IntKind.u64.bits):=by rw[e2,Zn8,Int.add_zero]
    have er:out.set i ((c+a[i]+0) % 4294967296)=out.set (0+(i:Int).toNat) (IntKind.u32.wrap (IntKind.u64.wrap (c+IntKind.u64.wrap a[i]))):=by rw[e2,Za8,Xad,Xaq,Int.add_zero]
    refine⟨(i+1,(c+a[i]+0)/4294967296,out.set i ((c+a[i]+0) % 4294967296)),⟨C, ?_, ?_, ?_,aa _, ?_⟩, ?_, ?_⟩
    ·show 0≤(c+a[i]+0)/4294967296;omega
    ·show(c+a[i]+0)/4294967296≤1;omega
    ·show(out.set _ _).length=_;simpa using hlen
    ·exact Zo3 C ho hz rfl j
    ·show a.length-(i+1)<a.length-i;omega
    ·refine Zas rfl rfl ?_ ?_
     ·exact⟨rfl,rfl,⟨rfl,rfl,rfl⟩,ec,rfl,wi.symm,trivial⟩
     ·exact⟨⟨er,fun _=>rfl⟩,trivial⟩
  ·have he:i=a.length:=by have:=of_decide_eq_false h;simp only at this;omega
   subst he
   rw[XaC,Xay ab]at j
   exact⟨rfl,c,out,_,R,U,hlen,J,j,rfl,rfl⟩
 ·exact⟨Xao _,XaT _,by show(0:Int)≤1;decide,by simp,by intro x hx;simp at hx,by simp[wv]⟩
 ·exact ZaJ
theorem ZpV (a b:List Int) (ha:Wd a) (hb:Wd b) (U:a.length≤1000000) (C:b.length≤1000000):PureOK Tryz.prog Zao 91 [Zby a,Zby b] (fun V=> ∃out,V=Zby out∧Wd out∧out.length≤max a.length b.length+1∧wv out=wv a+wv b):=by
 refine Zai Zag Tryz.func91 ?_
 have w1: ∀a:List Int,a.length≤1000000→IntKind.i64.wrap ((a.length:Int)+1)=((a.length+1:Nat):Int):=fun a h=>Zan (by omega) (by omega)
 have w2: ∀a:List Int,a.length≤1000000→ ∀x:Int,x=((a.length+1:Nat):Int)→0≤x∧x≤x∧(4:Int)*x≤281474976710656∧x<9223372036854775808:=fun a h x hx=>by omega
 have w3: ∀a:List Int,∀x:Int,x=((a.length+1:Nat):Int)→a.length+1=x.toNat:=fun a x hx=>by omega
 have w4: ∀a:List Int,∀x:Int,x=((a.length+1:Nat):Int)→List.replicate (a.length+1) (0:Int)=List.replicate x.toNat 0:=fun a x hx=>by rw[←w3 a x hx]
 have fin: ∀ (a b out:List Int) (c:Int),a.length≤1000000→0≤c→c≤1→out.length=a.length+1→Wd (out.take a.length)→wv (out.take a.length)+4294967296^a.length*c=wv a+wv b→
  sub (out.set (0+(a.length:Int).toNat) (IntKind.u32.wrap c)) 0 (a.length+1)=out.set a.length (c % 4294967296)∧Wd (out.set a.length (c % 4294967296))∧(out.set a.length (c % 4294967296)).length=a.length+1∧wv (out.set a.length (c % 4294967296))=wv a+wv b:=by
  intro a b out c U J R hlen I j
  have ho:a.length<out.length:=by omega
  have hx: ∀x:Int,out.set a.length x=out.take a.length++ [x]:=fun x=>by
   rw[←Zcl ho,Xay (by rw[XaN];omega)]
  refine⟨by rw[Xad,Xaq,Za8,sub,XaB,Xay (by rw[XaN];omega)], ?_,by rw[XaN];omega, ?_⟩
  ·rw[hx]
   intro x hx
   rcases XaA.1 hx with hx|hx
   ·exact I x hx
   ·rw[Xat.1 hx];omega
  ·rw[hx,ZdZ,Xas,XaL (Nat.le_of_lt ho),←j,show c % 4294967296=c by omega]
   simp[wv]
 refine Xaa (fun h=> ?_) (fun h=> ?_)
 ·have aa:a.length≤b.length:=by have:=of_decide_eq_true h;omega
  refine Xaa (w2 b C _ (w1 b C)) ?_
  refine((ZsU b a hb ha aa C).ent ?_).mono ?_
  ·refine Zas rfl rfl ?_ ?_
   ·exact⟨rfl,rfl,⟨rfl,w3 b _ (w1 b C),w3 b _ (w1 b C)⟩,rfl,rfl,rfl,trivial⟩
   ·exact⟨⟨w4 b _ (w1 b C),fun _=>rfl⟩,trivial⟩
  rintro _ _ _ ⟨rfl,c,out,X,J,R,hlen,I,j,rfl,rfl⟩
  obtain⟨f1,f2,f3,f4⟩:=fin b a out c C J R hlen I j
  refine Xaa ⟨Xaj _,by show(b.length:Int)<((b.length+1:Nat):Int);omega⟩ ?_
  refine Exists.intro (out[b.length]) (Xaa (by simp) ?_)
  refine Xaa (by show 0+(b.length+1)≤(out.set _ _).length;rw[XaN];omega) ?_
  exact⟨_,congrArg Zby f1,f2,by rw[f3];omega,by rw[f4,Int.add_comm]⟩
 ·have aa:b.length≤a.length:=by have:=of_decide_eq_false h;omega
  refine Xaa (w2 a U _ (w1 a U)) ?_
  refine((ZsU a b ha hb aa U).ent ?_).mono ?_
  ·refine Zas rfl rfl ?_ ?_
   ·exact⟨rfl,rfl,⟨rfl,w3 a _ (w1 a U),w3 a _ (w1 a U)⟩,rfl,rfl,rfl,trivial⟩
   ·exact⟨⟨w4 a _ (w1 a U),fun _=>rfl⟩,trivial⟩
  rintro _ _ _ ⟨rfl,c,out,X,J,R,hlen,I,j,rfl,rfl⟩
  obtain⟨f1,f2,f3,f4⟩:=fin a b out c U J R hlen I j
  refine Xaa ⟨Xaj _,by show(a.length:Int)<((a.length+1:Nat):Int);omega⟩ ?_
  refine Exists.intro (out[a.length]) (Xaa (by simp) ?_)
  refine Xaa (by show 0+(a.length+1)≤(out.set _ _).length;rw[XaN];omega) ?_
  exact⟨_,congrArg Zby f1,f2,by rw[f3];omega,f4⟩
theorem Zh4 {r x:Int} (J:0≤r) (R:r<4294967296) (U:0≤x) (h3:x<4294967296):
 IntKind.u64.wrap ((BitVec.ofInt IntKind.u64.bits (IntKind.u64.wrap (r*2^min (Int.toNat 32) IntKind.u64.bits))|||BitVec.ofInt IntKind.u64.bits (IntKind.u64.wrap x)).toNat:Int)=r*4294967296+x:=by
 obtain⟨n,rfl⟩: ∃n:Nat,r=n:=⟨r.toNat,by omega⟩
 obtain⟨m,rfl⟩: ∃m:Nat,x=m:=⟨x.toNat,by omega⟩
 have j:IntKind.u64.wrap ((n:Int)*2^min (Int.toNat 32) IntKind.u64.bits)=((n*4294967296:Nat):Int):=by
  show IntKind.u64.wrap ((n:Int)*4294967296)=_
  rw[Zax (by omega) (by omega)];omega
 have C:IntKind.u64.wrap (m:Int)=(m:Int):=Zax (by omega) (by omega)
 rw[j,C]
 show IntKind.u64.wrap ((BitVec.ofInt 64 ((n*4294967296:Nat):Int)|||BitVec.ofInt 64 (m:Int)).toNat:Int)=_
 rw[BitVec.ofInt_natCast,BitVec.ofInt_natCast,BitVec.toNat_or,BitVec.toNat_ofNat,BitVec.toNat_ofNat,Xbc (by omega),Xbc (by omega)]
 have I:n*4294967296|||m=n*4294967296+m:=by
  have:=Nat.shiftLeft_add_eq_or_of_lt (a:=n) (b:=m) (i:=32) (by omega)
  rw[Nat.shiftLeft_eq]at this
  exact this.symm
 rw[I,Zax (by omega) (by omega)];omega
theorem ZjN (p:FuncId→Option (List PV→Option PV)) (hp:p 123=none) (a:List Int) (d:Int) (ha:Wd a) (J:0<d) (an:d<4294967296) (hl:a.length≤1000000):PureOK Tryz.prog (Zo2 p) 123 [Zby a, .v (.i .u32) d] (fun V=> ∃q,V= .tup [Zby q, .v (.i .u32) (wv a % d)]∧Wd q∧q.length=a.length∧wv q=wv a/d):=by
 refine ZiJ (fn:=Tryz.f123) (code:=Zbn Tryz.f123) Zag (by kernel_rfl) hp Tryz.func123 (by kernel_rfl) (Xal (by kernel_rfl)) ?_
 have w1:IntKind.i64.wrap ((a.length:Int)-1)=(a.length:Int)-1:=Zan (by omega) (by omega)
 have w2:0≤(a.length:Int)∧(a.length:Int)≤a.length∧(4:Int)*a.length≤281474976710656∧(a.length:Int)<9223372036854775808:=by omega
 have w3:a.length=(a.length:Int).toNat:=(Xad _).symm
 have w4:List.replicate a.length (0:Int)=List.replicate (a.length:Int).toNat 0:=by rw[←w3]
 refine Xaa w2 ?_
 refine Zaw Zag rfl (fun(s:Nat×Int×List Int)=> [(0,Zby a),(1, .v (.i .u32) d),(6, .ref 0 0 a.length none),(7, .v (.i .u64) s.2.1),(8, .v (.i .i64) ((s.1:Int)-1))]) (fun s=> [.row (.i .u32) s.2.2 true])
  (fun s=>s.1≤a.length∧0≤s.2.1∧s.2.1<d∧s.2.2.length=a.length∧Wd (s.2.2.drop s.1)∧wv (a.drop s.1)=d*wv (s.2.2.drop s.1)+s.2.1) (fun s=>s.1) ?_ (a.length,0,List.replicate a.length 0) ?_ ?_
 ·rintro⟨k,r,out⟩ ⟨hk,C,R,hlen,I,j⟩
  simp only at hk C R hlen I j
  refine Xaa (fun h=> ?_) (fun h=> ?_)
  ·have ao:1≤k:=by have:=of_decide_eq_true h;simp only at this;omega
   obtain⟨m,rfl⟩: ∃m,k=m+1:=⟨k-1,by omega⟩
   have hm:m<a.length:=by omega
   have ix:(((m+1:Nat):Int)-1).toNat=m:=by omega
   have ab:(0:Int)≤((m+1:Nat):Int)-1:=by omega
   have hg:a[(((m+1:Nat):Int)-1).toNat]? =some a[m]:=by rw[ix];exact Xac hm
   refine⟨by decide,a[m],ab,hg, ?_⟩
   refine Xaa ?_ ?_
   ·show IntKind.u64.wrap d≠0
    rw[Zax (by omega) (by omega)];omega
   refine Xaa ⟨ab,by show(((m+1:Nat):Int)-1)<(a.length:Int);omega⟩ ?_
   refine Exists.intro (out[m]) (Xaa (by show out[0+(((m+1:Nat):Int)-1).toNat]? =_;rw[ix,Xaq];exact Xac (by omega)) ?_)
   refine Xaa ?_ ?_
   ·show IntKind.u64.wrap d≠0
    rw[Zax (by omega) (by omega)];omega
   have ad:=ha _ (Xax hm)
   have ae:=Zh4 C (show r<4294967296 by omega) ad.1 ad.2
   have af:IntKind.u64.wrap d=d:=Zax (by omega) (by omega)
   have U:0≤r*4294967296+a[m]:=by omega
   have ai:r*4294967296+a[m]<4294967296*d:=by omega
   have aa:0≤(r*4294967296+a[m])/d:=Int.ediv_nonneg U (by omega)
   have ag:(r*4294967296+a[m])/d<4294967296:=Int.ediv_lt_of_lt_mul J ai
   have em:(r*4294967296+a[m]) % d=(IntKind.u64.wrap ((BitVec.ofInt IntKind.u64.bits (IntKind.u64.wrap (r*2^min (Int.toNat 32) IntKind.u64.bits))|||BitVec.ofInt IntKind.u64.bits (IntKind.u64.wrap a[m])).toNat:Int)).tmod (IntKind.u64.wrap d):=by
    rw[ae,af,XbE U]
   have aj:(r*4294967296+a[m])/d=IntKind.u32.wrap (IntKind.u64.wrap ((IntKind.u64.wrap ((BitVec.ofInt IntKind.u64.bits (IntKind.u64.wrap (r*2^min (Int.toNat 32) IntKind.u64.bits))|||BitVec.ofInt IntKind.u64.bits (IntKind.u64.wrap a[m])).toNat:Int)).tdiv (IntKind.u64.wrap d))):=by
    rw[ae,af,Int.tdiv_eq_ediv_of_nonneg U,Zax aa (by omega),Za8,Int.emod_eq_of_lt aa ag]
   have er:out.set m ((r*4294967296+a[m])/d)=out.set (0+(((m+1:Nat):Int)-1).toNat) (IntKind.u32.wrap (IntKind.u64.wrap ((IntKind.u64.wrap ((BitVec.ofInt IntKind.u64.bits (IntKind.u64.wrap (r*2^min (Int.toNat 32) IntKind.u64.bits))|||BitVec.ofInt IntKind.u64.bits (IntKind.u64.wrap a[m])).toNat:Int)).tdiv (IntKind.u64.wrap d)))):=by
    rw[←aj,ix,Xaq]
   have wi:(m:Int)-1=IntKind.i64.wrap (((m+1:Nat):Int)-1-1):=by rw[Zan (by omega) (by omega)];omega
   have ah: ∀x:Int,(out.set m x).drop m=x::out.drop (m+1):=fun x=>by
    rw[Xaz (by rw[XaN];omega),List.getElem_set_self,Xbr (by omega)]
   have ak:a.drop m=a[m]::a.drop (m+1):=Xaz hm
   refine⟨(m,(r*4294967296+a[m]) % d,out.set m ((r*4294967296+a[m])/d)),⟨?_, ?_, ?_, ?_, ?_, ?_⟩, ?_, ?_⟩
   ·show m≤a.length;omega
   ·show 0≤(r*4294967296+a[m]) % d;exact Int.emod_nonneg _ (by omega)
   ·show(r*4294967296+a[m]) % d<d;exact Int.emod_lt_of_pos _ J
   ·show(out.set _ _).length=_;simpa using hlen
   ·show Wd ((out.set m _).drop m)
    rw[ah]
    intro x hx
    rcases Xav.1 hx with rfl|hx
    ·exact⟨aa,ag⟩
    ·exact I x hx
   ·show wv (a.drop m)=d*wv ((out.set m _).drop m)+(r*4294967296+a[m]) % d
    rw[ah,ak,wv,wv,j]
    have e:=XaS (r*4294967296+a[m]) d
    generalize wv (out.drop (m+1))=v
    have e2:d*(4294967296*v)=4294967296*(d*v):=by rw[←Xbx,Int.mul_comm d,Xbx]
    rw[XbI d,e2]
    generalize d*v=t
    generalize d*((r*4294967296+a[m])/d)=z at e⊢
    omega
   ·show m<m+1;omega
   ·refine Zas rfl rfl ?_ ?_
    ·exact⟨rfl,rfl,⟨rfl,rfl,rfl⟩,em,wi,trivial⟩
    ·exact⟨⟨er,fun _=>rfl⟩,trivial⟩
  ·have al:k=0:=by have:=of_decide_eq_false h;simp only at this;omega
   subst al
   refine Xaa (by show 0+a.length≤out.length;omega) ?_
   rw[XaB]at I
   rw[XaB,XaB]at j
   have hs:sub out 0 a.length=out:=by rw[sub,XaB,Xay (by omega)]
   have e1:wv a % d=r:=by rw[j,Int.add_comm,Int.add_mul_emod_self_left,Int.emod_eq_of_lt C R]
   have e2:wv a/d=wv out:=by rw[j,Int.add_comm,Int.add_mul_ediv_left _ _ (by omega),Int.ediv_eq_zero_of_lt C R,Int.zero_add]
   have e3:IntKind.u32.wrap r=r:=by rw[Za8,Int.emod_eq_of_lt C (by omega)]
   have e4:SV.tup [Zby (sub out 0 a.length), .v (.i .u32) (IntKind.u32.wrap r)]=SV.tup [Zby out, .v (.i .u32) (wv a % d)]:=by rw[hs,e1,e3]
   exact⟨out,e4,I,hlen,e2.symm⟩
 ·exact⟨Xan _,XaT _,J,by show(List.replicate _ _).length=_;simp,by intro x hx;simp at hx,by simp[wv]⟩
 ·refine Zas rfl rfl ?_ ?_
  ·exact⟨rfl,rfl,⟨rfl,w3,w3⟩,rfl,w1.symm,trivial⟩
  ·exact⟨⟨w4,fun _=>rfl⟩,trivial⟩
theorem Zqu (a:List Int) (d:Int) (I:Wd a) (j:0<d) (C:d<4294967296) (J:a.length≤1000000):PureOK Tryz.prog Zao 123 [Zby a, .v (.i .u32) d] (fun V=> ∃q,V= .tup [Zby q, .v (.i .u32) (wv a % d)]∧Wd q∧q.length=a.length∧wv q=wv a/d):=ZjN prims rfl a d I j C J
theorem Zv8 (p:FuncId→Option (List PV→Option PV)) (hp:p 72=none) (m:Bool) (a:List Int) (ha:Wd a) (hl:a.length≤1000000):PureOK Tryz.prog (Zo2 p) 72 [.v .b m,Zby a] (fun V=> ∃s,V= .agg [.v .b (m&&decide (0<(s.length:Int))),Zby s]∧Wd s∧Nz s∧s.length≤a.length∧wv s=wv a):=by
 refine ZiJ (fn:=Tryz.f72) (code:=Zbn Tryz.f72) Zag (by kernel_rfl) hp Tryz.func72 (by kernel_rfl) (Xal (by kernel_rfl)) ?_
 refine Zaw Zag rfl (fun(k:Nat)=> [(0, .v .b m),(1,Zby (a.take k)),(4, .ptr 0 0 0)]) (fun _=> [.cell [.v .b false, .nils] true])
  (fun k=>k≤a.length∧wv (a.take k)=wv a) (fun k=>k) ?_ a.length ?_ ?_
 ·rintro k ⟨hk,I⟩
  have nf: ∀ {b:Bool},b=true→b=false→False:=fun h C=>by rw[h]at C;cases C
  refine Xaa (fun h=> ?_) (fun h=> ?_)
  ·refine Xaa (fun _=> ?_) (fun C=>(nf h C).elim)
   refine Xaa (fun _=> ?_) (fun C=>(nf h C).elim)
   refine Xaa (fun _=> ?_) (fun C=>(nf h C).elim)
   refine Xaa (fun _=> ?_) (fun C=>(nf h C).elim)
   have J:(a.take k).length=k:=by rw[Xas];omega
   have ae:1≤k:=by have:=of_decide_eq_true h;rw[J]at this;omega
   obtain⟨j,rfl⟩: ∃j,k=j+1:=⟨k-1,by omega⟩
   have ej:IntKind.i64.wrap (((a.take (j+1)).length:Int)-1)=(j:Int):=by rw[J,Zan (by omega) (by omega)];omega
   have U:0≤IntKind.i64.wrap (((a.take (j+1)).length:Int)-1):=by rw[ej];omega
   have hg:(a.take (j+1))[(IntKind.i64.wrap (((a.take (j+1)).length:Int)-1)).toNat]? =some a[j]:=by
    rw[ej,Xad,Xbz (by omega)];exact Xac (by omega)
   refine⟨a[j],U,hg, ?_⟩
   refine Xaa (fun _=> ?_) (fun C=>(nf h C).elim)
   refine Xaa (fun _=> ?_) (fun C=>(nf h C).elim)
   refine Xaa (fun _=> ?_) (fun C=>(nf h C).elim)
   refine Xaa (fun h2=> ?_) (fun h2=> ?_)
   ·refine Xaa ⟨U,by show IntKind.i64.wrap (((a.take (j+1)).length:Int)-1)≤((a.take (j+1)).length:Int);rw[ej,J];omega⟩ ?_
    have hz:a[j]=0:=of_decide_eq_true h2
    have et:a.take j=List.drop 0 (List.take (IntKind.i64.wrap (((a.take (j+1)).length:Int)-1)).toNat (a.take (j+1))):=by
     rw[ej,Xad,XaB,List.take_take,XaL (by omega)]
    refine⟨j,⟨by show j≤a.length;omega, ?_⟩,by show j<j+1;omega, ?_⟩
    ·show wv (a.take j)=wv a
     rw[←I,ZbL (by omega:j<a.length),hz];omega
    ·refine Zas rfl rfl ?_ ?_
     ·exact⟨rfl,et,⟨rfl,rfl⟩,trivial⟩
     ·exact⟨⟨⟨rfl,trivial,trivial⟩,fun _=>rfl⟩,trivial⟩
   ·have aa:Nz (a.take (j+1)):=by
     intro R
     rw[List.getLast_eq_getElem]
     simp only[J,Nat.add_sub_cancel,List.getElem_take]
     exact of_decide_eq_false h2
    have ab:Wd (a.take (j+1)):=fun x hx=>ha x (XaH hx)
    refine Xaa (fun hm=> ?_) (fun hm=> ?_)
    ·refine Xaa (fun _=> ?_) (fun C=>(nf hm C).elim)
     refine Xaa (fun _=> ?_) (fun C=>(nf hm C).elim)
     refine Xaa (fun _=> ?_) (fun C=>(nf hm C).elim)
     subst hm
     exact⟨rfl,rfl,a.take (j+1),rfl,ab,aa,by rw[J];exact hk,I⟩
    ·refine Xaa (fun C=>(nf C hm).elim) (fun _=> ?_)
     refine Xaa (fun C=>(nf C hm).elim) (fun _=> ?_)
     refine Xaa (fun C=>(nf C hm).elim) (fun _=> ?_)
     subst hm
     exact⟨rfl,rfl,a.take (j+1),rfl,ab,aa,by rw[J];exact hk,I⟩
  ·have J:(a.take k).length=k:=by rw[Xas];omega
   have ad:k=0:=by have:=of_decide_eq_false h;rw[J]at this;omega
   subst ad
   refine Xaa (fun C=>(nf C h).elim) (fun _=> ?_)
   refine Xaa (fun C=>(nf C h).elim) (fun _=> ?_)
   refine Xaa (fun C=>(nf C h).elim) (fun _=> ?_)
   refine Xaa (fun C=>(nf C h).elim) (fun _=> ?_)
   refine Xaa (fun C=>(nf C h).elim) (fun _=> ?_)
   refine Xaa (fun C=>(nf C h).elim) (fun _=> ?_)
   refine Xaa (fun C=>(nf C h).elim) (fun _=> ?_)
   refine Xaa (fun C=>nomatch C) (fun _=> ?_)
   refine Xaa (fun hm=> ?_) (fun hm=> ?_)
   ·refine Xaa (fun _=> ?_) (fun C=>(nf hm C).elim)
    refine Xaa (fun _=> ?_) (fun C=>(nf hm C).elim)
    refine Xaa (fun _=> ?_) (fun C=>(nf hm C).elim)
    subst hm
    exact⟨rfl,rfl,[],rfl,fun x hx=>(by simp at hx),fun R=>absurd rfl R,Xao _,I⟩
   ·refine Xaa (fun C=>(nf C hm).elim) (fun _=> ?_)
    refine Xaa (fun C=>(nf C hm).elim) (fun _=> ?_)
    refine Xaa (fun C=>(nf C hm).elim) (fun _=> ?_)
    subst hm
    exact⟨rfl,rfl,[],rfl,fun x hx=>(by simp at hx),fun R=>absurd rfl R,Xao _,I⟩
 ·exact⟨Xan _,by rw[XaC]⟩
 ·refine Zas rfl rfl ?_ ?_
  ·exact⟨rfl,(XaC).symm▸rfl,⟨rfl,rfl⟩,trivial⟩
  ·exact⟨⟨⟨rfl,trivial,trivial⟩,fun _=>rfl⟩,trivial⟩
theorem Zza (m:Bool) (a:List Int) (j:Wd a) (C:a.length≤1000000):PureOK Tryz.prog Zao 72 [.v .b m,Zby a] (fun V=> ∃s,V= .agg [.v .b (m&&decide (0<(s.length:Int))),Zby s]∧Wd s∧Nz s∧s.length≤a.length∧wv s=wv a):=Zv8 prims rfl m a j C
abbrev IS (v:Int):SV:= .agg [.v .b (decide (v<0)),Zby (wOf v.natAbs)]
def sg (m:Bool) (x:Int):Int:=match m with|true=> -x|false=>x
theorem ZfK (m:Bool) (a:List Int) (I:Wd a) (R:a.length≤1000000):PureOK Tryz.prog Zao 72 [.v .b m,Zby a] (fun V=>V=IS (sg m (wv a))):=by
 refine(Zza m a I R).mono ?_
 rintro _ ⟨s,rfl,U,h2,_,h4⟩
 have h0:=Zmr I
 have J:s=wOf (wv a).toNat:=ZoB U h2 (by omega)
 have C:(sg m (wv a)).natAbs=(wv a).toNat:=by cases m<;>simp only[sg]<;>omega
 have hb:(m&&decide (0<(s.length:Int)))=decide (sg m (wv a)<0):=by
  have j:s.length=0↔wv a=0:=by
   rw[XaY,J,ZfW];omega
  cases m with
  |true=>
   simp only[Bool.true_and,sg]
   refine decide_eq_decide.2 ?_
   constructor
   ·intro h;have:=mt j.2;omega
   ·intro h;have:=mt j.1;omega
  |false=>
   simp only[XbD,sg]
   exact(decide_eq_false (by omega)).symm
 show SV.agg [.v .b (m&&decide (0<(s.length:Int))),Zby s]=SV.agg [.v .b (decide (sg m (wv a)<0)),Zby (wOf (sg m (wv a)).natAbs)]
 rw[hb,C,←J]
theorem ZzF (v:Int) (j:ln v≤1000000):PureOK Tryz.prog Zao 74 [IS v] (fun V=>V=IS (-v)):=by
 refine Zai Zag Tryz.func74 ?_
 refine Xaa rfl ?_
 refine Xaa rfl ?_
 refine(ZfK _ _ (ZdI _) j).mono ?_
 rintro _ rfl
 refine Xaa rfl ?_
 refine Xaa rfl ?_
 have:sg (!decide (v<0)) (wv (wOf v.natAbs))= -v:=by
  rw[Zct]
  by_cases h:v<0
  ·rw[decide_eq_true h];simp only[sg,Bool.not_true];omega
  ·rw[decide_eq_false h];simp only[sg,XbC];omega
 show IS (sg (!decide (v<0)) (wv (wOf v.natAbs)))=IS (-v)
 rw[this]
theorem ZsK (v:Int):PureOK Tryz.prog Zao 73 [IS v] (fun V=>V= .v (.i .i64) v.sign):=by
 refine Zai Zag Tryz.func73 ?_
 refine Xaa rfl ?_
 refine Xaa (fun h=> ?_) (fun h=> ?_)
 ·have C:((wOf v.natAbs).length:Int)=0:=of_decide_eq_true h
  have:v=0:=by
   have:=ZfW.1 (XaY.1 (show(wOf v.natAbs).length=0 by omega));omega
  subst this
  rfl
 ·have C: ¬ ((wOf v.natAbs).length:Int)=0:=of_decide_eq_false h
  have J:v≠0:=by
   rintro rfl
   exact C (by rw[show(0:Int).natAbs=0 from rfl,Zel];rfl)
  refine Xaa rfl ?_
  refine Xaa (fun j=> ?_) (fun j=> ?_)
  ·have I:v<0:=of_decide_eq_true j
   show SV.v (.i .i64) (-1:Int)=SV.v (.i .i64) v.sign
   rw[Int.sign_eq_neg_one_of_neg I]
  ·have I: ¬v<0:=of_decide_eq_false j
   show SV.v (.i .i64) (1:Int)=SV.v (.i .i64) v.sign
   rw[Int.sign_eq_one_of_pos (by omega)]
theorem Zlm (x:Int):IntKind.u64.wrap x=x % 18446744073709551616:=by
 unfold IntKind.wrap IntKind.signed IntKind.bits
 simp
theorem ZzC (n:Int) (h0: -9223372036854775808≤n) (h1:n<9223372036854775808):PureOK Tryz.prog Zao 51 [.v (.i .i64) n] (fun V=>V=IS n):=by
 refine Zai Zag Tryz.func51 ?_
 have fin: ∀ (m:Bool) (x:Int),0≤x→x<18446744073709551616→sg m x=n→PureOK Tryz.prog Zao 72 [.v .b m,Zby [IntKind.u32.wrap x,IntKind.u32.wrap (x.fdiv (2^min (Int.toNat 32) IntKind.u64.bits))]] (fun V=>V=IS n):=by
  intro m x C I J
  have R:IntKind.u32.wrap x=x % 4294967296:=Za8 x
  have U:IntKind.u32.wrap (x.fdiv (2^min (Int.toNat 32) IntKind.u64.bits))=x/4294967296:=by rw[Zn8,Za8];omega
  rw[R,U]
  refine(ZfK m _ ?_ (by simp)).mono ?_
  ·intro y j
   simp only[Xav,XaU,or_false]at j
   rcases j with rfl|rfl<;>omega
  ·rintro _ rfl
   have:wv [x % 4294967296,x/4294967296]=x:=by simp only[wv];omega
   rw[this,J]
 refine Xaa (fun h=> ?_) (fun h=> ?_)
 ·have hn:n<0:=of_decide_eq_true h
  have e:IntKind.u64.wrap (0-IntKind.u64.wrap n)= -n:=by rw[Zlm,Zlm];omega
  refine Xaa (by decide) ?_
  refine Xaa (by show 0+2≤2;decide) ?_
  refine(fin (decide (n<0)) (IntKind.u64.wrap (0-IntKind.u64.wrap n)) (by rw[e];omega) (by rw[e];omega) (by rw[e,h];simp only[sg];omega)).mono ?_
  rintro _ rfl
  exact⟨rfl,rfl,rfl⟩
 ·have hn: ¬n<0:=of_decide_eq_false h
  have e:IntKind.u64.wrap n=n:=by rw[Zlm];omega
  refine Xaa (by decide) ?_
  refine Xaa (by show 0+2≤2;decide) ?_
  refine(fin (decide (n<0)) (IntKind.u64.wrap n) (by rw[e];omega) (by rw[e];omega) (by rw[e,h];simp only[sg])).mono ?_
  rintro _ rfl
  exact⟨rfl,rfl,rfl⟩
end
end Go.Proofs.YtapbiodcncnnfaaGreatDoor
namespace Dv
section
variable {P U V U' V' v1 v2 u2 top q g rest : Int}
theorem ZvR (hP:0<P) (I:V=(v1*4294967296+v2)*P+V') (C:0≤V') (J:0≤v2) (R:U=(top*4294967296+u2)*P+U') (aa:U'<P) (hu:u2<4294967296) (hv:0<v1) (j:0≤q) (hq:q*V≤U):q≤top/v1:=by
 have e1:q*V=q*v1*(4294967296*P)+(q*v2*P+q*V'):=by rw[I];grind
 have p1:0≤q*v2*P:=Xbw (Xbw j J) (by omega)
 have p2:0≤q*V':=Xbw j C
 have p3:u2*P≤4294967295*P:=XaP (by omega) (by omega)
 have e2:U=top*(4294967296*P)+u2*P+U':=by rw[R];grind
 have h1:q*v1*(4294967296*P)<(top+1)*(4294967296*P):=by
  have e3:(top+1)*(4294967296*P)=top*(4294967296*P)+4294967296*P:=by grind
  omega
 have h3:=Int.lt_of_mul_lt_mul_right h1 (by omega)
 rw[Int.le_ediv_iff_mul_le hv]
 omega
theorem ZqQ (C:0<P) (I:V=(v1*4294967296+v2)*P+V') (j:0≤V') (J:0<V) (hU:U=(top*4294967296+u2)*P+U') (R:U'<P) (hg:0≤g) (hr:g*v1+rest=top) (hc:rest*4294967296+u2<g*v2) (hq:q*V≤U):q<g:=by
 have h1:top*4294967296+u2+1≤g*(v1*4294967296+v2):=by
  have:g*(v1*4294967296+v2)=g*v1*4294967296+g*v2:=by grind
  omega
 have h2:=XaP h1 (Xa6 C)
 have e1:g*V=g*(v1*4294967296+v2)*P+g*V':=by rw[I];grind
 have p1:0≤g*V':=Xbw hg j
 have e2:(top*4294967296+u2+1)*P=(top*4294967296+u2)*P+P:=by grind
 have h3:q*V<g*V:=by omega
 exact Int.lt_of_mul_lt_mul_right h3 (by omega)
theorem Zkt (I:0<P) (C:V=(v1*4294967296+v2)*P+V') (J:0≤V') (R:V'<P) (h2:0≤v2) (hv:0<v1) (hU:U=(top*4294967296+u2)*P+U') (aa:0≤U') (j:0≤g) (ab:g<4294967296) (hc:g*(v1*4294967296+v2)≤top*4294967296+u2):g*V-V≤U:=by
 have h3:=XaP hc (Xa6 I)
 have e1:g*V=g*(v1*4294967296+v2)*P+g*V':=by rw[C];grind
 have p1:g*V'≤g*P:=Xbe (by omega) j
 have p2:g*P≤4294967296*P:=XaP (by omega) (by omega)
 have p3:(1:Int)*(4294967296*P)≤v1*(4294967296*P):=XaP (by omega) (by omega)
 have e2:V=v1*(4294967296*P)+v2*P+V':=by rw[C];grind
 have p4:0≤v2*P:=Xbw h2 (by omega)
 omega
theorem Zp7 (j:g*v1+rest=top) (C:g*v2≤rest*4294967296+u2):g*(v1*4294967296+v2)≤top*4294967296+u2:=by
 have:g*(v1*4294967296+v2)=g*v1*4294967296+g*v2:=by grind
 omega
theorem ZiC (R:g*v1+rest=top) (j:4294967296≤rest) (C:0≤g) (I:g<4294967296) (J:0≤v2) (U:v2<4294967296) (hu:0≤u2):g*(v1*4294967296+v2)≤top*4294967296+u2:=by
 have e1:g*(v1*4294967296+v2)=g*v1*4294967296+g*v2:=by grind
 have p1:g*v2≤4294967296*v2:=XaP (by omega) J
 omega
end
end Dv
namespace Go.Tx
open Go.Am
section
variable {P : Program} {h : Hints} {T : TypeId → TI} {N : Nat} {ds : List (Option Tmp)} {o : Oper} {l : List Oper} {tm : TM} {hp : List SM} {k : TM → List SM → Prop} {j d dd : Nat} {w t : Bool} {V : SV}
theorem Zvb (C:o.guard=some (j,w)) (I:nth ds j=some (some d)) (J:ZcD d tm=some (.v .b t)) (hw:t= !w) (R:o.dst=some dd) (hN:Nat.ble (dd+1) N=true) (U:wpOps P h T N ds l ((dd, .tup [])::tm) hp k):wpOps P h T N ds (o::l) tm hp k:=by
 simp only[wpOps,C,I,J]
 refine⟨fun h=> ?_,fun _=> ?_⟩
 ·rw[hw]at h;cases w<;>cases h
 ·simp only[Zdj,R,hN];exact U
theorem Zam (C:o.guard=some (j,w)) (I:nth ds j=some (some d)) (J:ZcD d tm=some (.v .b t)) (hw:t=w) (R:opT P h T o.op tm hp fun V hp'=>Zdj N o.dst V tm fun tm'=>wpOps P h T N ds l tm' hp' k):wpOps P h T N ds (o::l) tm hp k:=by
 simp only[wpOps,C,I,J]
 refine⟨fun _=>R,fun h=> ?_⟩
 rw[hw]at h;cases w<;>cases h
theorem Zad (j:o.guard=none) (C:opT P h T o.op tm hp fun V hp'=>Zdj N o.dst V tm fun tm'=>wpOps P h T N ds l tm' hp' k):wpOps P h T N ds (o::l) tm hp k:=by
 simp only[wpOps,j];exact C
theorem Zaa {dst:Option Tmp} {c:TM→Prop} (j:dst=some dd) (hN:Nat.ble (dd+1) N=true) (C:c ((dd,V)::tm)):Zdj N dst V tm c:=by
 simp only[Zdj,j,hN];exact C
theorem ZAJ (C:o.guard=none) (he: ∀k,opT P h T o.op tm hp k=k V hp) (I:o.dst=some dd) (hN:Nat.ble (dd+1) N=true) (j:wpOps P h T N ds l ((dd,V)::tm) hp k):wpOps P h T N ds (o::l) tm hp k:=by
 refine Zad C ?_
 rw[he]
 have j:=Zaa (c:=fun tm'=>wpOps P h T N ds l tm' hp k) (V:=V) (tm:=tm) I hN j
 exact j
theorem Zzo (I:o.guard=some (j,w)) (J:nth ds j=some (some d)) (R:ZcD d tm=some (.v .b t)) (hw:t=w) (he: ∀k,opT P h T o.op tm hp k=k V hp) (U:o.dst=some dd) (hN:Nat.ble (dd+1) N=true) (C:wpOps P h T N ds l ((dd,V)::tm) hp k):wpOps P h T N ds (o::l) tm hp k:=by
 refine Zam I J R hw ?_
 rw[he]
 have C:=Zaa (c:=fun tm'=>wpOps P h T N ds l tm' hp k) (V:=V) (tm:=tm) U hN C
 exact C
theorem Zap {C:Prop} (I:o.guard=none) (he: ∀k,opT P h T o.op tm hp k=(C∧k V hp)) (J:C) (R:o.dst=some dd) (hN:Nat.ble (dd+1) N=true) (j:wpOps P h T N ds l ((dd,V)::tm) hp k):wpOps P h T N ds (o::l) tm hp k:=by
 refine Zad I ?_
 rw[he]
 have j:=Zaa (c:=fun tm'=>wpOps P h T N ds l tm' hp k) (V:=V) (tm:=tm) R hN j
 exact⟨J,j⟩
theorem Zaj {C:Prop} (J:o.guard=some (j,w)) (R:nth ds j=some (some d)) (U:ZcD d tm=some (.v .b t)) (hw:t=w) (he: ∀k,opT P h T o.op tm hp k=(C∧k V hp)) (hc:C) (ho:o.dst=some dd) (hN:Nat.ble (dd+1) N=true) (I:wpOps P h T N ds l ((dd,V)::tm) hp k):wpOps P h T N ds (o::l) tm hp k:=by
 refine Zam J R U hw ?_
 rw[he]
 have I:=Zaa (c:=fun tm'=>wpOps P h T N ds l tm' hp k) (V:=V) (tm:=tm) ho hN I
 exact⟨hc,I⟩
theorem Zwr {α:Type} {C:α→Prop} {W:α→SV} {x:α} (J:o.guard=some (j,w)) (R:nth ds j=some (some d)) (U:ZcD d tm=some (.v .b t)) (hw:t=w) (he: ∀k,opT P h T o.op tm hp k= ∃x,C x∧k (W x) hp) (hc:C x) (ho:o.dst=some dd) (hN:Nat.ble (dd+1) N=true) (I:wpOps P h T N ds l ((dd,(W x))::tm) hp k):wpOps P h T N ds (o::l) tm hp k:=by
 refine Zam J R U hw ?_
 rw[he]
 have I:=Zaa (c:=fun tm'=>wpOps P h T N ds l tm' hp k) (V:=(W x)) (tm:=tm) ho hN I
 exact⟨x,hc,I⟩
theorem Zbb {α:Type} {A:Prop} {C:α→Prop} {W:α→SV} {x:α} (I:o.guard=none) (he: ∀k,opT P h T o.op tm hp k= ∃x,A∧C x∧k (W x) hp) (J:A) (R:C x) (U:o.dst=some dd) (hN:Nat.ble (dd+1) N=true) (j:wpOps P h T N ds l ((dd,(W x))::tm) hp k):wpOps P h T N ds (o::l) tm hp k:=by
 refine Zad I ?_
 rw[he]
 have j:=Zaa (c:=fun tm'=>wpOps P h T N ds l tm' hp k) (V:=(W x)) (tm:=tm) U hN j
 exact⟨x,J,R,j⟩
theorem ZbZ {α:Type} {A:Prop} {C:α→Prop} {W:α→SV} {x:α} (J:o.guard=some (j,w)) (R:nth ds j=some (some d)) (U:ZcD d tm=some (.v .b t)) (hw:t=w) (he: ∀k,opT P h T o.op tm hp k= ∃x,A∧C x∧k (W x) hp) (ha:A) (hc:C x) (ho:o.dst=some dd) (hN:Nat.ble (dd+1) N=true) (I:wpOps P h T N ds l ((dd,(W x))::tm) hp k):wpOps P h T N ds (o::l) tm hp k:=by
 refine Zam J R U hw ?_
 rw[he]
 have I:=Zaa (c:=fun tm'=>wpOps P h T N ds l tm' hp k) (V:=(W x)) (tm:=tm) ho hN I
 exact⟨x,ha,hc,I⟩
theorem Zzu {c a b:Operand} (I:o.guard=none) (j:o.op= .pick c a b) (J:evS tm c=some (.v .b t)) (R:t=true) (U:evS tm a=some V) (ho:o.dst=some dd) (hN:Nat.ble (dd+1) N=true) (C:wpOps P h T N ds l ((dd,V)::tm) hp k):wpOps P h T N ds (o::l) tm hp k:=by
 refine Zad I ?_
 rw[j]
 have C:=Zaa (c:=fun tm'=>wpOps P h T N ds l tm' hp k) (V:=V) (tm:=tm) ho hN C
 subst R
 simp[opT,J,U]
 exact C
theorem ZzZ {c a b:Operand} (I:o.guard=none) (j:o.op= .pick c a b) (J:evS tm c=some (.v .b t)) (R:t=false) (U:evS tm b=some V) (ho:o.dst=some dd) (hN:Nat.ble (dd+1) N=true) (C:wpOps P h T N ds l ((dd,V)::tm) hp k):wpOps P h T N ds (o::l) tm hp k:=by
 refine Zad I ?_
 rw[j]
 have C:=Zaa (c:=fun tm'=>wpOps P h T N ds l tm' hp k) (V:=V) (tm:=tm) ho hN C
 subst R
 simp[opT,J,U]
 exact C
theorem Zwz {F:Nat} {c:Cx} {b:Code} {tm:TM} {hp:List SM} {k:Ex→TM→List SM→Prop} (hp':List SM) (he:hp=hp') (j:wp P h T F c b tm hp' k):wp P h T F c b tm hp k:=he▸j
theorem ZtB (C:o.guard=some (j,w)) (I:nth ds j=some (some d)) (J:ZcD d tm=some (.tup [])) (R:o.dst=some dd) (hN:Nat.ble (dd+1) N=true) (U:wpOps P h T N ds l ((dd, .tup [])::tm) hp k):wpOps P h T N ds (o::l) tm hp k:=by
 simp only[wpOps,C,I,J,Zdj,R,hN]
 exact U
theorem Za0 {c a b:Operand} {R:Bool} (U:o.guard=some (j,w)) (hd:nth ds j=some (some d)) (C:ZcD d tm=some (.v .b R)) (hw:R=w) (I:o.op= .pick c a b) (hc:evS tm c=some (.v .b t)) (ht:t=true) (ha:evS tm a=some V) (ho:o.dst=some dd) (hN:Nat.ble (dd+1) N=true) (J:wpOps P h T N ds l ((dd,V)::tm) hp k):wpOps P h T N ds (o::l) tm hp k:=by
 refine Zam U hd C hw ?_
 rw[I]
 have J:=Zaa (c:=fun tm'=>wpOps P h T N ds l tm' hp k) (V:=V) (tm:=tm) ho hN J
 subst ht
 simp[opT,hc,ha]
 exact J
theorem Za9 {c a b:Operand} {R:Bool} (U:o.guard=some (j,w)) (hd:nth ds j=some (some d)) (C:ZcD d tm=some (.v .b R)) (hw:R=w) (I:o.op= .pick c a b) (hc:evS tm c=some (.v .b t)) (ht:t=false) (ha:evS tm b=some V) (ho:o.dst=some dd) (hN:Nat.ble (dd+1) N=true) (J:wpOps P h T N ds l ((dd,V)::tm) hp k):wpOps P h T N ds (o::l) tm hp k:=by
 refine Zam U hd C hw ?_
 rw[I]
 have J:=Zaa (c:=fun tm'=>wpOps P h T N ds l tm' hp k) (V:=V) (tm:=tm) ho hN J
 subst ht
 simp[opT,hc,ha]
 exact J
theorem ZeR {F:Nat} {c:Cx} {id:Nat} {b:Code} {k:Ex→TM→List SM→Prop} (j:h.keepB c.fid id=none) (C:wp P h T F c b tm hp (ZsD id k)):wp P h T F c (.block id b) tm hp k:=by
 simp only[wp,j];exact C
theorem Zbr (j:k tm hp):wpOps P h T N ds [] tm hp k:=j
theorem ZaX {F:Nat} {c:Cx} {a b:Code} {k:Ex→TM→List SM→Prop} (j:wp P h T F c a tm hp (Zx4 k fun tm' hp'=>wp P h T F c b tm' hp' k)):wp P h T F c (.seq a b) tm hp k:=j
theorem Zbe {F:Nat} {c:Cx} {id:Nat} {ops:Array Oper} {C:Bool} {k:Ex→TM→List SM→Prop} (I:h.light c.fid id=[]) (J:wpOps P h T c.N (ZzS ops.toList) ops.toList tm hp fun tm' hp'=>k .normal tm' hp') (j:h.perm c.fid id=[]:=by rfl):wp P h T F c (.region id ops C) tm hp k:=by
 simp only[wp,wpR,I,j];exact J
end
section
variable {P : Program} {h : Hints} {T : TypeId → TI} {N : Nat} {ds : List (Option Tmp)} {o : Oper} {l : List Oper} {tm : TM} {hp : List SM} {k : TM → List SM → Prop} {j d dd : Nat} {w w' t : Bool} {V : SV}
theorem Zac (j:wpOps P h T N ds l ((dd,V)::tm) hp k) (C:o.guard=none:=by exact rfl) (he: ∀k,opT P h T o.op tm hp k=k V hp:=by exact fun _=>rfl) (I:o.dst=some dd:=by exact rfl) (hN:Nat.ble (dd+1) N=true:=by exact rfl):wpOps P h T N ds (o::l) tm hp k:=ZAJ C he I hN j
theorem Zab (hw:t=w) (C:wpOps P h T N ds l ((dd,V)::tm) hp k) (I:o.guard=some (j,w):=by exact rfl) (J:nth ds j=some (some d):=by exact rfl) (R:ZcD d tm=some (.v .b t):=by exact rfl) (he: ∀k,opT P h T o.op tm hp k=k V hp:=by exact fun _=>rfl) (U:o.dst=some dd:=by exact rfl) (hN:Nat.ble (dd+1) N=true:=by exact rfl):wpOps P h T N ds (o::l) tm hp k:=Zzo I J R hw he U hN C
theorem Zah (hw:t=w') (C:wpOps P h T N ds l ((dd, .tup [])::tm) hp k) (I:o.guard=some (j,w):=by exact rfl) (J:nth ds j=some (some d):=by exact rfl) (R:ZcD d tm=some (.v .b t):=by exact rfl) (U:w'= !w:=by exact rfl) (ho:o.dst=some dd:=by exact rfl) (hN:Nat.ble (dd+1) N=true:=by exact rfl):wpOps P h T N ds (o::l) tm hp k:=Zvb I J R (hw.trans U) ho hN C
theorem Zcs (C:wpOps P h T N ds l ((dd, .tup [])::tm) hp k) (I:o.guard=some (j,w):=by exact rfl) (J:nth ds j=some (some d):=by exact rfl) (R:ZcD d tm=some (.tup []):=by exact rfl) (U:o.dst=some dd:=by exact rfl) (hN:Nat.ble (dd+1) N=true:=by exact rfl):wpOps P h T N ds (o::l) tm hp k:=ZtB I J R U hN C
theorem Zat {c a b:Operand} (C:t=true) (I:wpOps P h T N ds l ((dd,V)::tm) hp k) (J:o.guard=none:=by exact rfl) (j:o.op= .pick c a b:=by exact rfl) (R:evS tm c=some (.v .b t):=by exact rfl) (U:evS tm a=some V:=by exact rfl) (ho:o.dst=some dd:=by exact rfl) (hN:Nat.ble (dd+1) N=true:=by exact rfl):wpOps P h T N ds (o::l) tm hp k:=Zzu J j R C U ho hN I
theorem Zal {c a b:Operand} (C:t=false) (I:wpOps P h T N ds l ((dd,V)::tm) hp k) (J:o.guard=none:=by exact rfl) (j:o.op= .pick c a b:=by exact rfl) (R:evS tm c=some (.v .b t):=by exact rfl) (U:evS tm b=some V:=by exact rfl) (ho:o.dst=some dd:=by exact rfl) (hN:Nat.ble (dd+1) N=true:=by exact rfl):wpOps P h T N ds (o::l) tm hp k:=ZzZ J j R C U ho hN I
theorem brT {s t:Bool} {A B:Prop} (h:s=true) (k:A) (e:s=true→t=true:=by first|with_reducible exact fun h=>h|exact fun _=>rfl|exact fun h=>h):(t=true→A)∧(t=false→B):=⟨fun _=>k,fun j=>by rw[e h]at j;cases j⟩
theorem brF {s t:Bool} {A B:Prop} (h:s=false) (k:B) (e:s=false→t=false:=by first|with_reducible exact fun h=>h|exact fun _=>rfl|exact fun h=>h):(t=true→A)∧(t=false→B):=⟨fun j=>(by rw[e h]at j;cases j),fun _=>k⟩
end
end Go.Tx
namespace Go.Proofs.YtapbiodcncnnfaaGreatDoor
open Go.Am Go.Tx Dv
def dB (a b:List Int) (n m s:Nat) (k:Int):TM:=[(0,Zby a),(1,Zby b),(4, .ref 2 0 (m-n+1) none),(8, .v (.i .i64) (s:Int)),(9, .ref 0 0 (m+1) none),(10, .ref 1 0 n (some (n+1))),(11, .v (.i .i64) (n:Int)),(12, .v (.i .i64) k)]
def dH (u V q:List Int):List SM:=[.row (.i .u32) u true, .row (.i .u32) V true, .row (.i .u32) q true]
def gC (a b:List Int) (n m s j:Nat) (top:Int) (t:Int×Int):TM:=[(13, .v (.i .u64) top),(14, .v (.i .u64) t.1),(15, .v (.i .u64) t.2)]++dB a b n m s (j:Int)
theorem nf {b:Bool} (h:b=true) (j:b=false):False:=by rw[h]at j;cases j
theorem ZrC (a b u V q:List Int) (n m s j:Nat) (top D U P U' V' v1 v2 u2:Int) (hn:2≤n) (hm:m≤1000000) (hj:j+n≤m) (a7:n≤m) (hu:u.length=m+1) (hV:V.length=n+1)
 (ag:V[n-1]? =some v1) (av:V[n-2]? =some v2) (aw:u[j+n-2]? =some u2) (hP:0<P) (eD:D=(v1*4294967296+v2)*P+V') (J:0≤V') (ae:V'<P) (b1:2147483648≤v1) (ax:v1<4294967296) (b2:0≤v2) (ah:v2<4294967296)
 (eU:U=(top*4294967296+u2)*P+U') (af:0≤U') (ai:U'<P) (c0:0≤u2) (c1:u2<4294967296) (ay:0≤top) (ht:top<(v1+1)*4294967296) (az:U<D*4294967296):
 LoopOK Tryz.prog Zao 0 ⟨116,0,275⟩ (Za4 Tryz.f116 15) (gC a b n m s j top (top/v1,top % v1)) (dH u V q)
 (fun e tm hp=>e= .exit 2∧ ∃g rest:Int,(0≤g∧g<4294967296∧U<g*D+D∧g*D-D≤U)∧Ent 0 tm hp (gC a b n m s j top (g,rest)) (dH u V q)):=by
 have hD:0<D:=by
  have h1:0<(v1*4294967296+v2)*P:=Int.mul_pos (by omega) hP
  omega
 have aj:0≤U:=by
  have h1:0≤(top*4294967296+u2)*P:=Xbw (by omega) (by omega)
  omega
 have hq:=XaS U D
 have a8:=Int.emod_nonneg U (show D≠0 by omega)
 have ba:=Int.emod_lt_of_pos U hD
 have ak:(U/D)*D≤U:=by rw[Int.mul_comm];omega
 have a1:0≤U/D:=Int.ediv_nonneg aj (by omega)
 have up: ∀g:Int,U/D≤g→U<g*D+D:=fun g hg=>by
  have:=XaP hg (show 0≤D by omega)
  rw[Int.mul_comm (U/D) D]at this
  omega
 refine Zaw Zag rfl (gC a b n m s j top) (fun _=>dH u V q)
  (fun t=>0≤t.1∧t.1≤4294967297∧t.1*v1+t.2=top∧0≤t.2∧t.2<4294967296∧U/D≤t.1) (fun t=>t.1.toNat) ?_ (top/v1,top % v1) ?_ ZaJ
 ·rintro⟨g,rest⟩ ⟨R,a6,ab,al,an,ao⟩
  simp only at R a6 ab al an ao
  have e2:IntKind.i64.wrap ((n:Int)-2)=((n-2:Nat):Int):=by rw[Zan (by omega) (by omega)];omega
  have e1:IntKind.i64.wrap ((n:Int)-1)=((n-1:Nat):Int):=by rw[Zan (by omega) (by omega)];omega
  have e3:IntKind.i64.wrap (IntKind.i64.wrap ((j:Int)+(n:Int))-2)=((j+n-2:Nat):Int):=by rw[Zan (x:=(j:Int)+(n:Int)) (by omega) (by omega),Zan (by omega) (by omega)];omega
  have w1:IntKind.u64.wrap v1=v1:=Zax (by omega) (by omega)
  have aq: ∀ (aa:4294967296≤g∨(g<4294967296∧rest*4294967296+u2<g*v2)),1≤g∧U/D≤g-1∧(g-1)*v1+(rest+v1)=top:=by
   intro aa
   have h3:U/D<g:=by
    rcases aa with h|⟨_,h⟩
    ·have:U/D<4294967296:=Int.ediv_lt_of_lt_mul hD (by rw[Int.mul_comm];exact az)
     omega
    ·exact ZqQ hP eD J hD eU ai R ab h ak
   refine⟨by omega,by omega, ?_⟩
   rw[←ab];grind
  have hE: ∀g:Int,IntKind.u64.wrap (g-1)=g-1∨True:=fun _=> .inr trivial
  cases I:decide (4294967296≤g)with
  |true=>
   have ar:4294967296≤g:=of_decide_eq_true I
   refine ZaX (ZaX (Zbe rfl ?_))
   iterate 3 refine Zac ?_
   iterate 20 refine Zah I ?_
   refine Zat I ?_
   refine Zbr ?_
   refine brT rfl ?_
   obtain⟨k1,k2,k3⟩:=aq (.inl ar)
   have f1:IntKind.u64.wrap (g-1)=g-1:=Zax (by omega) (by omega)
   have f2:IntKind.u64.wrap (rest+IntKind.u64.wrap v1)=rest+v1:=by rw[w1];exact Zax (by omega) (by omega)
   refine Xaa ⟨by rw[e1];omega,by rw[e1];show((n-1:Nat):Int)<(n:Int);omega⟩ ?_
   refine Exists.intro v1 (Xaa (by show V[0+(IntKind.i64.wrap ((n:Int)-1)).toNat]? =some v1;rw[e1,Xaq,Xad];exact ag) ?_)
   refine Xaa (fun h3=> ?_) (fun h3=> ?_)
   ·have h4:4294967296≤IntKind.u64.wrap (rest+IntKind.u64.wrap v1):=of_decide_eq_true h3
    rw[f2]at h4
    have C:g-1<4294967296:=by
     rcases Int.lt_or_le (g-1) 4294967296 with h5|h5
     ·exact h5
     ·have h6:=XaP h5 (show 0≤v1 by omega)
      have h7:(v1+1)*4294967296=4294967296*v1+4294967296:=by grind
      omega
    refine⟨rfl,g-1,rest+v1,⟨by omega,C,up _ k2,Zkt hP eD J ae b2 (by omega) eU af (by omega) C (ZiC k3 h4 (by omega) C b2 ah c0)⟩, ?_⟩
    refine Zas rfl rfl ?_ ?_
    ·exact⟨rfl,f1.symm,f2.symm,rfl,rfl,⟨rfl,rfl,rfl⟩,rfl,⟨rfl,rfl,rfl⟩,⟨rfl,rfl,rfl⟩,rfl,rfl,trivial⟩
    ·exact⟨⟨rfl,fun _=>rfl⟩,⟨rfl,fun _=>rfl⟩,⟨rfl,fun _=>rfl⟩,trivial⟩
   ·have h4: ¬4294967296≤IntKind.u64.wrap (rest+IntKind.u64.wrap v1):=of_decide_eq_false h3
    rw[f2]at h4
    refine⟨(g-1,rest+v1),⟨by show 0≤g-1;omega,by show g-1≤_;omega,k3,by show 0≤rest+v1;omega,by show rest+v1<_;omega,k2⟩,by show(g-1).toNat<g.toNat;omega, ?_⟩
    refine Zas rfl rfl ?_ ?_
    ·exact⟨rfl,f1.symm,f2.symm,rfl,rfl,⟨rfl,rfl,rfl⟩,rfl,⟨rfl,rfl,rfl⟩,⟨rfl,rfl,rfl⟩,rfl,rfl,trivial⟩
    ·exact⟨⟨rfl,fun _=>rfl⟩,⟨rfl,fun _=>rfl⟩,⟨rfl,fun _=>rfl⟩,trivial⟩
  |false=>
   have ar: ¬4294967296≤g:=of_decide_eq_false I
   refine ZaX (ZaX (Zbe rfl ?_))
   iterate 3 refine Zac ?_
   iterate 4 refine Zab I ?_
   refine Zaj rfl rfl rfl I (fun _=>rfl) ⟨by rw[e2];omega,by rw[e2];show((n-2:Nat):Int)<(n:Int);omega⟩ rfl rfl ?_
   refine Zwr (x:=v2) rfl rfl rfl I (fun _=>rfl) (by show V[0+(IntKind.i64.wrap ((n:Int)-2)).toNat]? =some v2;rw[e2,Xaq,Xad];exact av) rfl rfl ?_
   iterate 3 refine Zab I ?_
   refine Zaj rfl rfl rfl I (fun _=>rfl) (by decide) rfl rfl ?_
   iterate 5 refine Zab I ?_
   refine Zaj rfl rfl rfl I (fun _=>rfl) ⟨by rw[e3];omega,by rw[e3];show((j+n-2:Nat):Int)<((m+1:Nat):Int);omega⟩ rfl rfl ?_
   refine Zwr (x:=u2) rfl rfl rfl I (fun _=>rfl) (by show u[0+(IntKind.i64.wrap (IntKind.i64.wrap ((j:Int)+(n:Int))-2)).toNat]? =some u2;rw[e3,Xaq,Xad];exact aw) rfl rfl ?_
   iterate 3 refine Zab I ?_
   refine Zal I ?_
   refine Zbr ?_
   have p1:0≤g*v2:=Xbw R b2
   have p2:g*v2≤4294967295*4294967295:=Int.mul_le_mul (by omega) (by omega) b2 (by omega)
   have em:IntKind.u64.wrap (g*IntKind.u64.wrap v2)=g*v2:=by rw[Zax (x:=v2) (by omega) (by omega)];exact Zax (by omega) (by omega)
   have eo:=Zh4 al an c0 c1
   refine Xaa (fun h2=> ?_) (fun h2=> ?_)
   ·have ad:IntKind.u64.wrap ((BitVec.ofInt IntKind.u64.bits (IntKind.u64.wrap (rest*2^min (Int.toNat 32) IntKind.u64.bits))|||BitVec.ofInt IntKind.u64.bits (IntKind.u64.wrap u2)).toNat:Int)<IntKind.u64.wrap (g*IntKind.u64.wrap v2):=of_decide_eq_true h2
    rw[eo,em]at ad
    obtain⟨k1,k2,k3⟩:=aq (.inr ⟨by omega,ad⟩)
    have f1:IntKind.u64.wrap (g-1)=g-1:=Zax (by omega) (by omega)
    have f2:IntKind.u64.wrap (rest+IntKind.u64.wrap v1)=rest+v1:=by rw[w1];exact Zax (by omega) (by omega)
    refine Xaa ⟨by rw[e1];omega,by rw[e1];show((n-1:Nat):Int)<(n:Int);omega⟩ ?_
    refine Exists.intro v1 (Xaa (by show V[0+(IntKind.i64.wrap ((n:Int)-1)).toNat]? =some v1;rw[e1,Xaq,Xad];exact ag) ?_)
    refine Xaa (fun h3=> ?_) (fun h3=> ?_)
    ·have h4:4294967296≤IntKind.u64.wrap (rest+IntKind.u64.wrap v1):=of_decide_eq_true h3
     rw[f2]at h4
     have C:g-1<4294967296:=by
      rcases Int.lt_or_le (g-1) 4294967296 with h5|h5
      ·exact h5
      ·have h6:=XaP h5 (show 0≤v1 by omega)
       have h7:(v1+1)*4294967296=4294967296*v1+4294967296:=by grind
       omega
     refine⟨rfl,g-1,rest+v1,⟨by omega,C,up _ k2,Zkt hP eD J ae b2 (by omega) eU af (by omega) C (ZiC k3 h4 (by omega) C b2 ah c0)⟩, ?_⟩
     refine Zas rfl rfl ?_ ?_
     ·exact⟨rfl,f1.symm,f2.symm,rfl,rfl,⟨rfl,rfl,rfl⟩,rfl,⟨rfl,rfl,rfl⟩,⟨rfl,rfl,rfl⟩,rfl,rfl,trivial⟩
     ·exact⟨⟨rfl,fun _=>rfl⟩,⟨rfl,fun _=>rfl⟩,⟨rfl,fun _=>rfl⟩,trivial⟩
    ·have h4: ¬4294967296≤IntKind.u64.wrap (rest+IntKind.u64.wrap v1):=of_decide_eq_false h3
     rw[f2]at h4
     refine⟨(g-1,rest+v1),⟨by show 0≤g-1;omega,by show g-1≤_;omega,k3,by show 0≤rest+v1;omega,by show rest+v1<_;omega,k2⟩,by show(g-1).toNat<g.toNat;omega, ?_⟩
     refine Zas rfl rfl ?_ ?_
     ·exact⟨rfl,f1.symm,f2.symm,rfl,rfl,⟨rfl,rfl,rfl⟩,rfl,⟨rfl,rfl,rfl⟩,⟨rfl,rfl,rfl⟩,rfl,rfl,trivial⟩
     ·exact⟨⟨rfl,fun _=>rfl⟩,⟨rfl,fun _=>rfl⟩,⟨rfl,fun _=>rfl⟩,trivial⟩
   ·have ad: ¬IntKind.u64.wrap ((BitVec.ofInt IntKind.u64.bits (IntKind.u64.wrap (rest*2^min (Int.toNat 32) IntKind.u64.bits))|||BitVec.ofInt IntKind.u64.bits (IntKind.u64.wrap u2)).toNat:Int)<IntKind.u64.wrap (g*IntKind.u64.wrap v2):=of_decide_eq_false h2
    rw[eo,em]at ad
    refine⟨rfl,g,rest,⟨R,by omega,up _ ao,Zkt hP eD J ae b2 (by omega) eU af R (by omega) (Zp7 ab (by omega))⟩, ?_⟩
    refine Zas rfl rfl ?_ ?_
    ·exact⟨rfl,rfl,rfl,rfl,rfl,⟨rfl,rfl,rfl⟩,rfl,⟨rfl,rfl,rfl⟩,⟨rfl,rfl,rfl⟩,rfl,rfl,trivial⟩
    ·exact⟨⟨rfl,fun _=>rfl⟩,⟨rfl,fun _=>rfl⟩,⟨rfl,fun _=>rfl⟩,trivial⟩
 ·have au:=XaS top v1
  rw[Int.mul_comm v1]at au
  refine⟨Int.ediv_nonneg ay (by omega), ?_,by show top/v1*v1+top % v1=top;omega,Int.emod_nonneg _ (by omega),Int.lt_trans (Int.emod_lt_of_pos top (show 0<v1 by omega)) ax, ?_⟩
  ·show top/v1≤4294967297
   have:top/v1<4294967298:=Int.ediv_lt_of_lt_mul (by omega) (by omega)
   omega
  ·exact ZvR hP eD J b2 eU ai c1 (by omega) a1 ak
end Go.Proofs.YtapbiodcncnnfaaGreatDoor
