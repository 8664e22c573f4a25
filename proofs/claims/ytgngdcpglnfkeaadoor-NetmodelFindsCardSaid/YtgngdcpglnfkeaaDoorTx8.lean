/-
 The program logic: tables of types; results that are own memory.
-/
import Derived.Test.YtgngdcpglnfkeaaDoorTx7
set_option linter.constructorNameAsVariable false
set_option linter.unusedSimpArgs false
set_option linter.unusedVariables false
namespace Go.Tx
open Go.Am
def Zww:TI:=⟨.other,0,0,[],none⟩
inductive Tr where
 |lf (k:Nat) (v:TI)
 |nd (k:Nat) (a b:Tr)
def Tr.find:Tr→Nat→TI
 | .lf k v,t=>match Nat.beq t k with
  |true=>v
  |false=>Zww
 | .nd k a b,t=>match Nat.ble k t with
  |true=>b.find t
  |false=>a.find t
def Tr.all (p:Nat→TI→Bool):Tr→Bool
 | .lf k v=>p k v
 | .nd _ a b=>a.all p&&b.all p
theorem Tr.all_find {p:Nat→TI→Bool}: ∀ {tr:Tr},tr.all p=true→ ∀t,tr.find t=Zww∨p t (tr.find t)=true
 | .lf k v,h,t=>by
  simp only[Tr.find]
  split
  ·rename_i hb
   rw[Nat.eq_of_beq_eq_true hb]
   exact .inr h
  ·exact .inl rfl
 | .nd k a b,h,t=>by
  simp only[Tr.all,Bool.and_eq_true]at h
  simp only[Tr.find]
  split
  ·exact Tr.all_find h.2 t
  ·exact Tr.all_find h.1 t
def zeq:SV→PV→Bool
 | .v (.i k) n, .int k' n'=>keq k k'&&(n==n')
 | .v .b b, .bool b'=>b==b'
 | .v .s s, .str s'=>s.isEmpty&&Nat.beq s'.size 0
 | .nils, .nils=>true
 | .nilp, .nilp=>true
 | .nilf, .nilf=>true
 | .nili, .nili=>true
 | .nilmp, .nilm=>true
 |_,_=>false
def Zvv:List SV→List PV→Bool
 | [],[]=>true
 |a::l,b::r=>zeq a b&&Zvv l r
 |_,_=>false
theorem ZkX {φ:Ph} {V:SV} {q:PV} (h:zeq V q=true):RV φ V q:=by
 unfold zeq at h
 split at h<;>first
  |(simp only[Bool.and_eq_true,beq_iff_eq]at h;rw[Zfz h.1,h.2];exact vi _ _)
  |(simp only[beq_iff_eq]at h;rw[h];exact vb _)
  |(simp only[RV];done)
  |(cases h;done)
  |skip
 rename_i s s'
 simp only[Bool.and_eq_true,List.isEmpty_iff]at h
 rw[h.1]
 have:s'=⟨([]:List UInt8).toArray⟩:=by
  have h2:=Nat.eq_of_beq_eq_true h.2
  apply ByteArray.ext
  exact Array.eq_empty_of_size_eq_zero h2
 rw[this]
 exact vs []
theorem Zqi {φ:Ph}: ∀ {l:List SV} {qs:List PV},Zvv l qs=true→RL φ l qs
 | [],[],_=>by simp only[RL]
 |a::l,b::r,h=>by
  simp only[Zvv,Bool.and_eq_true]at h
  simp only[RL]
  exact⟨_,_,rfl,ZkX h.1,Zqi h.2⟩
def zct:(c:CT)→List PV→Bool
 | .p a c,cs=>zct a (cs.take a.w)&&zct c (cs.drop a.w)
 | .i k,cs=>match cs with
  | [q]=>zeq (.v (.i k) (0:Int)) q
  |_=>false
 | .b,cs=>match cs with
  | [q]=>zeq (.v .b false) q
  |_=>false
 | .s,cs=>match cs with
  | [q]=>zeq (.v .s []) q
  |_=>false
 | .l _,cs=>match cs with
  | [q]=>zeq .nils q
  |_=>false
theorem ZpD: ∀ {c:CT} {cs:List PV},zct c cs=true→RR c c.z cs
 | .p a c,cs,h=>by
  simp only[zct,Bool.and_eq_true]at h
  exact⟨_,_,(List.take_append_drop a.w cs).symm,ZpD h.1,ZpD h.2⟩
 | .i k,cs,h=>by
  simp only[zct]at h
  split at h
  ·have:=ZkX (φ:=[]) h
   simp only[RV]at this
   exact this
  ·cases h
 | .b,cs,h=>by
  simp only[zct]at h
  split at h
  ·have:=ZkX (φ:=[]) h
   simp only[RV]at this
   exact this
  ·cases h
 | .s,cs,h=>by
  simp only[zct]at h
  split at h
  ·have:=ZkX (φ:=[]) h
   simp only[RV]at this
   exact this
  ·cases h
 | .l e,cs,h=>by
  simp only[zct]at h
  split at h
  ·have:=ZkX (φ:=[]) h
   simp only[RV]at this
   subst this
   exact .inl ⟨rfl,rfl⟩
  ·cases h
noncomputable def ZrZ (P:Program):List (Nat×TypeId×Nat)→List Field→Bool
 | [],[]=>true
 |(off,t,n)::r,f::fs=>Nat.beq off f.offset&&Nat.beq t f.type&&(match ZaX P t with|some m=>Nat.beq m n|none=>false)&&ZrZ P r fs
 |_,_=>false
theorem Znw {P:Program}: ∀ {l:List (Nat×TypeId×Nat)} {fs:List Field},ZrZ P l fs=true→(l.map fun x=>(x.1,x.2.1))=fs.map (fun f=>(f.offset,f.type))∧ ∀x∈l,ZaX P x.2.1=some x.2.2
 | [],[],_=>⟨rfl,by simp⟩
 | [],_::_,h=>by cases h
 |_::_,[],h=>by cases h
 |(off,t,n)::r,f::fs,h=>by
  simp only[ZrZ,Bool.and_eq_true]at h
  obtain⟨⟨⟨h1,h2⟩,h3⟩,h4⟩:=h
  have e1:=Nat.eq_of_beq_eq_true h1
  have e2:t=f.type:=Nat.eq_of_beq_eq_true h2
  obtain⟨g1,g2⟩:=Znw h4
  refine⟨by simp only[List.map_cons,g1,e1,e2], ?_⟩
  intro x hx
  rcases List.mem_cons.1 hx with rfl|hx
  ·split at h3
   ·rename_i m hm
    rw[←Nat.eq_of_beq_eq_true h3]
    exact hm
   ·cases h3
  ·exact g2 x hx
noncomputable def ZvZ (P:Program) (t:TypeId):TK→Bool
 | .int k=>match P.underlying t with|some (.int k')=>keq k k'|_=>false
 | .bool=>match P.underlying t with|some .bool=>true|_=>false
 | .str=>match P.underlying t with|some .string=>true|_=>false
 | .slice e=>match P.underlying t with|some (.slice e')=>Nat.beq e e'|_=>false
 | .arr n e=>match P.underlying t with|some (.array n' e')=>Nat.beq n n'&&Nat.beq e e'|_=>false
 | .struct fs=>match P.underlying t with|some (.struct a)=>ZrZ P fs a.toList|_=>false
 | .ptr=>match P.underlying t with|some (.pointer _)=>true|_=>false
 | .func=>match P.underlying t with|some (.func _ _ _)=>true|_=>false
 | .smap=>match P.underlying t,ZeY P t with|some (.map _ e),some e'=>Nat.beq e e'&&(match ZhZ P e with|some (.bool false)=>true|_=>false)|_,_=>false
 | .other=>true
theorem ZsM {P:Program} {t:TypeId} {k:TK} (h:ZvZ P t k=true):KM P t k:=by
 cases k<;>simp only[ZvZ]at h<;>simp only[KM]<;>(try trivial)<;>(split at h<;>first|(cases h;done)|skip)
 ·rename_i hu;rw[Zfz h];exact hu
 ·rename_i hu;exact hu
 ·rename_i hu;exact hu
 ·rename_i hu;rw[hu,show _=_ from Nat.eq_of_beq_eq_true h]
 ·rename_i hu
  simp only[Bool.and_eq_true]at h
  rw[hu,show _=_ from Nat.eq_of_beq_eq_true h.1,show _=_ from Nat.eq_of_beq_eq_true h.2]
 ·rename_i hu
  obtain⟨h1,h2⟩:=Znw h
  exact⟨_,hu,h1,h2⟩
 ·rename_i hu;exact⟨_,hu⟩
 ·rename_i hu;exact⟨_,_,_,hu⟩
 ·rename_i hu hs
  simp only[Bool.and_eq_true]at h
  obtain⟨h1,h2⟩:=h
  have e1:=Nat.eq_of_beq_eq_true h1
  split at h2
  ·rename_i hz
   exact⟨_,_,hu,by rw[hs,e1],hz⟩
  ·cases h2
noncomputable def Ztu (P:Program) (t:TypeId) (i:TI):Bool:=
 ZvZ P t i.k&&(match ZaX P t with|some n=>Nat.beq n i.sz|none=>false)&&(match Zh4 P t with|some n=>Nat.beq n i.by_|none=>false)&&
 (match ZcT P t with|some zs=>Zvv i.zero zs&&Nat.beq zs.length i.sz&&(match i.ct with|some c=>Nat.beq c.w i.sz&&zct c zs|none=>true)|none=>false)
theorem Zr0 {P:Program} {t:TypeId} {i:TI} (h:Ztu P t i=true):TIok P t i:=by
 simp only[Ztu,Bool.and_eq_true]at h
 obtain⟨⟨⟨h1,h2⟩,h3⟩,h4⟩:=h
 split at h2
 ·rename_i n hn
  split at h3
  ·rename_i m hm
   split at h4
   ·rename_i zs hz
    simp only[Bool.and_eq_true]at h4
    obtain⟨⟨h5,h6⟩,h7⟩:=h4
    refine⟨ZsM h1,by rw[hn,Nat.eq_of_beq_eq_true h2],by rw[hm,Nat.eq_of_beq_eq_true h3],⟨zs,hz,fun φ=>Zqi h5,Nat.eq_of_beq_eq_true h6⟩, ?_⟩
    intro c hc
    rw[hc]at h7
    simp only[Bool.and_eq_true]at h7
    refine⟨Nat.eq_of_beq_eq_true h7.1,fun zs' hz'=> ?_⟩
    rw[hz]at hz';cases hz'
    exact ZpD h7.2
   ·cases h4
  ·cases h3
 ·cases h2
theorem Zu0 {P:Program} {tr:Tr} (h:tr.all (Ztu P)=true):TysOK P tr.find:=by
 intro t
 rcases Tr.all_find h t with h|h
 ·left;rw[h];rfl
 ·exact .inr (Zr0 h)
def ZsH:SV→Bool
 | .v _ _| .nilp| .nils| .nilf| .ref _ _ _ _=>true
 |_=>false
def okV:SV→Bool
 | .agg cs=>cs.all ZsH
 |V=>ZsH V
def Zsq:SV→List Nat
 | .ref id _ _ _=> [id]
 | .agg cs=>cs.flatMap fun c=>match c with| .ref id _ _ _=> [id]|_=> []
 |_=> []
def ZcO:SV→List SV
 | .tup vs=>vs
 |V=> [V]
def Zja:SV→Bool
 | .v (.l _) _=>false
 | .v _ _| .nilp| .nils| .nilf| .ref _ _ _ _=>true
 |_=>false
def Zqe:SV→Bool
 | .agg cs=>cs.all Zja
 |V=>Zja V
def Zou:CT→Bool
 | .l _=>false
 | .p a c=>Zou a&&Zou c
 |_=>true
def Zhs:List SM→Bool
 | []=>true
 | .row _ _ _::r=>Zhs r
 | .dead::r=>Zhs r
 | .cell _ _::_=>false
 | .many _ _ _::_=>false
 | .set _::_=>false
def Zom:List SM→Bool
 | []=>true
 | .row t _ _::r=>Zou t&&Zom r
 | .dead::r=>Zom r
 | .cell _ _::_=>false
 | .many _ _ _::_=>false
 | .set _::_=>false
def ZvE (i:Nat):List Nat→Bool
 | []=>false
 |j::r=>match Nat.beq i j with
  |true=>true
  |false=>ZvE i r
def Zd8 (ids:List Nat):Nat→List SM→Bool
 |_,[]=>true
 |j, .dead::r=>Zd8 ids (j+1) r
 |j,_::r=>ZvE j ids&&Zd8 ids (j+1) r
def ZmW (hp:List SM):List Nat→Bool
 | []=>true
 |j::r=>match nth hp j with
  |some (.row _ _ _)=>ZmW hp r
  |_=>false
def Zwq (Q:SV→List SM→Bool→Prop) (V:SV) (hp:List SM):Prop:=
 ∃V' hp',Ent 0 (Zc9 0 (ZcO V)) hp (Zc9 0 (ZcO V')) hp'∧(Nat.beq (ZcO V).length (ZcO V').length&&Bool.xor (ZbK V) (!ZbK V')&&(ZcO V').all okV&&Zhs hp'&&Zd8 ((ZcO V').flatMap Zsq) 0 hp'&&ZmW hp' ((ZcO V').flatMap Zsq))=true∧Q V' hp' ((ZcO V').all Zqe&&Zom hp')
theorem Zqz {i:Nat}: ∀ {xs ids:List Nat},i∈xs.foldl Zb5 ids→i∈ids∨i∈xs
 | [],ids,h=> .inl h
 |x::xs,ids,h=>by
  rcases Zqz (xs:=xs) h with h|h
  ·unfold Zb5 at h
   split at h
   ·exact .inl h
   ·rcases List.mem_append.1 h with h|h
    ·exact .inl h
    ·exact .inr (by rw[List.mem_singleton.1 h];exact List.mem_cons_self)
  ·exact .inr (List.mem_cons_of_mem _ h)
theorem Zdk {H:List Mem} {ids:List Nat} (h: ∀i∈ids,ZlX H i=[]):Zeg H ids=ids:=by
 unfold Zeg
 rw[List.flatMap_eq_nil_iff.2 h];rfl
theorem Ze5 {q:PV} (h:ZcA q=true):ZgR q=true∧Zbv q=true∧(∀b,sh b q=q)∧Zcp q=[]:=by
 cases q<;>simp only[ZcA]at h<;>first
  |exact⟨rfl,rfl,fun _=>rfl,rfl⟩
  |(cases h;done)
theorem ZeA {t:CT} {l:List t.D} {es:List (List PV)} (h:All2 (RR t) l es) (z:Nat) (m:Bool):Zfi (.row es z m)=true∧Zt5 (.row es z m)=true∧ ∀b,shM b (.row es z m)= .row es z m:=by
 have hp:=RRs.plain h
 refine⟨Zp7 (fun c hc v hv=>(Ze5 (hp c hc v hv)).1) z m, ?_,fun b=> ?_⟩
 ·simp only[Zt5,List.all_eq_true]
  exact fun c hc v hv=>(Ze5 (hp c hc v hv)).2.1
 ·simp only[shM,Mem.row.injEq,and_true]
  rw[List.map_congr_left (g:=id) (fun c hc=>by
   rw[List.map_congr_left (g:=id) (fun v hv=>(Ze5 (hp c hc v hv)).2.2.1 b)];simp)]
  simp
section
variable {φ : Ph}
theorem ZpC {V:SV} {q:PV} (hv:ZsH V=true) (hr:RV φ V q):Zdd q=true∧Zbv q=true∧Zcp q=Zb4 q∧(∀i,i∈Zb4 q↔ ∃id j n m,V= .ref id j n m∧φ[id]? =some (some i)):=by
 cases V with
 |v t x=>
  have hp:ZcA q=true:=by simp only[RV]at hr;exact hr.plain q (by simp)
  cases q<;>simp only[ZcA]at hp<;>first
   |(cases hp;done)
   |exact⟨rfl,rfl,rfl,fun i=>by simp[Zb4]⟩
 |nilp=>simp only[RV]at hr;subst hr;exact⟨rfl,rfl,rfl,fun i=>by simp[Zb4]⟩
 |nils=>simp only[RV]at hr;subst hr;exact⟨rfl,rfl,rfl,fun i=>by simp[Zb4]⟩
 |nilf=>simp only[RV]at hr;subst hr;exact⟨rfl,rfl,rfl,fun i=>by simp[Zb4]⟩
 |ref id j n m=>
  simp only[RV]at hr
  rcases hr with⟨a,h1,rfl⟩|⟨h1,rfl,_⟩
  ·refine⟨rfl,rfl,rfl,fun i=> ?_⟩
   simp only[Zb4,List.mem_singleton]
   constructor
   ·rintro rfl;exact⟨id,j,n,m,rfl,h1⟩
   ·rintro⟨id',j',n',m',e,h2⟩
    cases e
    rw[h1]at h2
    exact(Option.some.inj (Option.some.inj h2)).symm
  ·refine⟨rfl,rfl,rfl,fun i=> ?_⟩
   simp only[Zb4,List.not_mem_nil,false_iff]
   rintro⟨id',j',n',m',e,h2⟩
   cases e
   rw[h1]at h2
   cases h2
 |_=>cases hv
theorem Zqa {V:SV} {q:PV} (hv:ZsH V=true) (hr:RV φ V q) (ids:List Nat) (base:Nat):RV (φ.map (Option.map fun a=>base+pos a ids)) V (sh1 base (ZiE ids q))∧sh base (ren ids q)=sh1 base (ZiE ids q)∧Zbv (ren ids q)=true∧Zdd (ZiE ids q)=true∧(Zja V=true→ZcV (ren ids q)=true∧Zhg (ZiE ids q)=true):=by
 cases V with
 |v t x=>
  have hp:ZcA q=true:=by simp only[RV]at hr;exact hr.plain q (by simp)
  have hr':RV (φ.map (Option.map fun a=>base+pos a ids)) (.v t x) q:=by simpa only[RV]using hr
  cases q<;>simp only[ZcA]at hp<;>first
   |(cases hp;done)
   |skip
  ·exact⟨hr',rfl,rfl,rfl,fun _=>⟨rfl,rfl⟩⟩
  ·exact⟨hr',rfl,rfl,rfl,fun _=>⟨rfl,rfl⟩⟩
  ·exact⟨hr',rfl,rfl,rfl,fun _=>⟨rfl,rfl⟩⟩
  ·exact⟨hr',rfl,rfl,rfl,fun _=>⟨rfl,rfl⟩⟩
  ·refine⟨hr',rfl,rfl,rfl,fun hs=> ?_⟩
   cases t<;>simp only[Zja]at hs<;>first
    |(cases hs;done)
    |(simp[RV,RR]at hr;done)
    |skip
   simp only[RV]at hr
   have:=hr.len
   obtain⟨u,v,e,h1,h2⟩:=hr
   have l1:=h1.len
   have l2:=h2.len
   have:=congrArg List.length e
   simp only[List.length_cons,List.length_nil,List.length_append]at this
   have w: ∀t:CT,1≤t.w:=by
    intro t
    induction t with
    |p a c iha ihc=>simp only[CT.w];omega
    |_=>simp[CT.w]
   rename_i a c _
   have:=w a
   have:=w c
   omega
 |nilp=>simp only[RV]at hr;subst hr;exact⟨by simp only[RV];rfl,rfl,rfl,rfl,fun _=>⟨rfl,rfl⟩⟩
 |nils=>simp only[RV]at hr;subst hr;exact⟨by simp only[RV];rfl,rfl,rfl,rfl,fun _=>⟨rfl,rfl⟩⟩
 |nilf=>simp only[RV]at hr;subst hr;exact⟨by simp only[RV];rfl,rfl,rfl,rfl,fun _=>⟨rfl,rfl⟩⟩
 |ref id j n m=>
  simp only[RV]at hr
  rcases hr with⟨a,h1,rfl⟩|⟨h1,rfl,h2⟩
  ·refine⟨?_,rfl,rfl,rfl,fun _=>⟨rfl,rfl⟩⟩
   simp only[RV]
   exact .inl ⟨base+pos a ids,by rw[List.getElem?_map,h1];rfl,rfl⟩
  ·refine⟨?_,rfl,rfl,rfl,fun _=>⟨rfl,rfl⟩⟩
   simp only[RV]
   exact .inr ⟨by rw[List.getElem?_map,h1];rfl,rfl,h2⟩
 |_=>cases hv
theorem Ztq {V:SV} {q:PV} (hv:okV V=true) (hr:RV φ V q):Zbv q=true∧ ∀i,i∈Zcp q↔ ∃id,id∈Zsq V∧φ[id]? =some (some i):=by
 have one:okV V=ZsH V→(∀i,(∃id j n m,V= .ref id j n m∧φ[id]? =some (some i))↔ ∃id,id∈Zsq V∧φ[id]? =some (some i))→Zbv q=true∧ ∀i,i∈Zcp q↔ ∃id,id∈Zsq V∧φ[id]? =some (some i):=by
  intro h1 h2
  rw[h1]at hv
  obtain⟨_,g2,g3,g4⟩:=ZpC hv hr
  exact⟨g2,fun i=>by rw[g3,g4 i,h2 i]⟩
 cases V with
 |ref id j n m=>
  refine one rfl fun i=>⟨?_, ?_⟩
  ·rintro⟨id',j',n',m',e,h⟩;cases e;exact⟨_,List.mem_singleton.2 rfl,h⟩
  ·rintro⟨id',h1,h⟩;rw[List.mem_singleton.1 h1]at h;exact⟨_,_,_,_,rfl,h⟩
 |agg cs=>
  simp only[okV,List.all_eq_true]at hv
  simp only[RV]at hr
  obtain⟨cs',rfl,hr⟩:=hr
  have: ∀ (l:List SV) (qs:List PV),(∀c∈l,ZsH c=true)→RL φ l qs→qs.all Zdd=true∧ ∀i,i∈qs.flatMap Zb4↔ ∃id,id∈(l.flatMap fun c=>match c with| .ref id _ _ _=> [id]|_=> [])∧φ[id]? =some (some i):=by
   intro l
   induction l with
   |nil=>intro qs _ h;simp only[RL]at h;subst h;simp
   |cons c r ih=>
    intro qs h1 h2
    simp only[RL]at h2
    obtain⟨q,r',rfl,h3,h4⟩:=h2
    obtain⟨g1,_,_,g4⟩:=ZpC (h1 c List.mem_cons_self) h3
    obtain⟨f1,f2⟩:=ih r' (fun c hc=>h1 c (List.mem_cons_of_mem _ hc)) h4
    refine⟨by simp only[List.all_cons,g1,f1,Bool.and_self],fun i=> ?_⟩
    simp only[List.flatMap_cons,List.mem_append,g4 i,f2 i]
    constructor
    ·rintro(⟨id,j,n,m,rfl,h⟩|⟨id,h,h'⟩)
     ·exact⟨id, .inl (List.mem_singleton.2 rfl),h⟩
     ·exact⟨id, .inr h,h'⟩
    ·rintro⟨id,h|h,h'⟩
     ·left
      cases c<;>simp at h
      subst h
      exact⟨_,_,_,_,rfl,h'⟩
     ·exact .inr ⟨id,h,h'⟩
  exact this cs cs' hv hr
 |_=>
  refine one rfl fun i=>⟨?_, ?_⟩
  ·rintro⟨id',j',n',m',e,h⟩;cases e
  ·rintro⟨id',h1,h⟩;simp[Zsq]at h1
theorem ZtU {V:SV} {q:PV} (hv:okV V=true) (hr:RV φ V q) (ids:List Nat) (base:Nat):RV (φ.map (Option.map fun a=>base+pos a ids)) V (sh base (ren ids q))∧Zbv (ren ids q)=true∧(Zqe V=true→ZcV (ren ids q)=true):=by
 have one:okV V=ZsH V→Zqe V=Zja V→RV (φ.map (Option.map fun a=>base+pos a ids)) V (sh base (ren ids q))∧Zbv (ren ids q)=true∧(Zqe V=true→ZcV (ren ids q)=true):=by
  intro h1 h2
  rw[h1]at hv
  obtain⟨g1,g2,g3,_,g4⟩:=Zqa hv hr ids base
  exact⟨by rw[g2];exact g1,g3,fun h=>(g4 (h2▸h)).1⟩
 cases V with
 |agg cs=>
  simp only[okV,List.all_eq_true]at hv
  simp only[RV]at hr⊢
  obtain⟨cs',rfl,hr⟩:=hr
  have: ∀ (l:List SV) (qs:List PV),(∀c∈l,ZsH c=true)→RL φ l qs→RL (φ.map (Option.map fun a=>base+pos a ids)) l ((qs.map (ZiE ids)).map (sh1 base))∧(qs.map (ZiE ids)).all Zdd=true∧(l.all Zja=true→(qs.map (ZiE ids)).all Zhg=true):=by
   intro l
   induction l with
   |nil=>intro qs _ h;simp only[RL]at h;subst h;simp[RL]
   |cons c r ih=>
    intro qs h1 h2
    simp only[RL]at h2
    obtain⟨q,r',rfl,h3,h4⟩:=h2
    obtain⟨g1,_,_,g3,g4⟩:=Zqa (h1 c List.mem_cons_self) h3 ids base
    obtain⟨f1,f2,f3⟩:=ih r' (fun c hc=>h1 c (List.mem_cons_of_mem _ hc)) h4
    refine⟨?_,by simp only[List.map_cons,List.all_cons,g3,f2,Bool.and_self],fun hs=> ?_⟩
    ·simp only[List.map_cons,RL]
     exact⟨_,_,rfl,g1,f1⟩
    ·simp only[List.all_cons,Bool.and_eq_true]at hs
     simp only[List.map_cons,List.all_cons,(g4 hs.1).2,f3 hs.2,Bool.and_self]
  obtain⟨f1,f2,f3⟩:=this cs cs' hv hr
  exact⟨⟨_,rfl,f1⟩,f2,f3⟩
 |_=>exact one rfl rfl
theorem ZnW (ids:List Nat) (base:Nat): ∀ {l:List SV} {qs:List PV},l.all okV=true→RL φ l qs→RL (φ.map (Option.map fun a=>base+pos a ids)) l (qs.map fun q=>sh base (ren ids q))∧(∀q∈qs,Zbv (ren ids q)=true)∧(l.all Zqe=true→ ∀q∈qs,ZcV (ren ids q)=true)
 | [],qs,_,h=>by simp only[RL]at h;subst h;simp[RL]
 |V::l,qs,h1,h2=>by
  simp only[List.all_cons,Bool.and_eq_true]at h1
  simp only[RL]at h2
  obtain⟨q,r',rfl,h3,h4⟩:=h2
  obtain⟨g1,g2,g3⟩:=ZtU h1.1 h3 ids base
  obtain⟨f1,f2,f3⟩:=ZnW ids base h1.2 h4
  refine⟨?_, ?_, ?_⟩
  ·simp only[List.map_cons,RL]
   exact⟨_,_,rfl,g1,f1⟩
  ·intro x hx
   rcases List.mem_cons.1 hx with rfl|hx
   ·exact g2
   ·exact f2 x hx
  ·intro hs x hx
   simp only[List.all_cons,Bool.and_eq_true]at hs
   rcases List.mem_cons.1 hx with rfl|hx
   ·exact g3 hs.1
   ·exact f3 hs.2 x hx
theorem Znb: ∀ {l:List SV} {qs:List PV},l.all okV=true→RL φ l qs→(∀q∈qs,Zbv q=true)∧ ∀i,i∈qs.flatMap Zcp↔ ∃id,id∈l.flatMap Zsq∧φ[id]? =some (some i)
 | [],qs,_,h=>by simp only[RL]at h;subst h;simp
 |V::l,qs,h1,h2=>by
  simp only[List.all_cons,Bool.and_eq_true]at h1
  simp only[RL]at h2
  obtain⟨q,r',rfl,h3,h4⟩:=h2
  obtain⟨g1,g2⟩:=Ztq h1.1 h3
  obtain⟨f1,f2⟩:=Znb h1.2 h4
  refine⟨?_,fun i=> ?_⟩
  ·intro x hx
   rcases List.mem_cons.1 hx with rfl|hx
   ·exact g1
   ·exact f1 x hx
  ·simp only[List.flatMap_cons,List.mem_append,g2 i,f2 i]
   constructor
   ·rintro(⟨id,h,h'⟩|⟨id,h,h'⟩)
    ·exact⟨id, .inl h,h'⟩
    ·exact⟨id, .inr h,h'⟩
   ·rintro⟨id,h|h,h'⟩
    ·exact .inl ⟨id,h,h'⟩
    ·exact .inr ⟨id,h,h'⟩
end
end Go.Tx
