/-
 The program logic: tables of types; results that are own memory.
-/
import Derived.Test.YtdnodlkdndfplaaGreatDoorTx7
set_option linter.constructorNameAsVariable false
set_option linter.unusedSimpArgs false
set_option linter.unusedVariables false
namespace Go.Tx
open Go.Am
def ZAp:TI:=⟨.other,0,0,[],none⟩
inductive Tr where
 |lf (k:Nat) (v:TI)
 |nd (k:Nat) (a b:Tr)
def Tr.find:Tr→Nat→TI
 | .lf k v,t=>match Nat.beq t k with
  |true=>v
  |false=>ZAp
 | .nd k a b,t=>match Nat.ble k t with
  |true=>b.find t
  |false=>a.find t
def Tr.all (p:Nat→TI→Bool):Tr→Bool
 | .lf k v=>p k v
 | .nd _ a b=>a.all p&&b.all p
theorem Tr.all_find {p:Nat→TI→Bool}: ∀ {tr:Tr},tr.all p=true→ ∀t,tr.find t=ZAp∨p t (tr.find t)=true
 | .lf k v,h,t=>by
  simp only[Tr.find]
  split
  ·rename_i hb
   rw[Nat.eq_of_beq_eq_true hb]
   exact .inr h
  ·exact .inl rfl
 | .nd k a b,h,t=>by
  simp only[Tr.all,Bool.and_eq_true]at h
  simp only[Tr.find]
  split
  ·exact Tr.all_find h.2 t
  ·exact Tr.all_find h.1 t
def zeq:SV→PV→Bool
 | .v (.i k) n, .int k' n'=>keq k k'&&(n==n')
 | .v .b b, .bool b'=>b==b'
 | .v .s s, .str s'=>s.isEmpty&&Nat.beq s'.size 0
 | .nils, .nils=>true
 | .nilp, .nilp=>true
 | .nilf, .nilf=>true
 | .nili, .nili=>true
 |_,_=>false
def ZzG:List SV→List PV→Bool
 | [],[]=>true
 |a::l,b::r=>zeq a b&&ZzG l r
 |_,_=>false
theorem Zmo {φ:Ph} {V:SV} {q:PV} (h:zeq V q=true):RV φ V q:=by
 unfold zeq at h
 split at h<;>first
  |(simp only[Bool.and_eq_true,beq_iff_eq]at h;rw[ZfJ h.1,h.2];exact vi _ _)
  |(simp only[beq_iff_eq]at h;rw[h];exact vb _)
  |(simp only[RV];done)
  |(cases h;done)
  |skip
 rename_i s s'
 simp only[Bool.and_eq_true,List.isEmpty_iff]at h
 rw[h.1]
 have:s'=⟨([]:List UInt8).toArray⟩:=by
  have h2:=Nat.eq_of_beq_eq_true h.2
  apply ByteArray.ext
  exact Array.eq_empty_of_size_eq_zero h2
 rw[this]
 exact vs []
theorem Zsr {φ:Ph}: ∀ {l:List SV} {qs:List PV},ZzG l qs=true→RL φ l qs
 | [],[],_=>by simp only[RL]
 |a::l,b::r,h=>by
  simp only[ZzG,Bool.and_eq_true]at h
  simp only[RL]
  exact⟨_,_,rfl,Zmo h.1,Zsr h.2⟩
def zct:(c:CT)→List PV→Bool
 | .p a c,cs=>zct a (cs.take a.w)&&zct c (cs.drop a.w)
 | .i k,cs=>match cs with
  | [q]=>zeq (.v (.i k) (0:Int)) q
  |_=>false
 | .b,cs=>match cs with
  | [q]=>zeq (.v .b false) q
  |_=>false
 | .s,cs=>match cs with
  | [q]=>zeq (.v .s []) q
  |_=>false
 | .l _,cs=>match cs with
  | [q]=>zeq .nils q
  |_=>false
theorem ZqJ: ∀ {c:CT} {cs:List PV},zct c cs=true→RR c c.z cs
 | .p a c,cs,h=>by
  simp only[zct,Bool.and_eq_true]at h
  exact⟨_,_,(List.take_append_drop a.w cs).symm,ZqJ h.1,ZqJ h.2⟩
 | .i k,cs,h=>by
  simp only[zct]at h
  split at h
  ·have:=Zmo (φ:=[]) h
   simp only[RV]at this
   exact this
  ·cases h
 | .b,cs,h=>by
  simp only[zct]at h
  split at h
  ·have:=Zmo (φ:=[]) h
   simp only[RV]at this
   exact this
  ·cases h
 | .s,cs,h=>by
  simp only[zct]at h
  split at h
  ·have:=Zmo (φ:=[]) h
   simp only[RV]at this
   exact this
  ·cases h
 | .l e,cs,h=>by
  simp only[zct]at h
  split at h
  ·have:=Zmo (φ:=[]) h
   simp only[RV]at this
   subst this
   exact .inl ⟨rfl,rfl⟩
  ·cases h
noncomputable def ZuU (P:Program):List (Nat×TypeId×Nat)→List Field→Bool
 | [],[]=>true
 |(off,t,n)::r,f::fs=>Nat.beq off f.offset&&Nat.beq t f.type&&(match ZaR P t with|some m=>Nat.beq m n|none=>false)&&ZuU P r fs
 |_,_=>false
theorem Zpa {P:Program}: ∀ {l:List (Nat×TypeId×Nat)} {fs:List Field},ZuU P l fs=true→(l.map fun x=>(x.1,x.2.1))=fs.map (fun f=>(f.offset,f.type))∧ ∀x∈l,ZaR P x.2.1=some x.2.2
 | [],[],_=>⟨rfl,by simp⟩
 | [],_::_,h=>by cases h
 |_::_,[],h=>by cases h
 |(off,t,n)::r,f::fs,h=>by
  simp only[ZuU,Bool.and_eq_true]at h
  obtain⟨⟨⟨h1,h2⟩,h3⟩,h4⟩:=h
  have e1:=Nat.eq_of_beq_eq_true h1
  have e2:t=f.type:=Nat.eq_of_beq_eq_true h2
  obtain⟨g1,g2⟩:=Zpa h4
  refine⟨by simp only[List.map_cons,g1,e1,e2], ?_⟩
  intro x hx
  rcases List.mem_cons.1 hx with rfl|hx
  ·split at h3
   ·rename_i m hm
    rw[←Nat.eq_of_beq_eq_true h3]
    exact hm
   ·cases h3
  ·exact g2 x hx
noncomputable def ZzT (P:Program) (t:TypeId):TK→Bool
 | .int k=>match P.underlying t with|some (.int k')=>keq k k'|_=>false
 | .bool=>match P.underlying t with|some .bool=>true|_=>false
 | .str=>match P.underlying t with|some .string=>true|_=>false
 | .slice e=>match P.underlying t with|some (.slice e')=>Nat.beq e e'|_=>false
 | .arr n e=>match P.underlying t with|some (.array n' e')=>Nat.beq n n'&&Nat.beq e e'|_=>false
 | .struct fs=>match P.underlying t with|some (.struct a)=>ZuU P fs a.toList|_=>false
 | .ptr=>match P.underlying t with|some (.pointer _)=>true|_=>false
 | .func=>match P.underlying t with|some (.func _ _ _)=>true|_=>false
 | .other=>true
theorem Zwz {P:Program} {t:TypeId} {k:TK} (h:ZzT P t k=true):KM P t k:=by
 cases k<;>simp only[ZzT]at h<;>simp only[KM]<;>(try trivial)<;>(split at h<;>first|(cases h;done)|skip)
 ·rename_i hu;rw[ZfJ h];exact hu
 ·rename_i hu;exact hu
 ·rename_i hu;exact hu
 ·rename_i hu;rw[hu,show _=_ from Nat.eq_of_beq_eq_true h]
 ·rename_i hu
  simp only[Bool.and_eq_true]at h
  rw[hu,show _=_ from Nat.eq_of_beq_eq_true h.1,show _=_ from Nat.eq_of_beq_eq_true h.2]
 ·rename_i hu
  obtain⟨h1,h2⟩:=Zpa h
  exact⟨_,hu,h1,h2⟩
 ·rename_i hu;exact⟨_,hu⟩
 ·rename_i hu;exact⟨_,_,_,hu⟩
noncomputable def Zwx (P:Program) (t:TypeId) (i:TI):Bool:=
 ZzT P t i.k&&(match ZaR P t with|some n=>Nat.beq n i.sz|none=>false)&&(match Zie P t with|some n=>Nat.beq n i.by_|none=>false)&&
 (match ZcL P t with|some zs=>ZzG i.zero zs&&Nat.beq zs.length i.sz&&(match i.ct with|some c=>Nat.beq c.w i.sz&&zct c zs|none=>true)|none=>false)
theorem Zua {P:Program} {t:TypeId} {i:TI} (h:Zwx P t i=true):TIok P t i:=by
 simp only[Zwx,Bool.and_eq_true]at h
 obtain⟨⟨⟨h1,h2⟩,h3⟩,h4⟩:=h
 split at h2
 ·rename_i n hn
  split at h3
  ·rename_i m hm
   split at h4
   ·rename_i zs hz
    simp only[Bool.and_eq_true]at h4
    obtain⟨⟨h5,h6⟩,h7⟩:=h4
    refine⟨Zwz h1,by rw[hn,Nat.eq_of_beq_eq_true h2],by rw[hm,Nat.eq_of_beq_eq_true h3],⟨zs,hz,fun φ=>Zsr h5,Nat.eq_of_beq_eq_true h6⟩, ?_⟩
    intro c hc
    rw[hc]at h7
    simp only[Bool.and_eq_true]at h7
    refine⟨Nat.eq_of_beq_eq_true h7.1,fun zs' hz'=> ?_⟩
    rw[hz]at hz';cases hz'
    exact ZqJ h7.2
   ·cases h4
  ·cases h3
 ·cases h2
theorem Zyk {P:Program} {tr:Tr} (h:tr.all (Zwx P)=true):TysOK P tr.find:=by
 intro t
 rcases Tr.all_find h t with h|h
 ·left;rw[h];rfl
 ·exact .inr (Zua h)
def ZvL:SV→Bool
 | .v _ _| .nilp| .nils| .nilf| .ref _ _ _ _=>true
 |_=>false
def okV:SV→Bool
 | .agg cs=>cs.all ZvL
 |V=>ZvL V
def Zwb:SV→List Nat
 | .ref id _ _ _=> [id]
 | .agg cs=>cs.flatMap fun c=>match c with| .ref id _ _ _=> [id]|_=> []
 |_=> []
def ZcM:SV→List SV
 | .tup vs=>vs
 |V=> [V]
def ZjB:SV→Bool
 | .v (.l _) _=>false
 | .v _ _| .nilp| .nils| .nilf| .ref _ _ _ _=>true
 |_=>false
def Zq0:SV→Bool
 | .agg cs=>cs.all ZjB
 |V=>ZjB V
def ZpX:CT→Bool
 | .l _=>false
 | .p a c=>ZpX a&&ZpX c
 |_=>true
def Zhx:List SM→Bool
 | []=>true
 | .row _ _ _::r=>Zhx r
 | .dead::r=>Zhx r
 | .cell _ _::_=>false
 | .many _ _ _::_=>false
def ZpT:List SM→Bool
 | []=>true
 | .row t _ _::r=>ZpX t&&ZpT r
 | .dead::r=>ZpT r
 | .cell _ _::_=>false
 | .many _ _ _::_=>false
def ZzE (i:Nat):List Nat→Bool
 | []=>false
 |j::r=>match Nat.beq i j with
  |true=>true
  |false=>ZzE i r
def ZeR (ids:List Nat):Nat→List SM→Bool
 |_,[]=>true
 |j, .dead::r=>ZeR ids (j+1) r
 |j,_::r=>ZzE j ids&&ZeR ids (j+1) r
def Zou (hp:List SM):List Nat→Bool
 | []=>true
 |j::r=>match nth hp j with
  |some (.row _ _ _)=>Zou hp r
  |_=>false
def ZAn (Q:SV→List SM→Bool→Prop) (V:SV) (hp:List SM):Prop:=
 ∃V' hp',Ent 0 (Zch 0 (ZcM V)) hp (Zch 0 (ZcM V')) hp'∧(Nat.beq (ZcM V).length (ZcM V').length&&Bool.xor (Zbl V) (!Zbl V')&&(ZcM V').all okV&&Zhx hp'&&ZeR ((ZcM V').flatMap Zwb) 0 hp'&&Zou hp' ((ZcM V').flatMap Zwb))=true∧Q V' hp' ((ZcM V').all Zq0&&ZpT hp')
theorem Zsh {i:Nat}: ∀ {xs ids:List Nat},i∈xs.foldl ZbY ids→i∈ids∨i∈xs
 | [],ids,h=> .inl h
 |x::xs,ids,h=>by
  rcases Zsh (xs:=xs) h with h|h
  ·unfold ZbY at h
   split at h
   ·exact .inl h
   ·rcases List.mem_append.1 h with h|h
    ·exact .inl h
    ·exact .inr (by rw[List.mem_singleton.1 h];exact List.mem_cons_self)
  ·exact .inr (List.mem_cons_of_mem _ h)
theorem Zdh {H:List Mem} {ids:List Nat} (h: ∀i∈ids,ZmL H i=[]):Zet H ids=ids:=by
 unfold Zet
 rw[List.flatMap_eq_nil_iff.2 h];rfl
theorem Ze2 {q:PV} (h:Zcx q=true):Zgu q=true∧Zbp q=true∧(∀b,sh b q=q)∧Zci q=[]:=by
 cases q<;>simp only[Zcx]at h<;>first
  |exact⟨rfl,rfl,fun _=>rfl,rfl⟩
  |(cases h;done)
theorem ZeE {t:CT} {l:List t.D} {es:List (List PV)} (h:All2 (RR t) l es) (z:Nat) (m:Bool):Ze0 (.row es z m)=true∧Zxx (.row es z m)=true∧ ∀b,shM b (.row es z m)= .row es z m:=by
 have hp:=RRs.plain h
 refine⟨Zq6 (fun c hc v hv=>(Ze2 (hp c hc v hv)).1) z m, ?_,fun b=> ?_⟩
 ·simp only[Zxx,List.all_eq_true]
  exact fun c hc v hv=>(Ze2 (hp c hc v hv)).2.1
 ·simp only[shM,Mem.row.injEq,and_true]
  rw[List.map_congr_left (g:=id) (fun c hc=>by
   rw[List.map_congr_left (g:=id) (fun v hv=>(Ze2 (hp c hc v hv)).2.2.1 b)];simp)]
  simp
section
variable {φ : Ph}
theorem Zq5 {V:SV} {q:PV} (hv:ZvL V=true) (hr:RV φ V q):Zc4 q=true∧Zbp q=true∧Zci q=ZbW q∧(∀i,i∈ZbW q↔ ∃id j n m,V= .ref id j n m∧φ[id]? =some (some i)):=by
 cases V with
 |v t x=>
  have hp:Zcx q=true:=by simp only[RV]at hr;exact hr.plain q (by simp)
  cases q<;>simp only[Zcx]at hp<;>first
   |(cases hp;done)
   |exact⟨rfl,rfl,rfl,fun i=>by simp[ZbW]⟩
 |nilp=>simp only[RV]at hr;subst hr;exact⟨rfl,rfl,rfl,fun i=>by simp[ZbW]⟩
 |nils=>simp only[RV]at hr;subst hr;exact⟨rfl,rfl,rfl,fun i=>by simp[ZbW]⟩
 |nilf=>simp only[RV]at hr;subst hr;exact⟨rfl,rfl,rfl,fun i=>by simp[ZbW]⟩
 |ref id j n m=>
  simp only[RV]at hr
  rcases hr with⟨a,h1,rfl⟩|⟨h1,rfl,_⟩
  ·refine⟨rfl,rfl,rfl,fun i=> ?_⟩
   simp only[ZbW,List.mem_singleton]
   constructor
   ·rintro rfl;exact⟨id,j,n,m,rfl,h1⟩
   ·rintro⟨id',j',n',m',e,h2⟩
    cases e
    rw[h1]at h2
    exact(Option.some.inj (Option.some.inj h2)).symm
  ·refine⟨rfl,rfl,rfl,fun i=> ?_⟩
   simp only[ZbW,List.not_mem_nil,false_iff]
   rintro⟨id',j',n',m',e,h2⟩
   cases e
   rw[h1]at h2
   cases h2
 |_=>cases hv
theorem Zrc {V:SV} {q:PV} (hv:ZvL V=true) (hr:RV φ V q) (ids:List Nat) (base:Nat):RV (φ.map (Option.map fun a=>base+pos a ids)) V (sh1 base (ZjK ids q))∧sh base (ren ids q)=sh1 base (ZjK ids q)∧Zbp (ren ids q)=true∧Zc4 (ZjK ids q)=true∧(ZjB V=true→ZcQ (ren ids q)=true∧Zhi (ZjK ids q)=true):=by
 cases V with
 |v t x=>
  have hp:Zcx q=true:=by simp only[RV]at hr;exact hr.plain q (by simp)
  have hr':RV (φ.map (Option.map fun a=>base+pos a ids)) (.v t x) q:=by simpa only[RV]using hr
  cases q<;>simp only[Zcx]at hp<;>first
   |(cases hp;done)
   |skip
  ·exact⟨hr',rfl,rfl,rfl,fun _=>⟨rfl,rfl⟩⟩
  ·exact⟨hr',rfl,rfl,rfl,fun _=>⟨rfl,rfl⟩⟩
  ·exact⟨hr',rfl,rfl,rfl,fun _=>⟨rfl,rfl⟩⟩
  ·exact⟨hr',rfl,rfl,rfl,fun _=>⟨rfl,rfl⟩⟩
  ·refine⟨hr',rfl,rfl,rfl,fun hs=> ?_⟩
   cases t<;>simp only[ZjB]at hs<;>first
    |(cases hs;done)
    |(simp[RV,RR]at hr;done)
    |skip
   simp only[RV]at hr
   have:=hr.len
   obtain⟨u,v,e,h1,h2⟩:=hr
   have l1:=h1.len
   have l2:=h2.len
   have:=congrArg List.length e
   simp only[List.length_cons,List.length_nil,List.length_append]at this
   have w: ∀t:CT,1≤t.w:=by
    intro t
    induction t with
    |p a c iha ihc=>simp only[CT.w];omega
    |_=>simp[CT.w]
   rename_i a c _
   have:=w a
   have:=w c
   omega
 |nilp=>simp only[RV]at hr;subst hr;exact⟨by simp only[RV];rfl,rfl,rfl,rfl,fun _=>⟨rfl,rfl⟩⟩
 |nils=>simp only[RV]at hr;subst hr;exact⟨by simp only[RV];rfl,rfl,rfl,rfl,fun _=>⟨rfl,rfl⟩⟩
 |nilf=>simp only[RV]at hr;subst hr;exact⟨by simp only[RV];rfl,rfl,rfl,rfl,fun _=>⟨rfl,rfl⟩⟩
 |ref id j n m=>
  simp only[RV]at hr
  rcases hr with⟨a,h1,rfl⟩|⟨h1,rfl,h2⟩
  ·refine⟨?_,rfl,rfl,rfl,fun _=>⟨rfl,rfl⟩⟩
   simp only[RV]
   exact .inl ⟨base+pos a ids,by rw[List.getElem?_map,h1];rfl,rfl⟩
  ·refine⟨?_,rfl,rfl,rfl,fun _=>⟨rfl,rfl⟩⟩
   simp only[RV]
   exact .inr ⟨by rw[List.getElem?_map,h1];rfl,rfl,h2⟩
 |_=>cases hv
theorem ZwG {V:SV} {q:PV} (hv:okV V=true) (hr:RV φ V q):Zbp q=true∧ ∀i,i∈Zci q↔ ∃id,id∈Zwb V∧φ[id]? =some (some i):=by
 have one:okV V=ZvL V→(∀i,(∃id j n m,V= .ref id j n m∧φ[id]? =some (some i))↔ ∃id,id∈Zwb V∧φ[id]? =some (some i))→Zbp q=true∧ ∀i,i∈Zci q↔ ∃id,id∈Zwb V∧φ[id]? =some (some i):=by
  intro h1 h2
  rw[h1]at hv
  obtain⟨_,g2,g3,g4⟩:=Zq5 hv hr
  exact⟨g2,fun i=>by rw[g3,g4 i,h2 i]⟩
 cases V with
 |ref id j n m=>
  refine one rfl fun i=>⟨?_, ?_⟩
  ·rintro⟨id',j',n',m',e,h⟩;cases e;exact⟨_,List.mem_singleton.2 rfl,h⟩
  ·rintro⟨id',h1,h⟩;rw[List.mem_singleton.1 h1]at h;exact⟨_,_,_,_,rfl,h⟩
 |agg cs=>
  simp only[okV,List.all_eq_true]at hv
  simp only[RV]at hr
  obtain⟨cs',rfl,hr⟩:=hr
  have: ∀ (l:List SV) (qs:List PV),(∀c∈l,ZvL c=true)→RL φ l qs→qs.all Zc4=true∧ ∀i,i∈qs.flatMap ZbW↔ ∃id,id∈(l.flatMap fun c=>match c with| .ref id _ _ _=> [id]|_=> [])∧φ[id]? =some (some i):=by
   intro l
   induction l with
   |nil=>intro qs _ h;simp only[RL]at h;subst h;simp
   |cons c r ih=>
    intro qs h1 h2
    simp only[RL]at h2
    obtain⟨q,r',rfl,h3,h4⟩:=h2
    obtain⟨g1,_,_,g4⟩:=Zq5 (h1 c List.mem_cons_self) h3
    obtain⟨f1,f2⟩:=ih r' (fun c hc=>h1 c (List.mem_cons_of_mem _ hc)) h4
    refine⟨by simp only[List.all_cons,g1,f1,Bool.and_self],fun i=> ?_⟩
    simp only[List.flatMap_cons,List.mem_append,g4 i,f2 i]
    constructor
    ·rintro(⟨id,j,n,m,rfl,h⟩|⟨id,h,h'⟩)
     ·exact⟨id, .inl (List.mem_singleton.2 rfl),h⟩
     ·exact⟨id, .inr h,h'⟩
    ·rintro⟨id,h|h,h'⟩
     ·left
      cases c<;>simp at h
      subst h
      exact⟨_,_,_,_,rfl,h'⟩
     ·exact .inr ⟨id,h,h'⟩
  exact this cs cs' hv hr
 |_=>
  refine one rfl fun i=>⟨?_, ?_⟩
  ·rintro⟨id',j',n',m',e,h⟩;cases e
  ·rintro⟨id',h1,h⟩;simp[Zwb]at h1
theorem Zxh {V:SV} {q:PV} (hv:okV V=true) (hr:RV φ V q) (ids:List Nat) (base:Nat):RV (φ.map (Option.map fun a=>base+pos a ids)) V (sh base (ren ids q))∧Zbp (ren ids q)=true∧(Zq0 V=true→ZcQ (ren ids q)=true):=by
 have one:okV V=ZvL V→Zq0 V=ZjB V→RV (φ.map (Option.map fun a=>base+pos a ids)) V (sh base (ren ids q))∧Zbp (ren ids q)=true∧(Zq0 V=true→ZcQ (ren ids q)=true):=by
  intro h1 h2
  rw[h1]at hv
  obtain⟨g1,g2,g3,_,g4⟩:=Zrc hv hr ids base
  exact⟨by rw[g2];exact g1,g3,fun h=>(g4 (h2▸h)).1⟩
 cases V with
 |agg cs=>
  simp only[okV,List.all_eq_true]at hv
  simp only[RV]at hr⊢
  obtain⟨cs',rfl,hr⟩:=hr
  have: ∀ (l:List SV) (qs:List PV),(∀c∈l,ZvL c=true)→RL φ l qs→RL (φ.map (Option.map fun a=>base+pos a ids)) l ((qs.map (ZjK ids)).map (sh1 base))∧(qs.map (ZjK ids)).all Zc4=true∧(l.all ZjB=true→(qs.map (ZjK ids)).all Zhi=true):=by
   intro l
   induction l with
   |nil=>intro qs _ h;simp only[RL]at h;subst h;simp[RL]
   |cons c r ih=>
    intro qs h1 h2
    simp only[RL]at h2
    obtain⟨q,r',rfl,h3,h4⟩:=h2
    obtain⟨g1,_,_,g3,g4⟩:=Zrc (h1 c List.mem_cons_self) h3 ids base
    obtain⟨f1,f2,f3⟩:=ih r' (fun c hc=>h1 c (List.mem_cons_of_mem _ hc)) h4
    refine⟨?_,by simp only[List.map_cons,List.all_cons,g3,f2,Bool.and_self],fun hs=> ?_⟩
    ·simp only[List.map_cons,RL]
     exact⟨_,_,rfl,g1,f1⟩
    ·simp only[List.all_cons,Bool.and_eq_true]at hs
     simp only[List.map_cons,List.all_cons,(g4 hs.1).2,f3 hs.2,Bool.and_self]
  obtain⟨f1,f2,f3⟩:=this cs cs' hv hr
  exact⟨⟨_,rfl,f1⟩,f2,f3⟩
 |_=>exact one rfl rfl
theorem Zpv (ids:List Nat) (base:Nat): ∀ {l:List SV} {qs:List PV},l.all okV=true→RL φ l qs→RL (φ.map (Option.map fun a=>base+pos a ids)) l (qs.map fun q=>sh base (ren ids q))∧(∀q∈qs,Zbp (ren ids q)=true)∧(l.all Zq0=true→ ∀q∈qs,ZcQ (ren ids q)=true)
 | [],qs,_,h=>by simp only[RL]at h;subst h;simp[RL]
 |V::l,qs,h1,h2=>by
  simp only[List.all_cons,Bool.and_eq_true]at h1
  simp only[RL]at h2
  obtain⟨q,r',rfl,h3,h4⟩:=h2
  obtain⟨g1,g2,g3⟩:=Zxh h1.1 h3 ids base
  obtain⟨f1,f2,f3⟩:=Zpv ids base h1.2 h4
  refine⟨?_, ?_, ?_⟩
  ·simp only[List.map_cons,RL]
   exact⟨_,_,rfl,g1,f1⟩
  ·intro x hx
   rcases List.mem_cons.1 hx with rfl|hx
   ·exact g2
   ·exact f2 x hx
  ·intro hs x hx
   simp only[List.all_cons,Bool.and_eq_true]at hs
   rcases List.mem_cons.1 hx with rfl|hx
   ·exact g3 hs.1
   ·exact f3 hs.2 x hx
theorem Zo7: ∀ {l:List SV} {qs:List PV},l.all okV=true→RL φ l qs→(∀q∈qs,Zbp q=true)∧ ∀i,i∈qs.flatMap Zci↔ ∃id,id∈l.flatMap Zwb∧φ[id]? =some (some i)
 | [],qs,_,h=>by simp only[RL]at h;subst h;simp
 |V::l,qs,h1,h2=>by
  simp only[List.all_cons,Bool.and_eq_true]at h1
  simp only[RL]at h2
  obtain⟨q,r',rfl,h3,h4⟩:=h2
  obtain⟨g1,g2⟩:=ZwG h1.1 h3
  obtain⟨f1,f2⟩:=Zo7 h1.2 h4
  refine⟨?_,fun i=> ?_⟩
  ·intro x hx
   rcases List.mem_cons.1 hx with rfl|hx
   ·exact g1
   ·exact f1 x hx
  ·simp only[List.flatMap_cons,List.mem_append,g2 i,f2 i]
   constructor
   ·rintro(⟨id,h,h'⟩|⟨id,h,h'⟩)
    ·exact⟨id, .inl h,h'⟩
    ·exact⟨id, .inr h,h'⟩
   ·rintro⟨id,h|h,h'⟩
    ·exact .inl ⟨id,h,h'⟩
    ·exact .inr ⟨id,h,h'⟩
end
end Go.Tx
