/-
 The program logic: tables of types; results that are own memory.
-/
import Derived.Test.YtkhpbclcfldhmaaGreatDoorTx7
set_option linter.constructorNameAsVariable false
set_option linter.unusedSimpArgs false
set_option linter.unusedVariables false
namespace Go.Tx
open Go.Am
def ZzB:TI:=⟨.other,0,0,[],none⟩
inductive Tr where
 |lf (k:Nat) (v:TI)
 |nd (k:Nat) (a b:Tr)
def Tr.find:Tr→Nat→TI
 | .lf k v,t=>match Nat.beq t k with
  |true=>v
  |false=>ZzB
 | .nd k a b,t=>match Nat.ble k t with
  |true=>b.find t
  |false=>a.find t
def Tr.all (p:Nat→TI→Bool):Tr→Bool
 | .lf k v=>p k v
 | .nd _ a b=>a.all p&&b.all p
theorem Tr.all_find {p:Nat→TI→Bool}: ∀ {tr:Tr},tr.all p=true→ ∀t,tr.find t=ZzB∨p t (tr.find t)=true
 | .lf k v,h,t=>by
  simp only[Tr.find]
  split
  ·rename_i hb
   rw[Nat.eq_of_beq_eq_true hb]
   exact .inr h
  ·exact .inl rfl
 | .nd k a b,h,t=>by
  simp only[Tr.all,Bool.and_eq_true]at h
  simp only[Tr.find]
  split
  ·exact Tr.all_find h.2 t
  ·exact Tr.all_find h.1 t
def zeq:SV→PV→Bool
 | .v (.i k) n, .int k' n'=>keq k k'&&(n==n')
 | .v .b b, .bool b'=>b==b'
 | .v .s s, .str s'=>s.isEmpty&&Nat.beq s'.size 0
 | .nils, .nils=>true
 | .nilp, .nilp=>true
 | .nilf, .nilf=>true
 | .nili, .nili=>true
 | .nilmp, .nilm=>true
 |_,_=>false
def ZyO:List SV→List PV→Bool
 | [],[]=>true
 |a::l,b::r=>zeq a b&&ZyO l r
 |_,_=>false
theorem Zjz {φ:Ph} {V:SV} {q:PV} (h:zeq V q=true):RV φ V q:=by
 unfold zeq at h
 split at h<;>first
  |(simp only[Bool.and_eq_true,beq_iff_eq]at h;rw[Zfa h.1,h.2];exact vi _ _)
  |(simp only[beq_iff_eq]at h;rw[h];exact vb _)
  |(simp only[RV];done)
  |(cases h;done)
  |skip
 rename_i s s'
 simp only[Bool.and_eq_true,List.isEmpty_iff]at h
 rw[h.1]
 have:s'=⟨([]:List UInt8).toArray⟩:=by
  have h2:=Nat.eq_of_beq_eq_true h.2
  apply ByteArray.ext
  exact Array.eq_empty_of_size_eq_zero h2
 rw[this]
 exact vs []
theorem ZqP {φ:Ph}: ∀ {l:List SV} {qs:List PV},ZyO l qs=true→RL φ l qs
 | [],[],_=>by simp only[RL]
 |a::l,b::r,h=>by
  simp only[ZyO,Bool.and_eq_true]at h
  simp only[RL]
  exact⟨_,_,rfl,Zjz h.1,ZqP h.2⟩
def zct:(c:CT)→List PV→Bool
 | .p a c,cs=>zct a (cs.take a.w)&&zct c (cs.drop a.w)
 | .i k,cs=>match cs with
  | [q]=>zeq (.v (.i k) (0:Int)) q
  |_=>false
 | .b,cs=>match cs with
  | [q]=>zeq (.v .b false) q
  |_=>false
 | .s,cs=>match cs with
  | [q]=>zeq (.v .s []) q
  |_=>false
 | .l _,cs=>match cs with
  | [q]=>zeq .nils q
  |_=>false
 | .any,cs=>match cs with
  | [q]=>zeq .nili q
  |_=>false
theorem ZqT: ∀ {c:CT} {cs:List PV},zct c cs=true→RR c c.z cs
 | .p a c,cs,h=>by
  simp only[zct,Bool.and_eq_true]at h
  exact⟨_,_,(List.take_append_drop a.w cs).symm,ZqT h.1,ZqT h.2⟩
 | .i k,cs,h=>by
  simp only[zct]at h
  split at h
  ·have:=Zjz (φ:=[]) h
   simp only[RV]at this
   exact this
  ·cases h
 | .b,cs,h=>by
  simp only[zct]at h
  split at h
  ·have:=Zjz (φ:=[]) h
   simp only[RV]at this
   exact this
  ·cases h
 | .s,cs,h=>by
  simp only[zct]at h
  split at h
  ·have:=Zjz (φ:=[]) h
   simp only[RV]at this
   exact this
  ·cases h
 | .any,cs,h=>by
  simp only[zct]at h
  split at h
  ·have:=Zjz (φ:=[]) h
   simp only[RV]at this
   subst this
   rfl
  ·cases h
 | .l e,cs,h=>by
  simp only[zct]at h
  split at h
  ·have:=Zjz (φ:=[]) h
   simp only[RV]at this
   subst this
   exact .inl ⟨rfl,rfl⟩
  ·cases h
noncomputable def ZuK (P:Program):List (Nat×TypeId×Nat)→List Field→Bool
 | [],[]=>true
 |(off,t,n)::r,f::fs=>Nat.beq off f.offset&&Nat.beq t f.type&&(match ZaV P t with|some m=>Nat.beq m n|none=>false)&&ZuK P r fs
 |_,_=>false
theorem Zoo {P:Program}: ∀ {l:List (Nat×TypeId×Nat)} {fs:List Field},ZuK P l fs=true→(l.map fun x=>(x.1,x.2.1))=fs.map (fun f=>(f.offset,f.type))∧ ∀x∈l,ZaV P x.2.1=some x.2.2
 | [],[],_=>⟨rfl,by simp⟩
 | [],_::_,h=>by cases h
 |_::_,[],h=>by cases h
 |(off,t,n)::r,f::fs,h=>by
  simp only[ZuK,Bool.and_eq_true]at h
  obtain⟨⟨⟨h1,h2⟩,h3⟩,h4⟩:=h
  have e1:=Nat.eq_of_beq_eq_true h1
  have e2:t=f.type:=Nat.eq_of_beq_eq_true h2
  obtain⟨g1,g2⟩:=Zoo h4
  refine⟨by simp only[List.map_cons,g1,e1,e2], ?_⟩
  intro x hx
  rcases List.mem_cons.1 hx with rfl|hx
  ·split at h3
   ·rename_i m hm
    rw[←Nat.eq_of_beq_eq_true h3]
    exact hm
   ·cases h3
  ·exact g2 x hx
noncomputable def Zzd (P:Program) (t:TypeId):TK→Bool
 | .int k=>match P.underlying t with|some (.int k')=>keq k k'|_=>false
 | .bool=>match P.underlying t with|some .bool=>true|_=>false
 | .str=>match P.underlying t with|some .string=>true|_=>false
 | .slice e=>match P.underlying t with|some (.slice e')=>Nat.beq e e'|_=>false
 | .arr n e=>match P.underlying t with|some (.array n' e')=>Nat.beq n n'&&Nat.beq e e'|_=>false
 | .struct fs=>match P.underlying t with|some (.struct a)=>ZuK P fs a.toList|_=>false
 | .ptr=>match P.underlying t with|some (.pointer _)=>true|_=>false
 | .func=>match P.underlying t with|some (.func _ _ _)=>true|_=>false
 | .smap=>match P.underlying t,Zji P t with|some (.map _ e),some (.string,e')=>Nat.beq e e'&&(match ZcG P e with|some (.bool false)=>true|_=>false)|_,_=>false
 | .any=>match P.underlying t with|some (.interface _)=>true|_=>false
 | .other=>true
theorem ZwH {P:Program} {t:TypeId} {k:TK} (h:Zzd P t k=true):KM P t k:=by
 cases k<;>simp only[Zzd]at h<;>simp only[KM]<;>(try trivial)<;>(split at h<;>first|(cases h;done)|skip)
 ·rename_i hu;rw[Zfa h];exact hu
 ·rename_i hu;exact hu
 ·rename_i hu;exact hu
 ·rename_i hu;rw[hu,show _=_ from Nat.eq_of_beq_eq_true h]
 ·rename_i hu
  simp only[Bool.and_eq_true]at h
  rw[hu,show _=_ from Nat.eq_of_beq_eq_true h.1,show _=_ from Nat.eq_of_beq_eq_true h.2]
 ·rename_i hu
  obtain⟨h1,h2⟩:=Zoo h
  exact⟨_,hu,h1,h2⟩
 ·rename_i hu;exact⟨_,hu⟩
 ·rename_i hu;exact⟨_,_,_,hu⟩
 ·rename_i hu hs
  simp only[Bool.and_eq_true]at h
  obtain⟨h1,h2⟩:=h
  have e1:=Nat.eq_of_beq_eq_true h1
  split at h2
  ·rename_i hz
   exact⟨_,_,hu,by rw[hs,e1],hz⟩
  ·cases h2
 ·rename_i hu;exact⟨_,hu⟩
noncomputable def Zzu (P:Program) (t:TypeId):TK→Bool
 | .int k=>match ZcG P t with|some (.int k' n)=>keq k k'&&(n==0)|_=>false
 | .str=>match ZcG P t with|some (.str s)=>Nat.beq s.size 0|_=>false
 |_=>true
noncomputable def Zv7 (P:Program) (t:TypeId) (i:TI):Bool:=
 (Zzd P t i.k&&Zzu P t i.k)&&(match ZaV P t with|some n=>Nat.beq n i.sz|none=>false)&&(match Zi4 P t with|some n=>Nat.beq n i.by_|none=>false)&&
 (match Zc0 P t with|some zs=>ZyO i.zero zs&&Nat.beq zs.length i.sz&&(match i.ct with|some c=>Nat.beq c.w i.sz&&zct c zs|none=>true)|none=>false)
theorem Zud {P:Program} {t:TypeId} {i:TI} (h:Zv7 P t i=true):TIok P t i:=by
 simp only[Zv7,Bool.and_eq_true]at h
 obtain⟨⟨⟨⟨h1,h0⟩,h2⟩,h3⟩,h4⟩:=h
 split at h2
 ·rename_i n hn
  split at h3
  ·rename_i m hm
   split at h4
   ·rename_i zs hz
    simp only[Bool.and_eq_true]at h4
    obtain⟨⟨h5,h6⟩,h7⟩:=h4
    refine⟨ZwH h1,by rw[hn,Nat.eq_of_beq_eq_true h2],by rw[hm,Nat.eq_of_beq_eq_true h3],⟨zs,hz,fun φ=>ZqP h5,Nat.eq_of_beq_eq_true h6⟩, ?_, ?_, ?_⟩
    rotate_left 1
    ·intro k hk
     rw[hk]at h0
     simp only[Zzu]at h0
     split at h0
     ·rename_i k' n hz0
      simp only[Bool.and_eq_true,beq_iff_eq]at h0
      rw[hz0,Zfa h0.1,h0.2]
     ·cases h0
    ·intro hk
     rw[hk]at h0
     simp only[Zzu]at h0
     split at h0
     ·rename_i s hz0
      have e:s=⟨#[]⟩:=by
       apply ByteArray.ext
       exact Array.eq_empty_of_size_eq_zero (Nat.eq_of_beq_eq_true h0)
      rw[hz0,e]
     ·cases h0
    intro c hc
    rw[hc]at h7
    simp only[Bool.and_eq_true]at h7
    refine⟨Nat.eq_of_beq_eq_true h7.1,fun zs' hz'=> ?_⟩
    rw[hz]at hz';cases hz'
    exact ZqT h7.2
   ·cases h4
  ·cases h3
 ·cases h2
theorem Zyq {P:Program} {tr:Tr} (h:tr.all (Zv7 P)=true):TysOK P tr.find:=by
 intro t
 rcases Tr.all_find h t with h|h
 ·left;rw[h];rfl
 ·exact .inr (Zud h)
def Zvm:SV→Bool
 | .v _ _| .nilp| .nils| .nilf| .ref _ _ _ _=>true
 |_=>false
def okV:SV→Bool
 | .agg cs=>cs.all Zvm
 |V=>Zvm V
def ZuS:SV→List Nat
 | .ref id _ _ _=> [id]
 | .agg cs=>cs.flatMap fun c=>match c with| .ref id _ _ _=> [id]|_=> []
 |_=> []
def ZcZ:SV→List SV
 | .tup vs=>vs
 |V=> [V]
def Zjt:SV→Bool
 | .v (.l _) _=>false
 | .v _ _| .nilp| .nils| .nilf| .ref _ _ _ _=>true
 |_=>false
def Zr3:SV→Bool
 | .agg cs=>cs.all Zjt
 |V=>Zjt V
def ZpG:CT→Bool
 | .l _=>false
 | .p a c=>ZpG a&&ZpG c
 |_=>true
def ZhS:List SM→Bool
 | []=>true
 | .row _ _ _::r=>ZhS r
 | .dead::r=>ZhS r
 | .cell _ _::_=>false
 | .many _ _ _::_=>false
 | .set _::_=>false
def Zqm:List SM→Bool
 | []=>true
 | .row t _ _::r=>ZpG t&&Zqm r
 | .dead::r=>Zqm r
 | .cell _ _::_=>false
 | .many _ _ _::_=>false
 | .set _::_=>false
def ZyQ (i:Nat):List Nat→Bool
 | []=>false
 |j::r=>match Nat.beq i j with
  |true=>true
  |false=>ZyQ i r
def Zee (ids:List Nat):Nat→List SM→Bool
 |_,[]=>true
 |j, .dead::r=>Zee ids (j+1) r
 |j,_::r=>ZyQ j ids&&Zee ids (j+1) r
def Zpn (hp:List SM):List Nat→Bool
 | []=>true
 |j::r=>match nth hp j with
  |some (.row _ _ _)=>Zpn hp r
  |_=>false
def ZzC (Q:SV→List SM→Bool→Prop) (V:SV) (hp:List SM):Prop:=
 ∃V' hp',Ent 0 (ZcB 0 (ZcZ V)) hp (ZcB 0 (ZcZ V')) hp'∧(Nat.beq (ZcZ V).length (ZcZ V').length&&Bool.xor (Zbr V) (!Zbr V')&&(ZcZ V').all okV&&ZhS hp'&&Zee ((ZcZ V').flatMap ZuS) 0 hp'&&Zpn hp' ((ZcZ V').flatMap ZuS))=true∧Q V' hp' ((ZcZ V').all Zr3&&Zqm hp')
theorem Zrh {i:Nat}: ∀ {xs ids:List Nat},i∈xs.foldl Zb6 ids→i∈ids∨i∈xs
 | [],ids,h=> .inl h
 |x::xs,ids,h=>by
  rcases Zrh (xs:=xs) h with h|h
  ·unfold Zb6 at h
   split at h
   ·exact .inl h
   ·rcases List.mem_append.1 h with h|h
    ·exact .inl h
    ·exact .inr (by rw[List.mem_singleton.1 h];exact List.mem_cons_self)
  ·exact .inr (List.mem_cons_of_mem _ h)
theorem Zdx {H:List Mem} {ids:List Nat} (h: ∀i∈ids,Zm9 H i=[]):ZeD H ids=ids:=by
 unfold ZeD
 rw[List.flatMap_eq_nil_iff.2 h];rfl
theorem Zfl {q:PV} (h:ZcE q=true):Zgr q=true∧Zbp q=true∧(∀b,sh b q=q)∧Zcr q=[]:=by
 cases q<;>simp only[ZcE]at h<;>first
  |exact⟨rfl,rfl,fun _=>rfl,rfl⟩
  |(cases h;done)
theorem ZeI {t:CT} {l:List t.D} {es:List (List PV)} (h:All2 (RR t) l es) (z:Nat) (m:Bool):Zfu (.row es z m)=true∧ZwN (.row es z m)=true∧ ∀b,shM b (.row es z m)= .row es z m:=by
 have hp:=RRs.plain h
 refine⟨Zr9 (fun c hc v hv=>(Zfl (hp c hc v hv)).1) z m, ?_,fun b=> ?_⟩
 ·simp only[ZwN,List.all_eq_true]
  exact fun c hc v hv=>(Zfl (hp c hc v hv)).2.1
 ·simp only[shM,Mem.row.injEq,and_true]
  rw[List.map_congr_left (g:=id) (fun c hc=>by
   rw[List.map_congr_left (g:=id) (fun v hv=>(Zfl (hp c hc v hv)).2.2.1 b)];simp)]
  simp
section
variable {φ : Ph}
theorem Zs6 {V:SV} {q:PV} (hv:Zvm V=true) (hr:RV φ V q):Zda q=true∧Zbp q=true∧Zcr q=Zb9 q∧(∀i,i∈Zb9 q↔ ∃id j n m,V= .ref id j n m∧φ[id]? =some (some i)):=by
 cases V with
 |v t x=>
  have hp:ZcE q=true:=by simp only[RV]at hr;exact hr.plain q (by simp)
  cases q<;>simp only[ZcE]at hp<;>first
   |(cases hp;done)
   |exact⟨rfl,rfl,rfl,fun i=>by simp[Zb9]⟩
 |nilp=>simp only[RV]at hr;subst hr;exact⟨rfl,rfl,rfl,fun i=>by simp[Zb9]⟩
 |nils=>simp only[RV]at hr;subst hr;exact⟨rfl,rfl,rfl,fun i=>by simp[Zb9]⟩
 |nilf=>simp only[RV]at hr;subst hr;exact⟨rfl,rfl,rfl,fun i=>by simp[Zb9]⟩
 |ref id j n m=>
  simp only[RV]at hr
  rcases hr with⟨a,h1,rfl⟩|⟨h1,rfl,_⟩
  ·refine⟨rfl,rfl,rfl,fun i=> ?_⟩
   simp only[Zb9,List.mem_singleton]
   constructor
   ·rintro rfl;exact⟨id,j,n,m,rfl,h1⟩
   ·rintro⟨id',j',n',m',e,h2⟩
    cases e
    rw[h1]at h2
    exact(Option.some.inj (Option.some.inj h2)).symm
  ·refine⟨rfl,rfl,rfl,fun i=> ?_⟩
   simp only[Zb9,List.not_mem_nil,false_iff]
   rintro⟨id',j',n',m',e,h2⟩
   cases e
   rw[h1]at h2
   cases h2
 |_=>cases hv
theorem Zs5 {V:SV} {q:PV} (hv:Zvm V=true) (hr:RV φ V q) (ids:List Nat) (base:Nat):RV (φ.map (Option.map fun a=>base+pos a ids)) V (sh1 base (Zjx ids q))∧sh base (ren ids q)=sh1 base (Zjx ids q)∧Zbp (ren ids q)=true∧Zda (Zjx ids q)=true∧(Zjt V=true→ZcY (ren ids q)=true∧ZhF (Zjx ids q)=true):=by
 cases V with
 |v t x=>
  have hp:ZcE q=true:=by simp only[RV]at hr;exact hr.plain q (by simp)
  have hr':RV (φ.map (Option.map fun a=>base+pos a ids)) (.v t x) q:=by simpa only[RV]using hr
  cases q<;>simp only[ZcE]at hp<;>first
   |(cases hp;done)
   |skip
  ·exact⟨hr',rfl,rfl,rfl,fun _=>⟨rfl,rfl⟩⟩
  ·exact⟨hr',rfl,rfl,rfl,fun _=>⟨rfl,rfl⟩⟩
  ·exact⟨hr',rfl,rfl,rfl,fun _=>⟨rfl,rfl⟩⟩
  ·exact⟨hr',rfl,rfl,rfl,fun _=>⟨rfl,rfl⟩⟩
  ·exact⟨hr',rfl,rfl,rfl,fun _=>⟨rfl,rfl⟩⟩
  ·exact⟨hr',rfl,rfl,rfl,fun _=>⟨rfl,rfl⟩⟩
  ·refine⟨hr',rfl,rfl,rfl,fun hs=> ?_⟩
   cases t<;>simp only[Zjt]at hs<;>first
    |(cases hs;done)
    |(simp[RV,RR]at hr;done)
    |(simp only[RV,RR,List.cons.injEq,and_true]at hr;cases x<;>(cases hr;done))
    |skip
   simp only[RV]at hr
   have:=hr.len
   obtain⟨u,v,e,h1,h2⟩:=hr
   have l1:=h1.len
   have l2:=h2.len
   have:=congrArg List.length e
   simp only[List.length_cons,List.length_nil,List.length_append]at this
   have w: ∀t:CT,1≤t.w:=by
    intro t
    induction t with
    |p a c iha ihc=>simp only[CT.w];omega
    |_=>simp[CT.w]
   rename_i a c _
   have:=w a
   have:=w c
   omega
 |nilp=>simp only[RV]at hr;subst hr;exact⟨by simp only[RV];rfl,rfl,rfl,rfl,fun _=>⟨rfl,rfl⟩⟩
 |nils=>simp only[RV]at hr;subst hr;exact⟨by simp only[RV];rfl,rfl,rfl,rfl,fun _=>⟨rfl,rfl⟩⟩
 |nilf=>simp only[RV]at hr;subst hr;exact⟨by simp only[RV];rfl,rfl,rfl,rfl,fun _=>⟨rfl,rfl⟩⟩
 |ref id j n m=>
  simp only[RV]at hr
  rcases hr with⟨a,h1,rfl⟩|⟨h1,rfl,h2⟩
  ·refine⟨?_,rfl,rfl,rfl,fun _=>⟨rfl,rfl⟩⟩
   simp only[RV]
   exact .inl ⟨base+pos a ids,by rw[List.getElem?_map,h1];rfl,rfl⟩
  ·refine⟨?_,rfl,rfl,rfl,fun _=>⟨rfl,rfl⟩⟩
   simp only[RV]
   exact .inr ⟨by rw[List.getElem?_map,h1];rfl,rfl,h2⟩
 |_=>cases hv
theorem ZwB {V:SV} {q:PV} (hv:okV V=true) (hr:RV φ V q):Zbp q=true∧ ∀i,i∈Zcr q↔ ∃id,id∈ZuS V∧φ[id]? =some (some i):=by
 have one:okV V=Zvm V→(∀i,(∃id j n m,V= .ref id j n m∧φ[id]? =some (some i))↔ ∃id,id∈ZuS V∧φ[id]? =some (some i))→Zbp q=true∧ ∀i,i∈Zcr q↔ ∃id,id∈ZuS V∧φ[id]? =some (some i):=by
  intro h1 h2
  rw[h1]at hv
  obtain⟨_,g2,g3,g4⟩:=Zs6 hv hr
  exact⟨g2,fun i=>by rw[g3,g4 i,h2 i]⟩
 cases V with
 |ref id j n m=>
  refine one rfl fun i=>⟨?_, ?_⟩
  ·rintro⟨id',j',n',m',e,h⟩;cases e;exact⟨_,List.mem_singleton.2 rfl,h⟩
  ·rintro⟨id',h1,h⟩;rw[List.mem_singleton.1 h1]at h;exact⟨_,_,_,_,rfl,h⟩
 |agg cs=>
  simp only[okV,List.all_eq_true]at hv
  simp only[RV]at hr
  obtain⟨cs',rfl,hr⟩:=hr
  have: ∀ (l:List SV) (qs:List PV),(∀c∈l,Zvm c=true)→RL φ l qs→qs.all Zda=true∧ ∀i,i∈qs.flatMap Zb9↔ ∃id,id∈(l.flatMap fun c=>match c with| .ref id _ _ _=> [id]|_=> [])∧φ[id]? =some (some i):=by
   intro l
   induction l with
   |nil=>intro qs _ h;simp only[RL]at h;subst h;simp
   |cons c r ih=>
    intro qs h1 h2
    simp only[RL]at h2
    obtain⟨q,r',rfl,h3,h4⟩:=h2
    obtain⟨g1,_,_,g4⟩:=Zs6 (h1 c List.mem_cons_self) h3
    obtain⟨f1,f2⟩:=ih r' (fun c hc=>h1 c (List.mem_cons_of_mem _ hc)) h4
    refine⟨by simp only[List.all_cons,g1,f1,Bool.and_self],fun i=> ?_⟩
    simp only[List.flatMap_cons,List.mem_append,g4 i,f2 i]
    constructor
    ·rintro(⟨id,j,n,m,rfl,h⟩|⟨id,h,h'⟩)
     ·exact⟨id, .inl (List.mem_singleton.2 rfl),h⟩
     ·exact⟨id, .inr h,h'⟩
    ·rintro⟨id,h|h,h'⟩
     ·left
      cases c<;>simp at h
      subst h
      exact⟨_,_,_,_,rfl,h'⟩
     ·exact .inr ⟨id,h,h'⟩
  exact this cs cs' hv hr
 |_=>
  refine one rfl fun i=>⟨?_, ?_⟩
  ·rintro⟨id',j',n',m',e,h⟩;cases e
  ·rintro⟨id',h1,h⟩;simp[ZuS]at h1
theorem Zwq {V:SV} {q:PV} (hv:okV V=true) (hr:RV φ V q) (ids:List Nat) (base:Nat):RV (φ.map (Option.map fun a=>base+pos a ids)) V (sh base (ren ids q))∧Zbp (ren ids q)=true∧(Zr3 V=true→ZcY (ren ids q)=true):=by
 have one:okV V=Zvm V→Zr3 V=Zjt V→RV (φ.map (Option.map fun a=>base+pos a ids)) V (sh base (ren ids q))∧Zbp (ren ids q)=true∧(Zr3 V=true→ZcY (ren ids q)=true):=by
  intro h1 h2
  rw[h1]at hv
  obtain⟨g1,g2,g3,_,g4⟩:=Zs5 hv hr ids base
  exact⟨by rw[g2];exact g1,g3,fun h=>(g4 (h2▸h)).1⟩
 cases V with
 |agg cs=>
  simp only[okV,List.all_eq_true]at hv
  simp only[RV]at hr⊢
  obtain⟨cs',rfl,hr⟩:=hr
  have: ∀ (l:List SV) (qs:List PV),(∀c∈l,Zvm c=true)→RL φ l qs→RL (φ.map (Option.map fun a=>base+pos a ids)) l ((qs.map (Zjx ids)).map (sh1 base))∧(qs.map (Zjx ids)).all Zda=true∧(l.all Zjt=true→(qs.map (Zjx ids)).all ZhF=true):=by
   intro l
   induction l with
   |nil=>intro qs _ h;simp only[RL]at h;subst h;simp[RL]
   |cons c r ih=>
    intro qs h1 h2
    simp only[RL]at h2
    obtain⟨q,r',rfl,h3,h4⟩:=h2
    obtain⟨g1,_,_,g3,g4⟩:=Zs5 (h1 c List.mem_cons_self) h3 ids base
    obtain⟨f1,f2,f3⟩:=ih r' (fun c hc=>h1 c (List.mem_cons_of_mem _ hc)) h4
    refine⟨?_,by simp only[List.map_cons,List.all_cons,g3,f2,Bool.and_self],fun hs=> ?_⟩
    ·simp only[List.map_cons,RL]
     exact⟨_,_,rfl,g1,f1⟩
    ·simp only[List.all_cons,Bool.and_eq_true]at hs
     simp only[List.map_cons,List.all_cons,(g4 hs.1).2,f3 hs.2,Bool.and_self]
  obtain⟨f1,f2,f3⟩:=this cs cs' hv hr
  exact⟨⟨_,rfl,f1⟩,f2,f3⟩
 |_=>exact one rfl rfl
theorem ZoG (ids:List Nat) (base:Nat): ∀ {l:List SV} {qs:List PV},l.all okV=true→RL φ l qs→RL (φ.map (Option.map fun a=>base+pos a ids)) l (qs.map fun q=>sh base (ren ids q))∧(∀q∈qs,Zbp (ren ids q)=true)∧(l.all Zr3=true→ ∀q∈qs,ZcY (ren ids q)=true)
 | [],qs,_,h=>by simp only[RL]at h;subst h;simp[RL]
 |V::l,qs,h1,h2=>by
  simp only[List.all_cons,Bool.and_eq_true]at h1
  simp only[RL]at h2
  obtain⟨q,r',rfl,h3,h4⟩:=h2
  obtain⟨g1,g2,g3⟩:=Zwq h1.1 h3 ids base
  obtain⟨f1,f2,f3⟩:=ZoG ids base h1.2 h4
  refine⟨?_, ?_, ?_⟩
  ·simp only[List.map_cons,RL]
   exact⟨_,_,rfl,g1,f1⟩
  ·intro x hx
   rcases List.mem_cons.1 hx with rfl|hx
   ·exact g2
   ·exact f2 x hx
  ·intro hs x hx
   simp only[List.all_cons,Bool.and_eq_true]at hs
   rcases List.mem_cons.1 hx with rfl|hx
   ·exact g3 hs.1
   ·exact f3 hs.2 x hx
theorem ZoN: ∀ {l:List SV} {qs:List PV},l.all okV=true→RL φ l qs→(∀q∈qs,Zbp q=true)∧ ∀i,i∈qs.flatMap Zcr↔ ∃id,id∈l.flatMap ZuS∧φ[id]? =some (some i)
 | [],qs,_,h=>by simp only[RL]at h;subst h;simp
 |V::l,qs,h1,h2=>by
  simp only[List.all_cons,Bool.and_eq_true]at h1
  simp only[RL]at h2
  obtain⟨q,r',rfl,h3,h4⟩:=h2
  obtain⟨g1,g2⟩:=ZwB h1.1 h3
  obtain⟨f1,f2⟩:=ZoN h1.2 h4
  refine⟨?_,fun i=> ?_⟩
  ·intro x hx
   rcases List.mem_cons.1 hx with rfl|hx
   ·exact g1
   ·exact f1 x hx
  ·simp only[List.flatMap_cons,List.mem_append,g2 i,f2 i]
   constructor
   ·rintro(⟨id,h,h'⟩|⟨id,h,h'⟩)
    ·exact⟨id, .inl h,h'⟩
    ·exact⟨id, .inr h,h'⟩
   ·rintro⟨id,h|h,h'⟩
    ·exact .inl ⟨id,h,h'⟩
    ·exact .inr ⟨id,h,h'⟩
end
end Go.Tx
