/- The program logic: tables of types; results that are own memory. -/
import Derived.Test.YtplkkbcnilnfaaaGreatDoorTx7
set_option linter.all false
namespace Go.Tx
noncomputable section
open Go.Am
def ZI7:TI:=⟨.other,0,0,[],none⟩
inductive Tr where
 |lf (k:Nat) (v:TI)
 |nd (k:Nat) (a b:Tr)
def Tr.find:Tr->Nat->TI
 | .lf k v,t=>match Nat.beq t k with
  |true=>v
  |false=>ZI7
 | .nd k a b,t=>match Nat.ble k t with
  |true=>b.find t
  |false=>a.find t
def Tr.all (p:Nat->TI->Bool):Tr->Bool
 | .lf k v=>p k v
 | .nd _ a b=>a.all p&&b.all p
def Tr.all_find {p:Nat->TI->Bool}: ∀ {tr:Tr},tr.all p=true-> ∀t,tr.find t=ZI7\/p t (tr.find t)=true
 | .lf k v,h,t=>by simp only[Tr.find];split;rename_i j;rw[Xar j];exact .inr h;exact .inl rfl
 | .nd k a b,h,t=>by simp only[Tr.all,Xah]at h;simp only[Tr.find];split;exact Tr.all_find h.2 t;exact Tr.all_find h.1 t
def zeq:SV->PV->Bool
 | .v (.i k) n, .int k' n'=>keq k k'&&(n==n')
 | .v .b b, .bool j=>b==j
 | .v .s s, .str C=>s.isEmpty&&Nat.beq C.size 0
 | .nils, .nils=>true
 | .nilp, .nilp=>true
 | .nilf, .nilf=>true
 | .nili, .nili=>true
 | .nilmp, .nilm=>true
 |_,_=>false
def ZHv:List SV->List PV->Bool
 | [],[]=>true
 |a::l,b::r=>zeq a b&&ZHv l r
 |_,_=>false
def Zlv {φ:Ph} {V:SV} {q:PV} (h:zeq V q=true):RV φ V q:=by
 unfold zeq at h;split at h<;>first
  |(simp only[Xah,beq_iff_eq]at h;rw[ZgM h.1,h.2];exact vi _ _)
  |(simp only[beq_iff_eq]at h;rw[h];exact vb _)
  |(simp only[RV];done)
  |(cases h;done)
  |skip
 rename_i s j;simp only[Xah,XbS]at h;rw[h.1];have:j=⟨([]:List UInt8).toArray⟩:=by have C:=Xar h.2;apply ByteArray.ext;exact Array.eq_empty_of_size_eq_zero C
 rw[this];exact vs []
def Zvu {φ:Ph}: ∀ {l:List SV} {qs:List PV},ZHv l qs=true->RL φ l qs
 | [],[],_=>by simp only[RL]
 |a::l,b::r,h=>by simp only[ZHv,Xah]at h;simp only[RL];exact⟨_,_,rfl,Zlv h.1,Zvu h.2⟩
def zct:(c:CT)->List PV->Bool
 | .p a c,cs=>zct a (cs.take a.w)&&zct c (cs.drop a.w)
 | .i k,cs=>match cs with
  | [q]=>zeq (.v (.i k) (0:Int)) q
  |_=>false
 | .b,cs=>match cs with
  | [q]=>zeq (.v .b false) q
  |_=>false
 | .s,cs=>match cs with
  | [q]=>zeq (.v .s []) q
  |_=>false
 | .l _,cs=>match cs with
  | [q]=>zeq .nils q
  |_=>false
 | .any,cs=>match cs with
  | [q]=>zeq .nili q
  |_=>false
def ZvI: ∀ {c:CT} {cs:List PV},zct c cs=true->RR c c.z cs
 | .p a c,cs,h=>by simp only[zct,Xah]at h;exact⟨_,_,(Xa9 a.w cs).symm,ZvI h.1,ZvI h.2⟩
 | .i k,cs,h=>by simp only[zct]at h;split at h;have:=Zlv (φ:=[]) h;simp only[RV]at this;exact this;cases h
 | .b,cs,h=>by simp only[zct]at h;split at h;have:=Zlv (φ:=[]) h;simp only[RV]at this;exact this;cases h
 | .s,cs,h=>by simp only[zct]at h;split at h;have:=Zlv (φ:=[]) h;simp only[RV]at this;exact this;cases h
 | .any,cs,h=>by simp only[zct]at h;split at h;have:=Zlv (φ:=[]) h;simp only[RV]at this;subst this;rfl;cases h
 | .l e,cs,h=>by simp only[zct]at h;split at h;have:=Zlv (φ:=[]) h;simp only[RV]at this;subst this;exact .inl ⟨rfl,rfl⟩;cases h
def ZzR (P:Program):List (Nat×TypeId×Nat)->List Field->Bool
 | [],[]=>true
 |(off,t,n)::r,f::j=>Nat.beq off f.offset&&Nat.beq t f.type&&(match Zbe P t with|some m=>Nat.beq m n|none=>false)&&ZzR P r j
 |_,_=>false
def Zs7 {P:Program}: ∀ {l:List (Nat×TypeId×Nat)} {j:List Field},ZzR P l j=true->(l.map λx=>(x.1,x.2.1))=j.map (λf=>(f.offset,f.type))/\ ∀x∈l,Zbe P x.2.1=some x.2.2
 | [],[],_=>⟨rfl,by simp⟩
 | [],_::_,h=>by cases h
 |_::_,[],h=>by cases h
 |(off,t,n)::r,f::j,h=>by simp only[ZzR,Xah]at h;obtain⟨⟨⟨I,J⟩,C⟩,R⟩:=h;have U:=Xar I;have e2:t=f.type:=Xar J;obtain⟨g1,g2⟩:=Zs7 R;refine⟨by simp only[XaX,g1,U,e2], ?_⟩;intro x hx;rcases Xau.1 hx with rfl|hx;split at C;rename_i m hm;rw[<-Xar C];exact hm;cases C;exact g2 x hx
def ZID (P:Program) (t:TypeId):TK->Bool
 | .int k=>match P.underlying t with|some (.int k')=>keq k k'|_=>false
 | .bool=>match P.underlying t with|some .bool=>true|_=>false
 | .str=>match P.underlying t with|some .string=>true|_=>false
 | .slice e=>match P.underlying t with|some (.slice j)=>Nat.beq e j|_=>false
 | .arr n e=>match P.underlying t with|some (.array n' j)=>Nat.beq n n'&&Nat.beq e j|_=>false
 | .struct C=>match P.underlying t with|some (.struct a)=>ZzR P C a.toList|_=>false
 | .ptr=>match P.underlying t with|some (.pointer _)=>true|_=>false
 | .func=>match P.underlying t with|some (.func _ _ _)=>true|_=>false
 | .smap=>match P.underlying t,Zim P t with|some (.map _ e),some (.string,j)=>Nat.beq e j&&(match Zd8 P e with|some (.bool false)=>true|_=>false)|_,_=>false
 | .imap c=>match P.underlying t,Zim P t with|some (.map _ e),some (.int .i64,j)=>Nat.beq e j&&(match c,Zd8 P e with| .b,some (.bool false)=>true| .i .i64,some (.int .i64 n)=>n==0|_,_=>false)|_,_=>false
 | .any=>match P.underlying t with|some (.interface _)=>true|_=>false
 | .other=>true
def ZEp {P:Program} {t:TypeId} {k:TK} (h:ZID P t k=true):KM P t k:=by
 cases k<;>simp only[ZID]at h<;>simp only[KM]<;>(try trivial)<;>(split at h<;>first|(cases h;done)|skip);rename_i hu;rw[ZgM h];exact hu;rename_i hu;exact hu;rename_i hu;exact hu;rename_i hu;rw[hu,show _=_ from Xar h];rename_i hu;simp only[Xah]at h;rw[hu,show _=_ from Xar h.1,show _=_ from Xar h.2];rename_i hu;obtain⟨C,j⟩:=Zs7 h;exact⟨_,hu,C,j⟩;rename_i hu;exact⟨_,hu⟩;rename_i hu;exact⟨_,_,_,hu⟩;rename_i hu J;simp only[Xah]at h;obtain⟨C,j⟩:=h;have R:=Xar C;split at j;rename_i I;exact⟨_,_,hu,by rw[J,R],I⟩;cases j;rename_i hu J;simp only[Xah]at h;obtain⟨C,j⟩:=h;have R:=Xar C;split at j;rename_i I;exact⟨_,_,_,hu,by rw[J,R],I,rfl⟩;rename_i n I;have j:n=0:=by simpa using j
 subst j;exact⟨_,_,_,hu,by rw[J,R],I,rfl⟩;cases j;rename_i hu;exact⟨_,hu⟩
def ZIy (P:Program) (t:TypeId):TK->Bool
 | .int k=>match Zd8 P t with|some (.int k' n)=>keq k k'&&(n==0)|_=>false
 | .str=>match Zd8 P t with|some (.str s)=>Nat.beq s.size 0|_=>false
 |_=>true
def ZEr (P:Program) (t:TypeId) (i:TI):Bool:=
 (ZID P t i.k&&ZIy P t i.k)&&(match Zbe P t with|some n=>Nat.beq n i.sz|none=>false)&&(match Zj4 P t with|some n=>Nat.beq n i.by_|none=>false)&&
 (match ZdO P t with|some zs=>ZHv i.zero zs&&Nat.beq zs.length i.sz&&(match i.ct with|some c=>Nat.beq c.w i.sz&&zct c zs|none=>true)|none=>false)
def ZAy {P:Program} {t:TypeId} {i:TI} (h:ZEr P t i=true):TIok P t i:=by
 simp only[ZEr,Xah]at h;obtain⟨⟨⟨⟨h1,j⟩,U⟩,h3⟩,J⟩:=h;split at U;·rename_i n hn;split at h3;(·rename_i m hm;split at J;(·rename_i zs hz;simp only[Xah]at J;obtain⟨⟨h5,h6⟩,R⟩:=J;refine⟨ZEp h1,by rw[hn,Xar U],by rw[hm,Xar h3],⟨zs,hz,λφ=>Zvu h5,Xar h6⟩, ?_, ?_, ?_⟩;(rotate_left 1);intro k hk;rw[hk]at j;simp only[ZIy]at j;split at j;rename_i k' n C;simp only[Xah,beq_iff_eq]at j;rw[C,ZgM j.1,j.2];cases j;intro hk;rw[hk]at j;simp only[ZIy]at j;split at j;rename_i s C;have e:s=⟨#[]⟩:=(by apply ByteArray.ext;exact Array.eq_empty_of_size_eq_zero (Xar j));rw[C,e];cases j;intro c hc;rw[hc]at R;simp only[Xah]at R;refine⟨Xar R.1,λaa I=> ?_⟩;rw[hz]at I;cases I;exact ZvI R.2);cases J);cases h3
 cases U
def ZGr {P:Program} {tr:Tr} (h:tr.all (ZEr P)=true):TysOK P tr.find:=by intro t;rcases Tr.all_find h t with h|h;left;rw[h];rfl;exact .inr (ZAy h)
def ZBk:SV->Bool
 | .v _ _| .nilp| .nils| .nilf| .ref _ _ _ _=>true
 |_=>false
def okV:SV->Bool
 | .agg cs=>cs.all ZBk
 |V=>ZBk V
def ZBs:SV->List Nat
 | .ref id _ _ _=> [id]
 | .agg cs=>cs.flatMap λc=>match c with| .ref id _ _ _=> [id]|_=> []
 |_=> []
def ZbS:SV->List SV
 | .tup vs=>vs
 |V=> [V]
def ZlU:SV->Bool
 | .v (.l _) _=>false
 | .v _ _| .nilp| .nils| .nilf| .ref _ _ _ _=>true
 |_=>false
def Zyh:SV->Bool
 | .agg cs=>cs.all ZlU
 |V=>ZlU V
def ZuL:CT->Bool
 | .l _=>false
 | .p a c=>ZuL a&&ZuL c
 |_=>true
def ZjN:List SM->Bool
 | []=>true
 | .row _ _ _::r=>ZjN r
 | .dead::r=>ZjN r
 | .cell _ _::_=>false
 | .many _ _ _::_=>false
 | .set _::_=>false
 | .im _ _::_=>false
def Zuu:List SM->Bool
 | []=>true
 | .row t _ _::r=>ZuL t&&Zuu r
 | .dead::r=>Zuu r
 | .cell _ _::_=>false
 | .many _ _ _::_=>false
 | .set _::_=>false
 | .im _ _::_=>false
def ZHr (i:Nat):List Nat->Bool
 | []=>false
 |j::r=>match Nat.beq i j with
  |true=>true
  |false=>ZHr i r
def Zem (ids:List Nat):Nat->List SM->Bool
 |_,[]=>true
 |j, .dead::r=>Zem ids (j+1) r
 |j,_::r=>ZHr j ids&&Zem ids (j+1) r
def ZsT (hp:List SM):List Nat->Bool
 | []=>true
 |j::r=>match nth hp j with
  |some (.row _ _ _)=>ZsT hp r
  |_=>false
def ZIY (Q:SV->List SM->Bool->Prop) (V:SV) (hp:List SM):Prop:=
 ∃V' hp',Ent 0 (Zch 0 (ZbS V)) hp (Zch 0 (ZbS V')) hp'/\(Nat.beq (ZbS V).length (ZbS V').length&&Bool.xor (ZbB V) (!ZbB V')&&(ZbS V').all okV&&ZjN hp'&&Zem ((ZbS V').flatMap ZBs) 0 hp'&&ZsT hp' ((ZbS V').flatMap ZBs))=true/\Q V' hp' ((ZbS V').all Zyh&&Zuu hp')
def Zqs {i:Nat}: ∀ {xs ids:List Nat},i∈xs.foldl Zb6 ids->i∈ids\/i∈xs
 | [],ids,h=> .inl h
 |x::xs,ids,h=>by rcases Zqs (xs:=xs) h with h|h;unfold Zb6 at h;split at h;exact .inl h;rcases XaJ.1 h with h|h;exact .inl h;exact .inr (by rw[Xat.1 h];exact Xai);exact .inr (Xaj _ h)
def ZeA {H:List Mem} {ids:List Nat} (h: ∀i∈ids,ZmE H i=[]):Zdf H ids=ids:=by unfold Zdf;rw[List.flatMap_eq_nil_iff.2 h];rfl
def Zb9 {q:PV} (h:ZcF q=true):Zgw q=true/\ZbA q=true/\(∀b,sh b q=q)/\Zb8 q=[]:=by
 cases q<;>simp only[ZcF]at h<;>first
  |exact⟨rfl,rfl,λ_=>rfl,rfl⟩
  |(cases h;done)
def Zf6 {t:CT} {l:List t.D} {es:List (List PV)} (h:All2 (RR t) l es) (z:Nat) (m:Bool):Zgz (.row es z m)=true/\ZAV (.row es z m)=true/\ ∀b,shM b (.row es z m)= .row es z m:=by have hp:=RRs.plain h;refine⟨Zyx (λc j v C=>(Zb9 (hp c j v C)).1) z m, ?_,λb=> ?_⟩;simp only[ZAV,Xaw];exact λc j v C=>(Zb9 (hp c j v C)).2.1;simp only[shM,Mem.row.injEq,and_true];rw[Xbd (g:=id) (λc j=>by rw[Xbd (g:=id) (λv C=>(Zb9 (hp c j v C)).2.2.1 b)];simp)];simp
section
variable {φ:Ph}
def Zyf {V:SV} {q:PV} (U:ZBk V=true) (C:RV φ V q):Zen q=true/\ZbA q=true/\Zb8 q=Zcz q/\(∀i,i∈Zcz q<-> ∃id j n m,V= .ref id j n m/\φ[id]? =some (some i)):=by
 cases V with
 |v t x=>
  have hp:ZcF q=true:=(by simp only[RV]at C;exact C.plain q (by simp));cases q<;>simp only[ZcF]at hp<;>first
   |(cases hp;done)
   |exact⟨rfl,rfl,rfl,λi=>by simp[Zcz]⟩
 |nilp=>simp only[RV]at C;subst C;exact⟨rfl,rfl,rfl,λi=>by simp[Zcz]⟩
 |nils=>simp only[RV]at C;subst C;exact⟨rfl,rfl,rfl,λi=>by simp[Zcz]⟩
 |nilf=>simp only[RV]at C;subst C;exact⟨rfl,rfl,rfl,λi=>by simp[Zcz]⟩
 |ref id j n m=>simp only[RV]at C;rcases C with⟨a,J,rfl⟩|⟨J,rfl,_⟩;refine⟨rfl,rfl,rfl,λi=> ?_⟩;simp only[Zcz,Xat];constructor;rintro rfl;exact⟨id,j,n,m,rfl,J⟩;rintro⟨R,j',n',m',e,I⟩;cases e;rw[J]at I;exact(Xbc (Xbc I)).symm;refine⟨rfl,rfl,rfl,λi=> ?_⟩;simp only[Zcz,Xav,false_iff];rintro⟨R,j',n',m',e,I⟩;cases e;rw[J]at I;cases I
 |_=>cases U
def Zwe {V:SV} {q:PV} (hv:ZBk V=true) (C:RV φ V q) (ids:List Nat) (base:Nat):RV (φ.map (Option.map λa=>base+pos a ids)) V (sh1 base (Zlo ids q))/\sh base (ren ids q)=sh1 base (Zlo ids q)/\ZbA (ren ids q)=true/\Zen (Zlo ids q)=true/\(ZlU V=true->Zdv (ren ids q)=true/\Zio (Zlo ids q)=true):=by
 cases V with
 |v t x=>
  have hp:ZcF q=true:=(by simp only[RV]at C;exact C.plain q (by simp));have I:RV (φ.map (Option.map λa=>base+pos a ids)) (.v t x) q:=(by simpa only[RV]using C);cases q<;>simp only[ZcF]at hp<;>first
   |(cases hp;done)
   |skip
  exact⟨I,rfl,rfl,rfl,λ_=>⟨rfl,rfl⟩⟩;exact⟨I,rfl,rfl,rfl,λ_=>⟨rfl,rfl⟩⟩;exact⟨I,rfl,rfl,rfl,λ_=>⟨rfl,rfl⟩⟩;exact⟨I,rfl,rfl,rfl,λ_=>⟨rfl,rfl⟩⟩;exact⟨I,rfl,rfl,rfl,λ_=>⟨rfl,rfl⟩⟩;exact⟨I,rfl,rfl,rfl,λ_=>⟨rfl,rfl⟩⟩
  ·refine⟨I,rfl,rfl,rfl,λU=> ?_⟩;cases t<;>simp only[ZlU]at U<;>first
    |(cases U;done)
    |(simp[RV,RR]at C;done)
    |(simp only[RV,RR,Xb3,and_true]at C;cases x<;>(cases C;done))
    |skip
   simp only[RV]at C;have:=C.len;obtain⟨u,v,e,J,R⟩:=C;have l1:=J.len;have l2:=R.len;have:=congrArg List.length e;simp only[Xaq,XbG,Xas]at this;have w: ∀t:CT,1<=t.w:=by intro t;induction t with|p a c aa ab=>simp only[CT.w];omega|_=>simp[CT.w]
   rename_i a c _;have:=w a;have:=w c;omega
 |nilp=>simp only[RV]at C;subst C;exact⟨by simp only[RV];rfl,rfl,rfl,rfl,λ_=>⟨rfl,rfl⟩⟩
 |nils=>simp only[RV]at C;subst C;exact⟨by simp only[RV];rfl,rfl,rfl,rfl,λ_=>⟨rfl,rfl⟩⟩
 |nilf=>simp only[RV]at C;subst C;exact⟨by simp only[RV];rfl,rfl,rfl,rfl,λ_=>⟨rfl,rfl⟩⟩
 |ref id j n m=>simp only[RV]at C;rcases C with⟨a,J,rfl⟩|⟨J,rfl,R⟩;refine⟨?_,rfl,rfl,rfl,λ_=>⟨rfl,rfl⟩⟩;simp only[RV];exact .inl ⟨base+pos a ids,by rw[XaC,J];rfl,rfl⟩;refine⟨?_,rfl,rfl,rfl,λ_=>⟨rfl,rfl⟩⟩;simp only[RV];exact .inr ⟨by rw[XaC,J];rfl,rfl,R⟩
 |_=>cases hv
def ZDw {V:SV} {q:PV} (R:okV V=true) (J:RV φ V q):ZbA q=true/\ ∀i,i∈Zb8 q<-> ∃id,id∈ZBs V/\φ[id]? =some (some i):=by
 have one:okV V=ZBk V->(∀i,(∃id j n m,V= .ref id j n m/\φ[id]? =some (some i))<-> ∃id,id∈ZBs V/\φ[id]? =some (some i))->ZbA q=true/\ ∀i,i∈Zb8 q<-> ∃id,id∈ZBs V/\φ[id]? =some (some i):=by intro C U;rw[C]at R;obtain⟨_,g2,g3,g4⟩:=Zyf R J;exact⟨g2,λi=>by rw[g3,g4 i,U i]⟩
 cases V with
 |ref id j n m=>refine one rfl λi=>⟨?_, ?_⟩;rintro⟨I,j',n',m',e,h⟩;cases e;exact⟨_,Xat.2 rfl,h⟩;rintro⟨I,C,h⟩;rw[Xat.1 C]at h;exact⟨_,_,_,_,rfl,h⟩
 |agg cs=>
  simp only[okV,Xaw]at R;simp only[RV]at J;obtain⟨aa,rfl,J⟩:=J;have: ∀ (l:List SV) (qs:List PV),(∀c∈l,ZBk c=true)->RL φ l qs->qs.all Zen=true/\ ∀i,i∈qs.flatMap Zcz<-> ∃id,id∈(l.flatMap λc=>match c with| .ref id _ _ _=> [id]|_=> [])/\φ[id]? =some (some i):=by intro l;induction l with|nil=>intro qs _ h;simp only[RL]at h;subst h;simp|cons c r ih=>intro qs C U;simp only[RL]at U;obtain⟨q,r',rfl,h3,h4⟩:=U;obtain⟨g1,_,_,g4⟩:=Zyf (C c Xai) h3;obtain⟨f1,f2⟩:=ih r' (λc hc=>C c (Xaj _ hc)) h4;refine⟨by simp only[XbM,g1,f1,Bool.and_self],λi=> ?_⟩;simp only[Xa7,XaJ,g4 i,f2 i];constructor;rintro(⟨id,j,n,m,rfl,h⟩|⟨id,h,h'⟩);exact⟨id, .inl (Xat.2 rfl),h⟩;exact⟨id, .inr h,h'⟩;rintro⟨id,h|h,h'⟩;left;cases c<;>simp at h;subst h;exact⟨_,_,_,_,rfl,h'⟩;exact .inr ⟨id,h,h'⟩
  exact this cs aa R J
 |_=>refine one rfl λi=>⟨?_, ?_⟩;rintro⟨I,j',n',m',e,h⟩;cases e;rintro⟨I,C,h⟩;simp[ZBs]at C
def ZDS {V:SV} {q:PV} (C:okV V=true) (j:RV φ V q) (ids:List Nat) (base:Nat):RV (φ.map (Option.map λa=>base+pos a ids)) V (sh base (ren ids q))/\ZbA (ren ids q)=true/\(Zyh V=true->Zdv (ren ids q)=true):=by
 have one:okV V=ZBk V->Zyh V=ZlU V->RV (φ.map (Option.map λa=>base+pos a ids)) V (sh base (ren ids q))/\ZbA (ren ids q)=true/\(Zyh V=true->Zdv (ren ids q)=true):=by intro I J;rw[I]at C;obtain⟨g1,g2,g3,_,g4⟩:=Zwe C j ids base;exact⟨by rw[g2];exact g1,g3,λh=>(g4 (J▸h)).1⟩
 cases V with
 |agg cs=>
  simp only[okV,Xaw]at C;simp only[RV]at j|-;obtain⟨R,rfl,j⟩:=j;have: ∀ (l:List SV) (qs:List PV),(∀c∈l,ZBk c=true)->RL φ l qs->RL (φ.map (Option.map λa=>base+pos a ids)) l ((qs.map (Zlo ids)).map (sh1 base))/\(qs.map (Zlo ids)).all Zen=true/\(l.all ZlU=true->(qs.map (Zlo ids)).all Zio=true):=by intro l;induction l with|nil=>intro qs _ h;simp only[RL]at h;subst h;simp[RL]|cons c r ih=>intro qs I J;simp only[RL]at J;obtain⟨q,r',rfl,h3,h4⟩:=J;obtain⟨g1,_,_,g3,g4⟩:=Zwe (I c Xai) h3 ids base;obtain⟨f1,f2,f3⟩:=ih r' (λc hc=>I c (Xaj _ hc)) h4;refine⟨?_,by simp only[XaX,XbM,g3,f2,Bool.and_self],λU=> ?_⟩;simp only[XaX,RL];exact⟨_,_,rfl,g1,f1⟩;simp only[XbM,Xah]at U;simp only[XaX,XbM,(g4 U.1).2,f3 U.2,Bool.and_self]
  obtain⟨f1,f2,f3⟩:=this cs R C j;exact⟨⟨_,rfl,f1⟩,f2,f3⟩
 |_=>exact one rfl rfl
def Ztu (ids:List Nat) (base:Nat): ∀ {l:List SV} {qs:List PV},l.all okV=true->RL φ l qs->RL (φ.map (Option.map λa=>base+pos a ids)) l (qs.map λq=>sh base (ren ids q))/\(∀q∈qs,ZbA (ren ids q)=true)/\(l.all Zyh=true-> ∀q∈qs,Zdv (ren ids q)=true)
 | [],qs,_,h=>by simp only[RL]at h;subst h;simp[RL]
 |V::l,qs,j,I=>by simp only[XbM,Xah]at j;simp only[RL]at I;obtain⟨q,U,rfl,J,R⟩:=I;obtain⟨g1,g2,g3⟩:=ZDS j.1 J ids base;obtain⟨f1,f2,f3⟩:=Ztu ids base j.2 R;refine⟨?_, ?_, ?_⟩;simp only[XaX,RL];exact⟨_,_,rfl,g1,f1⟩;intro x hx;rcases Xau.1 hx with rfl|hx;exact g2;exact f2 x hx;intro C x hx;simp only[XbM,Xah]at C;rcases Xau.1 hx with rfl|hx;exact g3 C.1;exact f3 C.2 x hx
def Zrw: ∀ {l:List SV} {qs:List PV},l.all okV=true->RL φ l qs->(∀q∈qs,ZbA q=true)/\ ∀i,i∈qs.flatMap Zb8<-> ∃id,id∈l.flatMap ZBs/\φ[id]? =some (some i)
 | [],qs,_,h=>by simp only[RL]at h;subst h;simp
 |V::l,qs,C,I=>by simp only[XbM,Xah]at C;simp only[RL]at I;obtain⟨q,U,rfl,J,R⟩:=I;obtain⟨g1,g2⟩:=ZDw C.1 J;obtain⟨f1,f2⟩:=Zrw C.2 R;refine⟨?_,λi=> ?_⟩;intro x hx;rcases Xau.1 hx with rfl|hx;exact g1;exact f1 x hx;simp only[Xa7,XaJ,g2 i,f2 i];constructor;rintro(⟨id,h,j⟩|⟨id,h,j⟩);exact⟨id, .inl h,j⟩;exact⟨id, .inr h,j⟩;rintro⟨id,h|h,j⟩;exact .inl ⟨id,h,j⟩;exact .inr ⟨id,h,j⟩
end
section
variable {φ:Ph} {hp:List SM}
def ZrQ {V:SV} {v:PV} (C:RV φ V v):RL φ (ZbS V) (Zbg v)/\(ZbB V=true-> ∀y,Zhr v [y]=y)/\(ZbB V=false-> ∀ys,Zhr v ys= .tup ys):=by
 have one:(∀vs,v≠ .tup vs)->ZbS V=[V]->ZbB V=true->RL φ (ZbS V) (Zbg v)/\(ZbB V=true-> ∀y,Zhr v [y]=y)/\(ZbB V=false-> ∀ys,Zhr v ys= .tup ys):=by
  intro I J R;have U:Zbg v=[v]:=by
   cases v<;>first
    |rfl
    |exact absurd rfl (I _)
  refine⟨?_,λ_ y=> ?_,λh=>by rw[R]at h;cases h⟩;rw[J,U];simp only[RL];exact⟨_,_,rfl,C,rfl⟩;cases v<;>first
    |rfl
    |exact absurd rfl (I _)
 have j:=C;cases V<;>simp only[RV]at j;case v t x=>
  have hp:ZcF v=true:=j.plain v (by simp)
  exact one (λvs e=>by subst e;cases hp) rfl rfl
 case nilp=>subst j;exact one (by simp) rfl rfl
 case nils=>subst j;exact one (by simp) rfl rfl
 case nilf=>subst j;exact one (by simp) rfl rfl
 case nili=>subst j;exact one (by simp) rfl rfl
 case nilmp=>subst j;exact one (by simp) rfl rfl
 case mp=>obtain⟨a,_,rfl⟩:=j;exact one (by simp) rfl rfl
 case cl=>rcases j with⟨rfl,_⟩|⟨_,rfl,_⟩<;>exact one (by simp) rfl rfl
 case ref=>rcases j with⟨a,_,rfl⟩|⟨_,rfl,_⟩<;>exact one (by simp) rfl rfl
 case ptr=>obtain⟨a,_,rfl⟩:=j;exact one (by simp) rfl rfl
 case box=>obtain⟨a,rfl,_⟩:=j;exact one (by simp) rfl rfl
 case func=>obtain⟨_,_,rfl,_⟩:=j;exact one (by simp) rfl rfl
 case agg=>obtain⟨_,rfl,_⟩:=j;exact one (by simp) rfl rfl
 case tup vs=>
  obtain⟨vs',rfl,h⟩:=j
  exact⟨h,λh=>by(cases h),λ_ ys=>rfl⟩
def ZiF: ∀ (l:List SV) (n i:Nat),Zck (n+i) (Zch n l)=l[i]?
 | [],n,i=>by simp[Zch,Zck]
 |V::r,n,0=>by simp only[Zch,ZfH,Nat.add_zero,XbC];rw[show Nat.beq n n=true from by simp];rfl
 |V::r,n,i+1=>by simp only[Zch,ZfH,XaP];have:Nat.beq (n+(i+1)) n=false:=(by cases j:Nat.beq (n+(i+1)) n with|true=>have:=Xar j;omega|false=>rfl);rw[this,cond_false,show n+(i+1)=(n+1)+i from by omega];exact ZiF r (n+1) i
def Zk8: ∀ {l:List SV} {qs:List PV},l.length=qs.length->(∀ (i:Nat) (V:SV),l[i]? =some V-> ∃q,qs[i]? =some q/\RV φ V q)->RL φ l qs
 | [],[],_,_=>by simp only[RL]
 |V::l,q::qs,C,h=>by simp only[RL];obtain⟨J,j,I⟩:=h 0 V rfl;simp at j;subst j;exact⟨q,qs,rfl,I,Zk8 (by simpa using C) λi W hW=>by simpa using h (i+1) W (by simpa using hW)⟩
def Zgg {i:Nat}: ∀ {l:List Nat},ZHr i l=true->i∈l
 | [],h=>by cases h
 |j::r,h=>by simp only[ZHr]at h;split at h;rename_i C;rw[Xar C];exact Xai;exact Xaj _ (Zgg h)
def Zcd {ids:List Nat}: ∀ {l:List SM} {n j:Nat} {m:SM},Zem ids n l=true->l[j]? =some m->live m=true->n+j∈ids
 | .dead::r,n,0,m,h,hm,C=>by simp at hm;subst hm;cases C
 | .dead::r,n,j+1,m,h,hm,C=>by have:=Zcd (l:=r) (n:=n+1) (j:=j) h (by simpa using hm) C;rw[show n+(j+1)=n+1+j from by omega];exact this
 | .row _ _ _::r,n,0,m,h,hm,C=>by simp only[Zem,Xah]at h;exact Zgg h.1
 | .row _ _ _::r,n,j+1,m,h,hm,C=>by simp only[Zem,Xah]at h;have:=Zcd (l:=r) (n:=n+1) (j:=j) h.2 (by simpa using hm) C;rw[show n+(j+1)=n+1+j from by omega];exact this
 | .cell _ _::r,n,0,m,h,hm,C=>by simp only[Zem,Xah]at h;exact Zgg h.1
 | .cell _ _::r,n,j+1,m,h,hm,C=>by simp only[Zem,Xah]at h;have:=Zcd (l:=r) (n:=n+1) (j:=j) h.2 (by simpa using hm) C;rw[show n+(j+1)=n+1+j from by omega];exact this
 | .many _ _ _::r,n,0,m,h,hm,C=>by simp only[Zem,Xah]at h;exact Zgg h.1
 | .many _ _ _::r,n,j+1,m,h,hm,C=>by simp only[Zem,Xah]at h;have:=Zcd (l:=r) (n:=n+1) (j:=j) h.2 (by simpa using hm) C;rw[show n+(j+1)=n+1+j from by omega];exact this
 | .set _::r,n,0,m,h,hm,C=>by simp only[Zem,Xah]at h;exact Zgg h.1
 | .set _::r,n,j+1,m,h,hm,C=>by simp only[Zem,Xah]at h;have:=Zcd (l:=r) (n:=n+1) (j:=j) h.2 (by simpa using hm) C;rw[show n+(j+1)=n+1+j from by omega];exact this
 | .im _ _::r,n,0,m,h,hm,C=>by simp only[Zem,Xah]at h;exact Zgg h.1
 | .im _ _::r,n,j+1,m,h,hm,C=>by simp only[Zem,Xah]at h;have:=Zcd (l:=r) (n:=n+1) (j:=j) h.2 (by simpa using hm) C;rw[show n+(j+1)=n+1+j from by omega];exact this
def Zhb: ∀ {l:List SM} {j:Nat} {m:SM},ZjN l=true->l[j]? =some m->live m=true-> ∃t r b,m= .row t r b
 | .row t x b::r,0,m,_,hm,_=>by simp at hm;subst hm;exact⟨t,x,b,rfl⟩
 | .row _ _ _::r,j+1,m,h,hm,C=>Zhb (l:=r) h (by simpa using hm) C
 | .dead::r,0,m,_,hm,C=>by simp at hm;subst hm;cases C
 | .dead::r,j+1,m,h,hm,C=>Zhb (l:=r) h (by simpa using hm) C
def ZmX: ∀ {l:List SM} {j:Nat} {t:CT} {x:List t.D} {b:Bool},Zuu l=true->l[j]? =some (.row t x b)->ZuL t=true
 | .row t x b::r,0,_,_,_,h,hm=>by simp only[Zuu,Xah]at h;simp at hm;obtain⟨rfl,_⟩:=hm;exact h.1
 | .row _ _ _::r,j+1,_,_,_,h,hm=>by simp only[Zuu,Xah]at h;exact ZmX (l:=r) h.2 (by simpa using hm)
 | .dead::r,0,_,_,_,_,hm=>by simp at hm
 | .dead::r,j+1,_,_,_,h,hm=>ZmX (l:=r) h (by simpa using hm)
def ZmP: ∀ {t:CT} {x:t.D} {cs:List PV},ZuL t=true->RR t x cs-> ∀q∈cs,Zdv q=true
 | .i _,_,_,_,h,q,hq| .b,_,_,_,h,q,hq| .s,_,_,_,h,q,hq=>by simp only[RR]at h;subst h;rw[Xat.1 hq];rfl
 | .any,x,_,_,h,q,hq=>by simp only[RR]at h;subst h;rw[Xat.1 hq];cases x<;>rfl
 | .p a c,x,cs,j,h,q,hq=>by simp only[ZuL,Xah]at j;obtain⟨u,v,rfl,C,I⟩:=h;rcases XaJ.1 hq with hq|hq;exact ZmP j.1 C q hq;exact ZmP j.2 I q hq
def Zls {hp:List SM}: ∀ {l:List Nat} {j:Nat},ZsT hp l=true->j∈l-> ∃t x b,hp[j]? =some (.row t x b)
 |i::r,j,h,hj=>by simp only[ZsT]at h;split at h;rename_i C;rcases Xau.1 hj with rfl|hj;rw[ZaK]at C;exact⟨_,_,_,C⟩;exact Zls h hj;cases h
def ZCl {P:Program} {h:Hints} {f:FuncId} {qs:List PV} {v:PV} {H:List Mem} {V:SV} {Q:SV->List SM->Bool->Prop} (bm:(lim P h).rn f qs []=some (v,H)) (hh:RH φ hp (λa=>H[a]?)) (hv:RV φ V v) (hk:ZIY Q V hp) (base:Nat):
 ∃v rows sf φ V hp ay,Zdj (lim P h) f qs base=some (v,rows,sf)/\RV φ V v/\RH φ hp (λa=>if base<=a then rows[a-base]? else none)/\(ay=true->sf=true)/\Q V hp ay:=by
 obtain⟨V',hp',az,ao,hQ⟩:=hk;simp only[Xah]at ao;obtain⟨⟨⟨⟨⟨hlen,ad⟩,a1⟩,aq⟩,ag⟩,bn⟩:=ao;have hlen:=Xar hlen;obtain⟨ae,a6,a7⟩:=ZrQ hv;obtain⟨ψ,_,hs⟩:=az.out φ ⟨enterT 0 (Zbg v),H⟩ (Xap _) ⟨Zd2 ae,hh⟩;have a8:RL ψ (ZbS V') (Zbg v):=by refine Zk8 (by rw[<-hlen];exact ae.len) λi W hW=> ?_;obtain⟨q,R,h2⟩:=hs.tm i W (by have:=ZiF (ZbS V') 0 i;rw[Xak]at this;rw[this];exact hW);have C:=Zgb (Zbg v) 0 i;rw[Xak]at C;exact⟨q,by rw[<-C];exact R,h2⟩
 have ak:=hs.hp;obtain⟨ba,bb⟩:=Zrw a1 a8;have al:((enterT 0 (Zbg v)).flatMap λx=>Zb8 x.2)=(Zbg v).flatMap Zb8:=by have:=ZbD (Zbg v) 0;(conv=>rhs;rw[<-this]);rw[List.flatMap_map]
 obtain⟨ids,U⟩: ∃ids,ZFD (enterT 0 (Zbg v))=ids:=⟨_,rfl⟩;have af: ∀i,i∈ids<-> ∃id,id∈(ZbS V').flatMap ZBs/\ψ[id]? =some (some i):=by intro i;rw[<-bb i,<-U];unfold ZFD;rw[al];constructor;intro hm;rcases Zqs hm with hm|hm;simp at hm;exact hm;exact(Zcv _ [] List.nodup_nil).2.2 i
 have J: ∀i∈ids,∃ (j:Nat) (t:CT) (l:List t.D) (b:Bool) (es:List (List PV)) (I:Bool),hp'[j]? =some (.row t l b)/\ψ[j]? =some (some i)/\H[i]? =some (.row es t.w I)/\All2 (RR t) l es/\(b=true->I=true):=by intro i hi;obtain⟨j,R,h2⟩:=(af i).1 hi;obtain⟨t,l,b,hm⟩:=Zls bn R;have hr:=ak.row _ _ _ hm h2;simp only[RM]at hr;obtain⟨es,I,C,h4,h5⟩:=hr;exact⟨j,t,l,b,es,I,hm,h2,C,h4,h5⟩
 have aa: ∀i∈ids,ZmE H i=[]:=by intro i hi;obtain⟨j,t,l,b,es,I,_,_,C,h4,_⟩:=J i hi;rw[Znp,C,Zk6,Zfx (Zf6 h4 _ _).1]
 obtain⟨Hc,ar⟩: ∃Hc,Za4 (λi=>(H[i]?).bind λm=>if(okM m&&(ZmR m).all ids.contains)=true then some (Zns ids m)else none) ids=some Hc:=by
  have: ∀l:List Nat,(∀i∈l,i∈ids)-> ∃Hc,Za4 (λi=>(H[i]?).bind λm=>if(okM m&&(ZmR m).all ids.contains)=true then some (Zns ids m)else none) l=some Hc:=by intro l;induction l with|nil=>intro _;exact⟨[],rfl⟩|cons i r ih=>intro hl;obtain⟨Hr,hr⟩:=ih λx hx=>hl x (Xaj _ hx);obtain⟨j,t,l,b,es,I,_,_,C,h4,_⟩:=J i (hl i Xai);have hf:=(Zf6 h4 t.w I).1;refine⟨.row es t.w I::Hr, ?_⟩;rw[Zbh,hr,C];simp only[Xaa,Zmw hf,Zfx hf,List.all_nil,Bool.and_self,if_true,Zj6 hf]
  exact this ids λ_ h=>h
 have bc: ∀ (i:Nat) (es:List (List PV)) (z:Nat) (I:Bool),i∈ids->H[i]? =some (.row es z I)->Zgz (.row es z I)=true->Hc[pos i ids]? =some (.row es z I):=by intro i es z I hi C hf;rw[(Zm9 ar).2,ZfL hi];simp only[Xaa,C,Zmw hf,Zfx hf,List.all_nil,Bool.and_self,if_true,Zj6 hf]
 have ab: ∀m∈Hc,∃i∈ids,H[i]? =some m:=by intro m hm;obtain⟨i,hi,R⟩:=ZjJ ar m hm;refine⟨i,hi, ?_⟩;obtain⟨j,t,l,b,es,I,_,_,C,h4,_⟩:=J i hi;have hf:=(Zf6 h4 t.w I).1;rw[C]at R;simp only[Xaa,Zmw hf,Zfx hf,List.all_nil,Bool.and_self,if_true,Zj6 hf,Xaf]at R;rw[C,R]
 have au:Zer (enterT 0 (Zbg v)) H=some ⟨(enterT 0 (Zbg v)).map λx=>(x.1,ren ids x.2),Hc⟩:=by rw[ZkZ,U,ZeA aa,ZeA aa,ZeA aa];unfold ZnV;rw[if_pos ?_,ar];rfl;rw[Xaw];intro x hx;refine ba x.2 ?_;have:=Xbu (f:=λy:Nat×PV=>y.2) hx;rw[ZbD]at this;exact this
 obtain⟨ah,bf,an⟩:=Ztu (φ:=ψ) ids base a1 a8;have av:((enterT 0 (Zbg v)).map λx=>(x.1,ren ids x.2)).map (λy=>sh base y.2)=(Zbg v).map λq=>sh base (ren ids q):=by have:=ZbD (Zbg v) 0;rw[XbE];(conv=>rhs;rw[<-this]);rw[XbE];rfl
 have bg:((((enterT 0 (Zbg v)).map λx=>(x.1,ren ids x.2)).all λy=>ZbA y.2)&&Hc.all ZAV)=true:=by rw[Xah,Xaw,Xaw];refine⟨λy hy=> ?_,λm hm=> ?_⟩;obtain⟨x,hx,rfl⟩:=XaU.1 hy;refine bf x.2 ?_;have:=Xbu (f:=λy:Nat×PV=>y.2) hx;rw[ZbD]at this;exact this;obtain⟨i,hi,R⟩:=ab m hm;obtain⟨j,t,l,b,es,I,_,_,C,h4,_⟩:=J i hi;rw[R]at C;cases C;exact(Zf6 h4 _ _).2.1
 have bo:Hc.map (shM base)=Hc:=by(conv=>rhs;rw[<-List.map_id Hc]);refine Xbd λm hm=> ?_;obtain⟨i,hi,R⟩:=ab m hm;obtain⟨j,t,l,b,es,I,_,_,C,h4,_⟩:=J i hi;rw[R]at C;cases C;exact(Zf6 h4 _ _).2.2 base
 refine⟨Zhr v ((Zbg v).map λq=>sh base (ren ids q)),Hc,(((enterT 0 (Zbg v)).map λx=>(x.1,ren ids x.2)).all λy=>Zdv y.2)&&Hc.all ZnQ,ψ.map (Option.map λa=>base+pos a ids),V',hp',_, ?_, ?_,⟨by simp[ak.len], ?_, ?_⟩, ?_,hQ⟩;simp only[Zdj,bm,Xaa,au];rw[if_pos bg,av,bo];cases hn:ZbB V' with
  |true=>have aw:ZbB V=true:=(by rw[hn]at ad;cases h:ZbB V<;>simp[h]at ad|-);(have hp1:ZbS V'=[V']:=by cases V'<;>first|rfl|cases hn);rw[hp1]at ah;obtain⟨q,R,h2⟩:=RL1 ah;rw[R,a6 aw];exact h2
  |false=>
   have aw:ZbB V=false:=(by rw[hn]at ad;cases h:ZbB V<;>simp[h]at ad|-);rw[a7 aw];cases V'<;>first
    |cases hn
    |skip
   simp only[RV];exact⟨_,rfl,ah⟩
 intro j m o hm ho;by_cases hl:live m=true;obtain⟨t,l,b,rfl⟩:=Zhb aq hm hl;rw[XaC]at ho;obtain⟨o',ai,rfl⟩:=ZyD ho;have hr:=ak.row _ _ _ hm ai;have aj:=Zcd ag hm hl;rw[Xak]at aj;simp only[RM]at hr|-;cases o' with|none=>exact hr|some a=>obtain⟨es,I,C,h4,h5⟩:=hr;have ha:a∈ids:=(af a).2 ⟨j,aj,ai⟩;refine⟨es,I, ?_,h4,h5⟩;show(if base<=base+pos a ids then Hc[base+pos a ids-base]? else none)=_;rw[if_pos (by omega),show base+pos a ids-base=pos a ids from by omega];exact bc a es _ I ha C (Zf6 h4 _ _).1
 cases m with|dead=>trivial|_=>exact absurd rfl hl
 intro j j' m I a bp hm bh hl bj ho ai;rw[XaC]at ho ai;obtain⟨o,R,h2⟩:=ZyD ho;obtain⟨o',bk,bl⟩:=ZyD ai;cases o with|none=>cases h2|some x=>cases o' with|none=>cases bl|some x'=>simp only[Xal,Xaf]at h2 bl;have g:=Zcd ag hm hl;have g':=Zcd ag bh bj;rw[Xak]at g g';have e1:=ZfL ((af x).2 ⟨j,g,R⟩);have e2:=ZfL ((af x').2 ⟨j',g',bk⟩);rw[show pos x ids=pos x' ids from by omega]at e1;rw[e1]at e2;cases e2;exact ak.inj _ _ _ _ _ bp hm bh hl bj R bk
 intro ax;rw[Xah]at ax;rw[Xah,Xaw,Xaw];refine⟨λy hy=> ?_,λm hm=> ?_⟩;obtain⟨x,hx,rfl⟩:=XaU.1 hy;refine an ax.1 x.2 ?_;have:=Xbu (f:=λy:Nat×PV=>y.2) hx;rw[ZbD]at this;exact this;obtain⟨i,hi,R⟩:=ab m hm;obtain⟨j,t,l,b,es,I,h6,_,C,h4,_⟩:=J i hi;rw[R]at C;cases C;have hc:=ZmX ax.2 h6;simp only[ZnQ,Xaw];intro c bq q hq;obtain⟨x,_,hx⟩:=h4.mem bq;exact ZmP hc hx q hq
def Zzh {P:Program} {h:Hints} {T:TypeId->TI} (hT:TysOK P T) {f:FuncId} {fn:Func} {code:Code} {Vs:List SV} {Q:SV->List SM->Bool->Prop} (j:h.ok f=true) (hf:P.funcs[f]? =some fn) (C:fn.body=some code) (I:Vs.length<=fn.ntmps)
 (hw:wp P h T 0 ⟨f,0,fn.ntmps⟩ code (Zch 0 Vs) [] (ZnZ T fn.results.toList λV hp=>ZIY Q V hp)):ImpOK P h f Vs Q:=by refine⟨λqs J base=> ?_⟩;obtain⟨v,H',φ',V,hp',R,_,U,h4,h5⟩:=ZB3 (φ:=[]) (H:=[]) hT j hf C I hw (Xap _) RH.empty J;exact ZCl R U h4 h5 base
end
def Zad {P:Program} {h:Hints} {T:TypeId->TI} (hT:TysOK P T) {f:FuncId} {fn:Func} {Vs:List SV} {Q:SV->Prop} (hf:P.funcs[f]? =some fn)
 (hw:wp P h T 0 ⟨f,0,fn.ntmps⟩ (bodyOf fn) (Zch 0 Vs) [] (ZnZ T fn.results.toList λV hp=>ZdB hp 40 V Q))
 (j:h.ok f=true:=by kernel_rfl) (hp:h.prim f=none:=by exact rfl) (C:fn.body=some (bodyOf fn):=by kernel_rfl) (I:Vs.length<=fn.ntmps:=by exact Xao (by kernel_rfl)):PureOK P h f Vs Q:=
 ZkO hT j hp hf C I hw
end
end Go.Tx
