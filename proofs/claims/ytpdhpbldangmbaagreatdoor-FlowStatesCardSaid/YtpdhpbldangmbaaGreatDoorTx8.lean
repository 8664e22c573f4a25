/- The program logic: tables of types; results that are own memory. -/
import Derived.Test.YtpdhpbldangmbaaGreatDoorTx7
set_option linter.all false
namespace Go.Tx
noncomputable section
open Go.Am
def ZL0:TI:=⟨.other,0,0,[],none⟩
inductive Tr where
 |lf (k:Nat) (v:TI)
 |nd (k:Nat) (a b:Tr)
def Tr.find:Tr->Nat->TI
 | .lf k v,t=>match Nat.beq t k with
  |true=>v
  |false=>ZL0
 | .nd k a b,t=>match Nat.ble k t with
  |true=>b.find t
  |false=>a.find t
def Tr.all (p:Nat->TI->Bool):Tr->Bool
 | .lf k v=>p k v
 | .nd _ a b=>a.all p&&b.all p
def Tr.all_find {p:Nat->TI->Bool}: ∀ {tr:Tr},tr.all p=true-> ∀t,tr.find t=ZL0\/p t (tr.find t)=true
 | .lf k v,h,t=>by simp only[Tr.find];split;rename_i j;rw[Xay j];exact .inr h;exact .inl rfl
 | .nd k a b,h,t=>by simp only[Tr.all,Xas]at h;simp only[Tr.find];split;exact Tr.all_find h.2 t;exact Tr.all_find h.1 t
def zeq:SV->PV->Bool
 | .v (.i k) n, .int k' n'=>keq k k'&&(n==n')
 | .v .b b, .bool j=>b==j
 | .v .s s, .str C=>s.isEmpty&&Nat.beq C.size 0
 | .nils, .nils=>true
 | .nilp, .nilp=>true
 | .nilf, .nilf=>true
 | .nili, .nili=>true
 | .nilmp, .nilm=>true
 |_,_=>false
def ZKn:List SV->List PV->Bool
 | [],[]=>true
 |a::l,b::r=>zeq a b&&ZKn l r
 |_,_=>false
def ZmU {φ:Ph} {V:SV} {q:PV} (h:zeq V q=true):RV φ V q:=by
 unfold zeq at h;split at h<;>first
  |(simp[Xas,beq_iff_eq]at h;rw[Zg6 h.1,h.2];exact vi _ _)
  |(simp[beq_iff_eq]at h;rw[h];exact vb _)
  |(simp[RV];done)
  |(cases h;done)
  |skip
 rename_i s j;simp only[Xas,List.isEmpty_iff]at h;rw[h.1];have:j=⟨([]:List UInt8).toArray⟩:=by apply ByteArray.ext;simp_all
 rw[this];exact vs []
def Zyf {φ:Ph}: ∀ {l:List SV} {j:List PV},ZKn l j=true->RL φ l j
 | [],[],_=>by simp only[RL]
 |a::l,b::r,h=>by simp only[ZKn,Xas]at h;simp only[RL];exact⟨_,_,rfl,ZmU h.1,Zyf h.2⟩
def zct:(c:CT)->List PV->Bool
 | .p a c,cs=>zct a (cs.take a.w)&&zct c (cs.drop a.w)
 | .i k,cs=>match cs with
  | [q]=>zeq (.v (.i k) (0:Int)) q
  |_=>false
 | .b,cs=>match cs with
  | [q]=>zeq (.v .b false) q
  |_=>false
 | .s,cs=>match cs with
  | [q]=>zeq (.v .s []) q
  |_=>false
 | .l _,cs=>match cs with
  | [q]=>zeq .nils q
  |_=>false
 | .any,cs=>match cs with
  | [q]=>zeq .nili q
  |_=>false
def ZzU: ∀ {c:CT} {cs:List PV},zct c cs=true->RR c c.z cs
 | .p a c,cs,h=>by simp[zct,Xas]at h;exact⟨_,_,(Xbc a.w cs).symm,ZzU h.1,ZzU h.2⟩
 | .i k,cs,h=>by simp[zct]at h;split at h;have:=ZmU (φ:=[]) h;exact this;cases h
 | .b,cs,h=>by simp[zct]at h;split at h;have:=ZmU (φ:=[]) h;exact this;cases h
 | .s,cs,h=>by simp[zct]at h;split at h;have:=ZmU (φ:=[]) h;exact this;cases h
 | .any,cs,h=>by simp[zct]at h;split at h;have:=ZmU (φ:=[]) h;subst this;rfl;cases h
 | .l e,cs,h=>by simp[zct]at h;split at h;have:=ZmU (φ:=[]) h;subst this;exact .inl ⟨rfl,rfl⟩;cases h
def ZCO (P:Program):List (Nat×TypeId×Nat)->List Field->Bool
 | [],[]=>true
 |(off,t,n)::r,f::j=>Nat.beq off f.offset&&Nat.beq t f.type&&(match Zbi P t with|some m=>Nat.beq m n|none=>false)&&ZCO P r j
 |_,_=>false
theorem Zvk {P:Program}: ∀ {l:List (Nat×TypeId×Nat)} {j:List Field},ZCO P l j=true->(l.map λx=>(x.1,x.2.1))=j.map (λf=>(f.offset,f.type))/\ ∀x∈l,Zbi P x.2.1=some x.2.2
 | [],[],_=>⟨rfl,by simp⟩
 | [],_::_,h=>by cases h
 |_::_,[],h=>by cases h
 |(off,t,n)::r,f::j,h=>by simp only[ZCO,Xas]at h;obtain⟨⟨⟨I,J⟩,C⟩,R⟩:=h;have U:=Xay I;have e2:t=f.type:=Xay J;obtain⟨g1,g2⟩:=Zvk R;refine⟨by simp only[Xbm,g1,U,e2], ?_⟩;intro x hx;rcases XaF.1 hx with rfl|hx;split at C;rename_i m hm;rw[<-Xay C];exact hm;cases C;exact g2 x hx
def ZK4 (P:Program) (t:TypeId):TK->Bool
 | .int k=>match P.underlying t with|some (.int k')=>keq k k'|_=>false
 | .bool=>match P.underlying t with|some .bool=>true|_=>false
 | .str=>match P.underlying t with|some .string=>true|_=>false
 | .slice e=>match P.underlying t with|some (.slice j)=>Nat.beq e j|_=>false
 | .arr n e=>match P.underlying t with|some (.array n' j)=>Nat.beq n n'&&Nat.beq e j|_=>false
 | .struct C=>match P.underlying t with|some (.struct a)=>ZCO P C a.toList|_=>false
 | .ptr=>match P.underlying t with|some (.pointer _)=>true|_=>false
 | .func=>match P.underlying t with|some (.func _ _ _)=>true|_=>false
 | .smap=>match P.underlying t,Zjs P t with|some (.map _ e),some (.string,j)=>Nat.beq e j&&(match Zef P e with|some (.bool false)=>true|_=>false)|_,_=>false
 | .imap c=>match P.underlying t,Zjs P t with|some (.map _ e),some (.int .i64,j)=>Nat.beq e j&&(match c,Zef P e with| .b,some (.bool false)=>true| .i .i64,some (.int .i64 n)=>n==0|_,_=>false)|_,_=>false
 | .any=>match P.underlying t with|some (.interface _)=>true|_=>false
 | .other=>true
def ZG0 {P t k} (h:ZK4 P t k=true):KM P t k:=by
 cases k<;>simp[ZK4]at h<;>simp only[KM]<;>(try trivial)<;>(split at h<;>first|(cases h;done)|skip);grind [Zg6];rename_i hu;exact hu;rename_i hu;exact hu;simp_all;simp_all;grind [Zvk];grind;grind;rename_i hu C;simp only[Xas]at h;grind [Xay];rename_i hu C;simp only[Xas]at h;let⟨R,j⟩:=h
 have J:=Xay R;split at j;rename_i I;exact⟨_,_,_,hu,by rw[C,J],I,rfl⟩;rename_i n I;have j:n=0:=by simpa using j
 subst j;exact⟨_,_,_,hu,by rw[C,J],I,rfl⟩;cases j;rename_i hu;exact⟨_,hu⟩
def ZKZ (P:Program) (t:TypeId):TK->Bool
 | .int k=>match Zef P t with|some (.int k' n)=>keq k k'&&(n==0)|_=>false
 | .str=>match Zef P t with|some (.str s)=>Nat.beq s.size 0|_=>false
 |_=>true
def ZFD (P:Program) (t:TypeId) (i:TI):Bool:=
 (ZK4 P t i.k&&ZKZ P t i.k)&&(match Zbi P t with|some n=>Nat.beq n i.sz|none=>false)&&(match ZlH P t with|some n=>Nat.beq n i.by_|none=>false)&&
 (match Zek P t with|some zs=>ZKn i.zero zs&&Nat.beq zs.length i.sz&&(match i.ct with|some c=>Nat.beq c.w i.sz&&zct c zs|none=>true)|none=>false)
def ZDz {P:Program} {t:TypeId} {i:TI} (h:ZFD P t i=true):TIok P t i:=by
 simp[ZFD,Xas]at h;let⟨⟨⟨⟨h1,j⟩,U⟩,h3⟩,J⟩:=h
 split at U;·rename_i n hn;split at h3;(·rename_i m hm;split at J;(·rename_i zs hz;simp only[Xas]at J;(let⟨⟨h5,h6⟩,R⟩:=J);refine⟨ZG0 h1,by rw[hn,Xay U],by rw[hm,Xay h3],⟨zs,hz,λφ=>Zyf h5,Xay h6⟩, ?_, ?_, ?_⟩;(rotate_left 1);intro k hk;rw[hk]at j;simp[ZKZ]at j;split at j;rename_i k' n C;simp[Xas,beq_iff_eq]at j;grind [Zg6];cases j;intro hk;rw[hk]at j;simp[ZKZ]at j;split at j;rename_i s C;have e:s=⟨#[]⟩:=(by apply ByteArray.ext;exact Array.eq_empty_of_size_eq_zero (Xay j));rw[C,e];cases j;intro c hc;rw[hc]at R;simp only[Xas]at R;refine⟨Xay R.1,λaa I=> ?_⟩;rw[hz]at I;cases I;exact ZzU R.2);cases J);cases h3
 cases U
def ZIO {P:Program} {tr:Tr} (h:tr.all (ZFD P)=true):TysOK P tr.find:=by intro t;rcases Tr.all_find h t with h|h;left;rw[h];rfl;exact .inr (ZDz h)
def Zer:SV->List SV
 | .tup vs=>vs
 |V=> [V]
def Zyo {i:Nat}: ∀ {xs ids:List Nat},i∈xs.foldl Zcl ids->i∈ids\/i∈xs
 | [],ids,h=> .inl h
 |x::xs,ids,h=>by rcases Zyo (xs:=xs) h with h|h;unfold Zcl at h;split at h;exact .inl h;rcases XaO.1 h with h|h;exact .inl h;exact .inr (by rw[Xav.1 h];exact Xah);exact .inr (Xai _ h)
def ZdY {q} (h:Zeg q=true):ZhW q=true/\Zb1 q=true/\(∀b,sh b q=q)/\ZcP q=[]:=by
 cases q<;>simp[Zeg]at h<;>first
  |exact⟨rfl,rfl,λ_=>rfl,rfl⟩
  |(cases h;done)
section
variable {φ:Ph}
end
section
variable {φ:Ph} {hp:List SM}
def ZCx {V v} (I:RV φ V v):RL φ (Zer V) (Zcr v)/\(Zcd V=true-> ∀y,ZjX v [y]=y)/\(Zcd V=false-> ∀ys,ZjX v ys= .tup ys):=by
 have one:(∀vs,v≠ .tup vs)->Zer V=[V]->Zcd V=true->RL φ (Zer V) (Zcr v)/\(Zcd V=true-> ∀y,ZjX v [y]=y)/\(Zcd V=false-> ∀ys,ZjX v ys= .tup ys):=by
  intro C J R;have U:Zcr v=[v]:=by
   cases v<;>first
    |rfl
    |exact absurd rfl (C _)
  refine⟨?_,λ_ y=> ?_,λh=>by rw[R]at h;cases h⟩;rw[J,U];simp only[RL];grind;cases v<;>first
    |rfl
    |exact absurd rfl (C _)
 have j:=I;cases V<;>simp[RV]at j;case v t x=>
  have hp:=j.plain v sM
  exact one (λvs e=>by subst e;cases hp) rfl rfl
 case nilp=>subst j;exact one sM rfl rfl
 case nils=>subst j;exact one sM rfl rfl
 case nilf=>subst j;exact one sM rfl rfl
 case nili=>subst j;exact one sM rfl rfl
 case nilmp=>subst j;exact one sM rfl rfl
 case mp=>obtain⟨a,_,rfl⟩:=j;exact one sM rfl rfl
 case ref=>rcases j with⟨a,_,rfl⟩|⟨_,rfl,_⟩<;>exact one sM rfl rfl
 case ptr=>obtain⟨a,_,rfl⟩:=j;exact one sM rfl rfl
 case box=>obtain⟨a,rfl,_⟩:=j;exact one sM rfl rfl
 case func=>obtain⟨_,_,rfl,_⟩:=j;exact one sM rfl rfl
 case agg=>obtain⟨_,rfl,_⟩:=j;exact one sM rfl rfl
 case tup vs=>
  obtain⟨vs',rfl,h⟩:=j
  exact⟨h,λh=>by(cases h),λ_ ys=>rfl⟩
def ZmI: ∀ (l:List SV) (n i:Nat),ZbJ (n+i) (ZcQ n l)=l[i]?
 | [],n,i=>by simp[ZcQ,ZbJ]
 |V::r,n,0=>by simp_all [ZcQ,Zgq,Nat.add_zero,Nat.beq]
 |V::r,n,i+1=>by simp only[ZcQ,Zgq];have:Nat.beq (n+(i+1)) n=false:=(by cases j:Nat.beq (n+(i+1)) n with|true=>have:=Xay j;omega|false=>rfl);rw[this,cond_false,show n+(i+1)=(n+1)+i from by omega];exact ZmI r (n+1) i
def Zrl: ∀ {l:List SV} {j:List PV},l.length=j.length->(∀ (i:Nat) (V:SV),l[i]? =some V-> ∃q,j[i]? =some q/\RV φ V q)->RL φ l j
 | [],[],_,_=>by simp only[RL]
 |V::l,q::j,hl,h=>by simp only[RL];(let⟨R,C,I⟩:=h 0 V rfl);simp at C;subst C;exact⟨q,j,rfl,I,Zrl (by simpa using hl) λi W J=>by simpa using h (i+1) W (by simpa using J)⟩
end
def Zae {P:Program} {h:Hints} {T:TypeId->TI} (hT:TysOK P T) {f:FuncId} {fn:Func} {Vs:List SV} {Q:SV->Prop} (hf:P.funcs[f]? =some fn)
 (hw:wp P h T 0 ⟨f,0,fn.ntmps⟩ (bodyOf fn) (ZcQ 0 Vs) [] (ZjR T fn.results.toList λV hp=>ZbS hp 40 V Q))
 (j:h.ok f=true:=by kernel_rfl) (hp:h.prim f=none:=by exact rfl) (C:fn.body=some (bodyOf fn):=by kernel_rfl) (hn:Vs.length<=fn.ntmps:=by exact Xam (by kernel_rfl)):PureOK P h f Vs Q:=
 Zlx hT j hp hf C hn hw
section
variable {P:Program} {h:Hints} {T:TypeId->TI} {N:Nat} {ds:List (Option Tmp)} {o:Oper} {l:List Oper} {tm:TM} {hp:List SM} {k:TM->List SM->Prop} {j d dd:Nat} {w t:Bool} {V:SV}
def Zn7 (C:o.guard=some (j,w)) (hd:nth ds j=some (some d)) (I:ZbJ d tm=some (.v .b t)) (hw:t= !w) (ho:o.dst=some dd) (hN:Nat.ble (dd+1) N=true) (J:wpOps P h T N ds l ((dd, .tup [])::tm) hp k):wpOps P h T N ds (o::l) tm hp k:=by simp only[wpOps,C,hd,I];refine⟨λh=> ?_,λ_=> ?_⟩;rw[hw]at h;cases w<;>cases h;simp only[ZcX,ho,hN];exact J
def Zbq (C:o.guard=some (j,w)) (hd:nth ds j=some (some d)) (I:ZbJ d tm=some (.v .b t)) (hw:t=w) (J:opT P h T o.op tm hp λV hp'=>ZcX N o.dst V tm λtm'=>wpOps P h T N ds l tm' hp' k):wpOps P h T N ds (o::l) tm hp k:=by simp only[wpOps,C,hd,I];refine⟨λ_=>J,λh=> ?_⟩;rw[hw]at h;cases w<;>cases h
def Zag (j:o.guard=none) (C:opT P h T o.op tm hp λV hp'=>ZcX N o.dst V tm λtm'=>wpOps P h T N ds l tm' hp' k):wpOps P h T N ds (o::l) tm hp k:=by simp only[wpOps,j];exact C
def Zaf {dst:Option Tmp} {c:TM->Prop} (ho:dst=some dd) (hN:Nat.ble (dd+1) N=true) (j:c ((dd,V)::tm)):ZcX N dst V tm c:=by simp only[ZcX,ho,hN];exact j
def ZJY (C:o.guard=none) (he: ∀k,opT P h T o.op tm hp k=k V hp) (ho:o.dst=some dd) (hN:Nat.ble (dd+1) N=true) (j:wpOps P h T N ds l ((dd,V)::tm) hp k):wpOps P h T N ds (o::l) tm hp k:=by refine Zag C ?_;rw[he];have j:=Zaf (c:=λtm'=>wpOps P h T N ds l tm' hp k) (V:=V) (tm:=tm) ho hN j;exact j
def ZDX (I:o.guard=some (j,w)) (hd:nth ds j=some (some d)) (J:ZbJ d tm=some (.v .b t)) (hw:t=w) (he: ∀k,opT P h T o.op tm hp k=k V hp) (ho:o.dst=some dd) (hN:Nat.ble (dd+1) N=true) (C:wpOps P h T N ds l ((dd,V)::tm) hp k):wpOps P h T N ds (o::l) tm hp k:=by refine Zbq I hd J hw ?_;rw[he];have C:=Zaf (c:=λtm'=>wpOps P h T N ds l tm' hp k) (V:=V) (tm:=tm) ho hN C;exact C
def Zqd {C:Prop} (I:o.guard=none) (he: ∀k,opT P h T o.op tm hp k=(C/\k V hp)) (J:C) (ho:o.dst=some dd) (hN:Nat.ble (dd+1) N=true) (j:wpOps P h T N ds l ((dd,V)::tm) hp k):wpOps P h T N ds (o::l) tm hp k:=by refine Zag I ?_;rw[he];have j:=Zaf (c:=λtm'=>wpOps P h T N ds l tm' hp k) (V:=V) (tm:=tm) ho hN j;exact⟨J,j⟩
def Zk8 {C:Prop} (J:o.guard=some (j,w)) (hd:nth ds j=some (some d)) (R:ZbJ d tm=some (.v .b t)) (hw:t=w) (he: ∀k,opT P h T o.op tm hp k=(C/\k V hp)) (U:C) (ho:o.dst=some dd) (hN:Nat.ble (dd+1) N=true) (I:wpOps P h T N ds l ((dd,V)::tm) hp k):wpOps P h T N ds (o::l) tm hp k:=by refine Zbq J hd R hw ?_;rw[he];have I:=Zaf (c:=λtm'=>wpOps P h T N ds l tm' hp k) (V:=V) (tm:=tm) ho hN I;exact⟨U,I⟩
def ZBG {α:Type} {C:α->Prop} {W:α->SV} {x:α} (I:o.guard=none) (he: ∀k,opT P h T o.op tm hp k= ∃x,C x/\k (W x) hp) (J:C x) (ho:o.dst=some dd) (hN:Nat.ble (dd+1) N=true) (j:wpOps P h T N ds l ((dd,(W x))::tm) hp k):wpOps P h T N ds (o::l) tm hp k:=by refine Zag I ?_;rw[he];have j:=Zaf (c:=λtm'=>wpOps P h T N ds l tm' hp k) (V:=(W x)) (tm:=tm) ho hN j;exact⟨x,J,j⟩
def ZEK {α:Type} {C:α->Prop} {W:α->SV} {x:α} (J:o.guard=some (j,w)) (hd:nth ds j=some (some d)) (R:ZbJ d tm=some (.v .b t)) (hw:t=w) (he: ∀k,opT P h T o.op tm hp k= ∃x,C x/\k (W x) hp) (U:C x) (ho:o.dst=some dd) (hN:Nat.ble (dd+1) N=true) (I:wpOps P h T N ds l ((dd,(W x))::tm) hp k):wpOps P h T N ds (o::l) tm hp k:=by refine Zbq J hd R hw ?_;rw[he];have I:=Zaf (c:=λtm'=>wpOps P h T N ds l tm' hp k) (V:=(W x)) (tm:=tm) ho hN I;exact⟨x,U,I⟩
def Zsx {α:Type} {A:Prop} {C:α->Prop} {W:α->SV} {x:α} (I:o.guard=none) (he: ∀k,opT P h T o.op tm hp k= ∃x,A/\C x/\k (W x) hp) (J:A) (R:C x) (ho:o.dst=some dd) (hN:Nat.ble (dd+1) N=true) (j:wpOps P h T N ds l ((dd,(W x))::tm) hp k):wpOps P h T N ds (o::l) tm hp k:=by refine Zag I ?_;rw[he];have j:=Zaf (c:=λtm'=>wpOps P h T N ds l tm' hp k) (V:=(W x)) (tm:=tm) ho hN j;exact⟨x,J,R,j⟩
def Znn {α:Type} {A:Prop} {C:α->Prop} {W:α->SV} {x:α} (J:o.guard=some (j,w)) (hd:nth ds j=some (some d)) (R:ZbJ d tm=some (.v .b t)) (hw:t=w) (he: ∀k,opT P h T o.op tm hp k= ∃x,A/\C x/\k (W x) hp) (U:A) (hc:C x) (ho:o.dst=some dd) (hN:Nat.ble (dd+1) N=true) (I:wpOps P h T N ds l ((dd,(W x))::tm) hp k):wpOps P h T N ds (o::l) tm hp k:=by refine Zbq J hd R hw ?_;rw[he];have I:=Zaf (c:=λtm'=>wpOps P h T N ds l tm' hp k) (V:=(W x)) (tm:=tm) ho hN I;exact⟨x,U,hc,I⟩
def ZEy {c a b:Operand} (I:o.guard=none) (j:o.op= .pick c a b) (J:evS tm c=some (.v .b t)) (R:t=true) (U:evS tm a=some V) (ho:o.dst=some dd) (hN:Nat.ble (dd+1) N=true) (C:wpOps P h T N ds l ((dd,V)::tm) hp k):wpOps P h T N ds (o::l) tm hp k:=by refine Zag I ?_;rw[j];have C:=Zaf (c:=λtm'=>wpOps P h T N ds l tm' hp k) (V:=V) (tm:=tm) ho hN C;subst R;simp[opT,J,U];exact C
def ZDU {c a b:Operand} (I:o.guard=none) (j:o.op= .pick c a b) (J:evS tm c=some (.v .b t)) (R:t=false) (U:evS tm b=some V) (ho:o.dst=some dd) (hN:Nat.ble (dd+1) N=true) (C:wpOps P h T N ds l ((dd,V)::tm) hp k):wpOps P h T N ds (o::l) tm hp k:=by refine Zag I ?_;rw[j];have C:=Zaf (c:=λtm'=>wpOps P h T N ds l tm' hp k) (V:=V) (tm:=tm) ho hN C;subst R;simp[opT,J,U];exact C
def Zqe {F:Nat} {c:Cx} {b:Code} {tm:TM} {hp:List SM} {k:Ex->TM->List SM->Prop} (hp':List SM) (he:hp=hp') (j:wp P h T F c b tm hp' k):wp P h T F c b tm hp k:=he▸j
def Zpw (C:o.guard=some (j,w)) (hd:nth ds j=some (some d)) (I:ZbJ d tm=some (.tup [])) (ho:o.dst=some dd) (hN:Nat.ble (dd+1) N=true) (J:wpOps P h T N ds l ((dd, .tup [])::tm) hp k):wpOps P h T N ds (o::l) tm hp k:=by simp only[wpOps,C,hd,I,ZcX,ho,hN];exact J
def ZET {c a b:Operand} {R:Bool} (U:o.guard=some (j,w)) (hd:nth ds j=some (some d)) (C:ZbJ d tm=some (.v .b R)) (hw:R=w) (I:o.op= .pick c a b) (hc:evS tm c=some (.v .b t)) (ht:t=true) (ha:evS tm a=some V) (ho:o.dst=some dd) (hN:Nat.ble (dd+1) N=true) (J:wpOps P h T N ds l ((dd,V)::tm) hp k):wpOps P h T N ds (o::l) tm hp k:=by refine Zbq U hd C hw ?_;rw[I];have J:=Zaf (c:=λtm'=>wpOps P h T N ds l tm' hp k) (V:=V) (tm:=tm) ho hN J;subst ht;simp[opT,hc,ha];exact J
def ZFv {c a b:Operand} {R:Bool} (U:o.guard=some (j,w)) (hd:nth ds j=some (some d)) (C:ZbJ d tm=some (.v .b R)) (hw:R=w) (I:o.op= .pick c a b) (hc:evS tm c=some (.v .b t)) (ht:t=false) (ha:evS tm b=some V) (ho:o.dst=some dd) (hN:Nat.ble (dd+1) N=true) (J:wpOps P h T N ds l ((dd,V)::tm) hp k):wpOps P h T N ds (o::l) tm hp k:=by refine Zbq U hd C hw ?_;rw[I];have J:=Zaf (c:=λtm'=>wpOps P h T N ds l tm' hp k) (V:=V) (tm:=tm) ho hN J;subst ht;simp[opT,hc,ha];exact J
def ZlX {F:Nat} {c:Cx} {id:Nat} {b:Code} {k:Ex->TM->List SM->Prop} (j:h.keepB c.fid id=none) (C:wp P h T F c b tm hp (ZAP id k)):wp P h T F c (.block id b) tm hp k:=by simp only[wp,j];exact C
def Zlr (j:k tm hp):wpOps P h T N ds [] tm hp k:=j
def Za8 {F:Nat} {c:Cx} {a b:Code} {k:Ex->TM->List SM->Prop} (j:wp P h T F c a tm hp (ZHB k λtm' hp'=>wp P h T F c b tm' hp' k)):wp P h T F c (.seq a b) tm hp k:=j
def Zby {F:Nat} {c:Cx} {id:Nat} {ops:Array Oper} {C:Bool} {k:Ex->TM->List SM->Prop} (hl:h.light c.fid id=[]) (I:wpOps P h T c.N (ZIU ops.toList) ops.toList tm hp λtm' hp'=>k .normal tm' hp') (j:h.perm c.fid id=[]:=by rfl):wp P h T F c (.region id ops C) tm hp k:=by simp only[wp,wpR,hl,j];exact I
end
section
variable {P:Program} {h:Hints} {T:TypeId->TI} {N:Nat} {ds:List (Option Tmp)} {o:Oper} {l:List Oper} {tm:TM} {hp:List SM} {k:TM->List SM->Prop} {j d dd:Nat} {w w' t:Bool} {V:SV}
def Zl9 (j:wpOps P h T N ds l ((dd,V)::tm) hp k) (C:o.guard=none:=by exact rfl) (he: ∀k,opT P h T o.op tm hp k=k V hp:=by exact λ_=>rfl) (ho:o.dst=some dd:=by exact rfl) (hN:Nat.ble (dd+1) N=true:=by exact rfl):wpOps P h T N ds (o::l) tm hp k:=ZJY C he ho hN j
def Zf8 (hw:t=w) (C:wpOps P h T N ds l ((dd,V)::tm) hp k) (I:o.guard=some (j,w):=by exact rfl) (hd:nth ds j=some (some d):=by exact rfl) (J:ZbJ d tm=some (.v .b t):=by exact rfl) (he: ∀k,opT P h T o.op tm hp k=k V hp:=by exact λ_=>rfl) (ho:o.dst=some dd:=by exact rfl) (hN:Nat.ble (dd+1) N=true:=by exact rfl):wpOps P h T N ds (o::l) tm hp k:=ZDX I hd J hw he ho hN C
def ZEo (hw:t=w') (C:wpOps P h T N ds l ((dd, .tup [])::tm) hp k) (I:o.guard=some (j,w):=by exact rfl) (hd:nth ds j=some (some d):=by exact rfl) (J:ZbJ d tm=some (.v .b t):=by exact rfl) (hn:w'= !w:=by exact rfl) (ho:o.dst=some dd:=by exact rfl) (hN:Nat.ble (dd+1) N=true:=by exact rfl):wpOps P h T N ds (o::l) tm hp k:=Zn7 I hd J (hw.trans hn) ho hN C
def ZDj {c a b:Operand} (C:t=true) (I:wpOps P h T N ds l ((dd,V)::tm) hp k) (J:o.guard=none:=by exact rfl) (j:o.op= .pick c a b:=by exact rfl) (R:evS tm c=some (.v .b t):=by exact rfl) (U:evS tm a=some V:=by exact rfl) (ho:o.dst=some dd:=by exact rfl) (hN:Nat.ble (dd+1) N=true:=by exact rfl):wpOps P h T N ds (o::l) tm hp k:=ZEy J j R C U ho hN I
def ZGs {c a b:Operand} (C:t=false) (I:wpOps P h T N ds l ((dd,V)::tm) hp k) (J:o.guard=none:=by exact rfl) (j:o.op= .pick c a b:=by exact rfl) (R:evS tm c=some (.v .b t):=by exact rfl) (U:evS tm b=some V:=by exact rfl) (ho:o.dst=some dd:=by exact rfl) (hN:Nat.ble (dd+1) N=true:=by exact rfl):wpOps P h T N ds (o::l) tm hp k:=ZDU J j R C U ho hN I
def brT {s t:Bool} {A B:Prop} (h:s=true) (k:A) (e:s=true->t=true:=by first|with_reducible exact λh=>h|exact λ_=>rfl|exact λh=>h):(t=true->A)/\(t=false->B):=⟨λ_=>k,λj=>by rw[e h]at j;cases j⟩
def brF {s t:Bool} {A B:Prop} (h:s=false) (k:B) (e:s=false->t=false:=by first|with_reducible exact λh=>h|exact λ_=>rfl|exact λh=>h):(t=true->A)/\(t=false->B):=⟨λj=>(by rw[e h]at j;cases j),λ_=>k⟩
end
section
variable {P:Program} {h:Hints} {T:TypeId->TI} {tm:TM} {hp:List SM} {F:Nat}
def Zeq {k:Ex->TM->List SM->Prop} {n:TM->List SM->Prop} (hn:n tm hp):ZHB k n .normal tm hp:=hn
def ZcH {id:Nat} {k:Ex->TM->List SM->Prop} (hn:k .normal tm hp):ZAP id k .normal tm hp:=hn
def ZkH {c:Cx} {k:Ex->TM->List SM->Prop} (hn:k .normal tm hp):wp P h T F c .skip tm hp k:=hn
variable {N:Nat} {ds:List (Option Tmp)} {o:Oper} {l:List Oper} {kk:TM->List SM->Prop} {j d dd:Nat} {w t:Bool} {V:SV}
def ZIb {hp':List SM} (C:o.guard=none) (he: ∀k,opT P h T o.op tm hp k=k V hp') (ho:o.dst=some dd) (hN:Nat.ble (dd+1) N=true) (j:wpOps P h T N ds l ((dd,V)::tm) hp' kk):wpOps P h T N ds (o::l) tm hp kk:=by refine Zag C ?_;rw[he];have j:=Zaf (c:=λtm'=>wpOps P h T N ds l tm' hp' kk) (V:=V) (tm:=tm) ho hN j;exact j
def ZJW {hp':List SM} (I:o.guard=some (j,w)) (hd:nth ds j=some (some d)) (J:ZbJ d tm=some (.v .b t)) (hw:t=w) (he: ∀k,opT P h T o.op tm hp k=k V hp') (ho:o.dst=some dd) (hN:Nat.ble (dd+1) N=true) (C:wpOps P h T N ds l ((dd,V)::tm) hp' kk):wpOps P h T N ds (o::l) tm hp kk:=by refine Zbq I hd J hw ?_;rw[he];have C:=Zaf (c:=λtm'=>wpOps P h T N ds l tm' hp' kk) (V:=V) (tm:=tm) ho hN C;exact C
def ZL9 {hp':List SM} (j:wpOps P h T N ds l ((dd,V)::tm) hp' kk) (C:o.guard=none:=by exact rfl) (he: ∀k,opT P h T o.op tm hp k=k V hp':=by exact λ_=>rfl) (ho:o.dst=some dd:=by exact rfl) (hN:Nat.ble (dd+1) N=true:=by exact rfl):wpOps P h T N ds (o::l) tm hp kk:=ZIb C he ho hN j
end
def ZHG {p q:Prop} (h:q) (k:q->p:=by
 intro h;repeat (first|refine ZkH ?_|refine Zeq ?_|refine ZcH ?_)
 first|((repeat first|with_reducible refine Za8 ?_|((with_reducible refine ZlX ?_ ?_);rfl));exact Zby rfl h)|exact Za8 (Zby rfl h)|exact Za8 (Za8 (Zby rfl h))):p:=k h
def Zg0 {p q:Prop} (h:q) (k:q->p:=by
 intro h;refine Zlr ?_;repeat (first|refine Zeq ?_|refine ZcH ?_)
 exact h):p:=k h
structure Hid (q:Prop):Prop where
 out:q
def ZLT:Op->Bool
 | .call c=>match c.callee with
  | .value (.func _)=>true
  |_=>false
 |_=>false
section
variable {P:Program} {h:Hints} {T:TypeId->TI} {N:Nat} {ds:List (Option Tmp)} {o:Oper} {l:List Oper} {tm:TM} {hp:List SM} {k:TM->List SM->Prop} {j d:Nat} {w t:Bool}
def ZIW (_:ZLT o.op=true) (j:o.guard=none) (C:opT P h T o.op tm hp λV hp'=>ZcX N o.dst V tm λtm'=>wpOps P h T N ds l tm' hp' k):wpOps P h T N ds (o::l) tm hp k:=Zag j C
def Ztz (j:Hid (k tm hp)):wpOps P h T N ds [] tm hp k:=j.out
def ZE2 (_:ZLT o.op=true) (C:o.guard=some (j,w)) (hd:nth ds j=some (some d)) (I:ZbJ d tm=some (.v .b t)) (hw:t=w) (J:opT P h T o.op tm hp λV hp'=>ZcX N o.dst V tm λtm'=>wpOps P h T N ds l tm' hp' k):wpOps P h T N ds (o::l) tm hp k:=Zbq C hd I hw J
end
def auM {p q:Prop} (h:q) (k:Hid q->p:=by
 intro j;repeat (first
  |with_reducible refine Ztz ?_
  |(refine ZIW rfl rfl (PureOK.mono (by assumption) ?_);rintro _ rfl;refine Zaf rfl rfl ?_)
  |refine ZJY rfl (λ_=>rfl) rfl rfl ?_
  |refine Zpw rfl rfl rfl rfl rfl ?_
  |refine Zn7 rfl rfl rfl (by first|rfl|assumption) rfl rfl ?_
  |(refine ZE2 rfl rfl rfl rfl (by first|rfl|assumption) (PureOK.mono (by assumption) ?_);rintro _ rfl;refine Zaf rfl rfl ?_)
  |refine ZDX rfl rfl rfl (by first|rfl|assumption) (λ_=>rfl) rfl rfl ?_
  |refine ZEy rfl rfl rfl (by first|rfl|assumption) rfl rfl rfl ?_
  |refine ZDU rfl rfl rfl (by first|rfl|assumption) rfl rfl rfl ?_
  |refine Zqd rfl (λ_=>rfl) rfl rfl rfl ?_
  |refine Zsx rfl (λ_=>rfl) (by first|exact XaG _|exact Xby 0) (by assumption) rfl rfl ?_
  |refine ZIb rfl (λ_=>rfl) rfl rfl ?_
  |refine Zk8 rfl rfl rfl (by first|rfl|assumption) (λ_=>rfl) rfl rfl rfl ?_
  |refine Znn rfl rfl rfl (by first|rfl|assumption) (λ_=>rfl) (by first|exact XaG _|exact Xby 0) (by assumption) rfl rfl ?_
  |refine ZET rfl rfl rfl (by first|rfl|assumption) rfl rfl (by first|rfl|assumption) rfl rfl rfl ?_
  |refine ZFv rfl rfl rfl (by first|rfl|assumption) rfl rfl (by first|rfl|assumption) rfl rfl rfl ?_
  |refine ZJW rfl rfl rfl (by first|rfl|assumption) (λ_=>rfl) rfl rfl ?_)
 exact j.out):p:=k ⟨h⟩
def auN {p q:Prop} (h:q) (k:Hid q->p:=by
 intro j;refine auM ?_;refine Hid.mk ?_;repeat (first|refine Zeq ?_|refine ZcH ?_)
 exact j.out):p:=k ⟨h⟩
def auH {p q:Prop} (h:q) (k:Hid q->p:=by intro j;refine ZHG ?_;refine auM ?_;exact j.out):p:=k ⟨h⟩
def auG {p q:Prop} (h:q) (k:Hid q->p:=by intro j;refine ZHG ?_;refine auN ?_;exact j.out):p:=k ⟨h⟩
mutual
theorem Zsq {φ:Ph} {n:Nat}: ∀ (V:SV) (q:PV),(∀id∈ZdS V,id<n)->RV φ V q->RV (φ.take n) V q
 | .v _ _,_,_,h| .nilp,_,_,h| .nils,_,_,h| .nilf,_,_,h| .nili,_,_,h| .nilmp,_,_,h| .box _ _ _,_,_,h=>by simpa only[RV]using h
 | .ref id i m mm,q,j,h=>by have hid:=j id (by simp[ZdS]);simp only[RV]at h|-;rw[XbS hid];exact h
 | .ptr id i r,q,j,h=>by have hid:=j id (by simp[ZdS]);simp only[RV]at h|-;rw[XbS hid];exact h
 | .func f a c,q,j,h=>by simp only[ZdS,XaO]at j;simp only[RV]at h|-;obtain⟨R,U,I,J,h3⟩:=h;exact⟨R,U,I,RL_take a R (λid hi=>j id (.inl hi)) J,RL_take c U (λid hi=>j id (.inr hi)) h3⟩
 | .agg cs,q,j,h=>by simp only[ZdS]at j;simp only[RV]at h|-;obtain⟨C,I,J⟩:=h;exact⟨C,I,RL_take cs C j J⟩
 | .tup cs,q,j,h=>by simp only[ZdS]at j;simp only[RV]at h|-;obtain⟨C,I,J⟩:=h;exact⟨C,I,RL_take cs C j J⟩
 | .mp id,q,j,h=>by have hid:=j id (by simp[ZdS]);simp only[RV]at h|-;rw[XbS hid];exact h
theorem RL_take {φ:Ph} {n:Nat}: ∀ (l:List SV) (j:List PV),(∀id∈rchL l,id<n)->RL φ l j->RL (φ.take n) l j
 | [],_,_,h=>by simpa only[RL]using h
 |v::vs,j,C,h=>by simp only[rchL,XaO]at C;simp only[RL]at h|-;obtain⟨q,r,I,J,R⟩:=h;exact⟨q,r,I,Zsq v q (λid hi=>C id (.inl hi)) J,RL_take vs r (λid hi=>C id (.inr hi)) R⟩
end
def Zd0:SM->List Nat
 | .cell cs _=>rchL cs
 | .many _ j _=>rchL j
 |_=> []
def Zqi {φ n}: ∀ {j:List SV} {es:List (List PV)},(∀id∈rchL j,id<n)->All2 (λV c=> ∃q,c=[q]/\RV φ V q) j es->All2 (λV c=> ∃q,c=[q]/\RV (φ.take n) V q) j es
 | [],[],_,_=>trivial
 |V::j,c::es,C,h=>by simp[rchL,XaO]at C;(let⟨⟨q,I,J⟩,R⟩:=h);exact⟨⟨q,I,Zsq V q (λid hi=>C id (.inl hi)) J⟩,Zqi (λid hi=>C id (.inr hi)) R⟩
theorem ZHg {φ n L o sm} (U: ∀id∈Zd0 sm,id<n) (h:RM φ L o sm):RM (φ.take n) L o sm:=by cases sm with|row t l m=>simpa only[RM]using h|cell cs m=>(let⟨a,j,C,I,J,R,h4⟩:=h);exact⟨a,j,C,I,J,RL_take cs j U R,h4⟩|many ct aa m=>(cases o with|none=>exact h|some a=>(let⟨es,C,I,J,R⟩:=h);exact⟨es,C,I,Zqi U J,R⟩)|set ks=>simpa only[RM]using h|im t ks=>simpa only[RM]using h|dead=>trivial
def ZxX (n:Nat) (tm:TM):TM->Prop
 | []=>True
 |(i,V')::r=>ZbJ i tm=some V'/\(∀id∈ZdS V',id<n)/\ZxX n tm r
def Ztk {n tm}: ∀ {tm':TM} {i:Nat} {V:SV},ZxX n tm tm'->ZbJ i tm'=some V->ZbJ i tm=some V/\ ∀id∈ZdS V,id<n
 | [],_,_,_,h=>by cases h
 |(j,W)::r,i,V,C,h=>by(let⟨R,U,I⟩:=C);simp only[ZbJ]at h;cases J:Nat.beq i j with|true=>simp_all|false=>rw[J]at h;exact Ztk I h
def Zep {F tm tm' hp0 ex} (hF:F<=hp0.length) (R:ZxX hp0.length tm tm') (ae: ∀m∈hp0,∀id∈Zd0 m,id<hp0.length):Ent F tm (hp0++ex) tm' hp0:=by
 refine⟨λφ st _ I=> ?_⟩;have hlen:=I.hp.len;rw[Xal]at hlen;refine⟨φ.take hp0.length,λid hid=>by rw[XbS oM], ?_, ?_⟩;intro i V hi;let⟨J,U⟩:=Ztk R hi
 let⟨q,h3,h4⟩:=I.tm i V J
 grind [Zsq];refine⟨by rw[Xaz];omega, ?_, ?_⟩;intro id sm o C ho;have hid:=(Xaf.1 C).1;rw[XbS hid]at ho;have hm:=I.hp.row id sm o (by rw[Xan hid];exact C) ho;grind [ZHg,List.mem_of_getElem];intro id aa sm ab a ad J U h3 h4 h5 h6;have hid:=(Xaf.1 J).1;have j:=(Xaf.1 U).1;rw[XbS hid]at h5;rw[XbS j]at h6;exact I.hp.inj id aa sm ab a ad (by rw[Xan hid];exact J) (by rw[Xan j];exact U) h3 h4 h5 h6
def Ent.eqs {F tm tm' hp hp0 hp'} (j:hp=hp0) (h:Ent F tm hp0 tm' hp'):Ent F tm hp tm' hp':=j▸h
mutual
def rnV (f:Nat->Nat):SV->SV
 | .ref id i n m=> .ref (f id) i n m
 | .ptr id i r=> .ptr (f id) i r
 | .func g a c=> .func g (rnL f a) (rnL f c)
 | .agg cs=> .agg (rnL f cs)
 | .tup vs=> .tup (rnL f vs)
 | .v t x=> .v t x
 | .nilp=> .nilp
 | .nils=> .nils
 | .nilf=> .nilf
 | .nili=> .nili
 | .nilmp=> .nilmp
 | .box t x r=> .box t x r
 | .mp id=> .mp (f id)
def rnL (f:Nat->Nat):List SV->List SV
 | []=> []
 |v::r=>rnV f v::rnL f r
end
def rnM (f:Nat->Nat):SM->SM
 | .row t l m=> .row t l m
 | .cell cs m=> .cell (rnL f cs) m
 | .many ct j m=> .many ct (rnL f j) m
 | .set ks=> .set ks
 | .im t ks=> .im t ks
 | .dead=> .dead
mutual
theorem Zy6 {φ U:Ph} {f:Nat->Nat} {n:Nat} (h: ∀id,id<n->U[id]? =φ[f id]?): ∀ (V:SV) (q:PV),(∀id∈ZdS V,id<n)->RV φ (rnV f V) q->RV U V q
 | .v _ _,_,_,j| .nilp,_,_,j| .nils,_,_,j| .nilf,_,_,j| .nili,_,_,j| .nilmp,_,_,j| .box _ _ _,_,_,j=>by simpa only[rnV,RV]using j
 | .ref id i m mm,q,C,j=>by have hid:=C id (by simp[ZdS]);simp only[rnV,RV]at j|-;rw[h id hid];exact j
 | .ptr id i r,q,C,j=>by have hid:=C id (by simp[ZdS]);simp only[rnV,RV]at j|-;rw[h id hid];exact j
 | .func g a c,q,C,j=>by simp only[ZdS,XaO]at C;simp only[rnV,RV]at j|-;obtain⟨a',c',J,R,h3⟩:=j;exact⟨a',c',J,RL_map h a a' (λid hi=>C id (.inl hi)) R,RL_map h c c' (λid hi=>C id (.inr hi)) h3⟩
 | .agg cs,q,C,j=>by simp only[ZdS]at C;simp only[rnV,RV]at j|-;obtain⟨I,J,R⟩:=j;exact⟨I,J,RL_map h cs I C R⟩
 | .tup cs,q,C,j=>by simp only[ZdS]at C;simp only[rnV,RV]at j|-;obtain⟨I,J,R⟩:=j;exact⟨I,J,RL_map h cs I C R⟩
 | .mp id,q,C,j=>by have hid:=C id (by simp[ZdS]);simp only[rnV,RV]at j|-;rw[h id hid];exact j
theorem RL_map {φ J:Ph} {f:Nat->Nat} {n:Nat} (h: ∀id,id<n->J[id]? =φ[f id]?): ∀ (l:List SV) (C:List PV),(∀id∈rchL l,id<n)->RL φ (rnL f l) C->RL J l C
 | [],_,_,j=>by simpa only[rnL,RL]using j
 |v::vs,C,I,j=>by simp only[rchL,XaO]at I;simp only[rnL,RL]at j|-;obtain⟨q,r,R,U,h3⟩:=j;exact⟨q,r,R,Zy6 h v q (λid hi=>I id (.inl hi)) U,RL_map h vs r (λid hi=>I id (.inr hi)) h3⟩
end
def Zvl {φ J f n} (h: ∀id,id<n->J[id]? =φ[f id]?): ∀ {j:List SV} {es:List (List PV)},(∀id∈rchL j,id<n)->All2 (λV c=> ∃q,c=[q]/\RV φ V q) (rnL f j) es->All2 (λV c=> ∃q,c=[q]/\RV J V q) j es
 | [],[],_,_=>trivial
 | [],_::_,_,C=>C.elim
 |V::j,c::es,I,C=>by simp[rchL,XaO]at I;(let⟨⟨q,R,U⟩,h3⟩:=C);exact⟨⟨q,R,Zy6 h V q (λid hi=>I id (.inl hi)) U⟩,Zvl h (λid hi=>I id (.inr hi)) h3⟩
def ZHZ {φ ψ f n} (h: ∀id,id<n->ψ[id]? =φ[f id]?) {L o sm} (hb: ∀id∈Zd0 sm,id<n) (j:RM φ L o (rnM f sm)):RM ψ L o sm:=by cases sm with|row t l m=>simpa only[rnM,RM]using j|cell cs m=>(let⟨a,C,I,J,R,U,h4⟩:=j);exact⟨a,C,I,J,R,RL_map h cs C hb U,h4⟩|many ct aa m=>(simp only[rnM,RM]at j|-;cases o with|none=>(cases aa with|nil=>rfl|cons v r=>simp[rnL]at j)|some a=>(let⟨es,I,J,R,U⟩:=j);exact⟨es,I,J,Zvl h hb R,U⟩)|set ks=>simpa only[rnM,RM]using j|im t ks=>simpa only[rnM,RM]using j|dead=>trivial
def ZrG (f:Nat->Nat) (n:Nat) (tm:TM):TM->Prop
 | []=>True
 |(i,V')::r=>ZbJ i tm=some (rnV f V')/\(∀id∈ZdS V',id<n)/\ZrG f n tm r
def ZtZ {f n tm}: ∀ {tm':TM} {i:Nat} {V:SV},ZrG f n tm tm'->ZbJ i tm'=some V->ZbJ i tm=some (rnV f V)/\ ∀id∈ZdS V,id<n
 | [],_,_,_,h=>by cases h
 |(j,W)::r,i,V,C,h=>by(let⟨R,U,I⟩:=C);simp only[ZbJ]at h;cases J:Nat.beq i j with|true=>simp_all|false=>rw[J]at h;exact ZtZ I h
def ZdZ {F tm tm' hp hp'} f (hF:F<=hp'.length) (hFf: ∀j,j<F->f j=j) (hf: ∀j,j<hp'.length->f j<hp.length)
 (aa: ∀i j,i<hp'.length->j<hp'.length->f i=f j->i=j) (ae:ZrG f hp'.length tm tm')
 (I: ∀j m,hp'[j]? =some m->m= .dead\/(hp[f j]? =some (rnM f m)/\ ∀id∈Zd0 m,id<hp'.length)):Ent F tm hp tm' hp':=by
 refine⟨λφ st ah hs=> ?_⟩;have hlen:=hs.hp.len;let ψ:=(List.range hp'.length).map λj=>(φ[f j]?).getD none
 have C: ∀id,id<hp'.length->ψ[id]? =φ[f id]? :=by grind
 refine⟨ψ,λid hid=>by rw[C id (XaW hid hF),hFf id hid], ?_, ?_⟩;intro i V hi;let⟨R,U⟩:=ZtZ ae hi
 let⟨q,h3,h4⟩:=hs.tm i _ R
 exact⟨q,h3,Zy6 C V q U h4⟩;refine⟨by simp[ψ], ?_, ?_⟩;intro id sm o ab ho;have hid:=(Xaf.1 ab).1;rw[C id hid]at ho;rcases I id sm ab with rfl|⟨R,U⟩;trivial;exact ZHZ C U (hs.hp.row _ _ _ R ho);intro id ad sm af a ag R U h3 h4 h5 h6;have hid:=(Xaf.1 R).1;have J:=(Xaf.1 U).1;rw[C id hid]at h5;rw[C ad J]at h6;have lv: ∀m,live m=true->live (rnM f m)=true:=λm hm=>by cases m<;>first|rfl|cases hm
 rcases I id sm R with rfl|⟨g1,_⟩;cases h3;rcases I ad af U with rfl|⟨g2,_⟩;cases h4;exact hs.hp.inj _ _ _ _ a (λe=>ag (aa _ _ hid J e)) g1 g2 (lv _ h3) (lv _ h4) h5 h6
section
variable {P:Program} {h:Hints} {T:TypeId->TI} {hp:List SM} {tm:TM}
theorem Zd7: ∀e:CT,ceq e e=true
 | .i k=>by cases k<;>rfl
 | .b=>rfl
 | .s=>rfl
 | .any=>rfl
 | .l e=>Zd7 e
 | .p a b=>by simp[ceq,Zd7 a,Zd7 b,Bool.and_true]
def Zax {α:Type}:Nat->List (List α)->List SV
 |_,[]=> []
 |p,x::r=> .ref p 0 x.length none::Zax (p+1) r
def ZaP (ct:CT) (xs:List (List ct.D)):List SM:=xs.map λx=> .row ct x true
theorem Zaw {α:Type}: ∀ (p:Nat) (xs:List (List α)),(Zax p xs).length=xs.length
 |_,[]=>rfl
 |p,x::r=>by rw[Zax,Xao,Zaw,Xao]
theorem ZbF {α:Type}: ∀ {p:Nat} {xs:List (List α)} {i:Nat} (hi:i<xs.length),(Zax p xs)[i]? =some (.ref (i+p) 0 xs[i].length none)
 |p,x::r,0,_=>by rw[Xag];rfl
 |p,x::r,i+1,hi=>by have:=ZbF (p:=p+1) (Nat.lt_of_succ_lt_succ hi);rw[Zax,XaV,this];grind
theorem Zal {ct:CT} (xs:List (List ct.D)):(ZaP ct xs).length=xs.length:=Xar _
def Zb3 {ct:CT} {xs:List (List ct.D)} {i:Nat} (hi:i<xs.length):(ZaP ct xs)[i]? =some (.row ct xs[i] true):=by rw[ZaP,XaD,Xac hi];rfl
theorem ZfU {ct:CT} {xs:List (List ct.D)} {i:Nat} {y:List ct.D}:(ZaP ct xs).set i (.row ct y true)=ZaP ct (xs.set i y):=by rw[ZaP,ZaP,List.map_set]
def ZmE {α:Type} {y:List α}: ∀ {p:Nat} {xs:List (List α)} {i:Nat} (hi:i<xs.length),y.length=xs[i].length->Zax p (xs.set i y)=Zax p xs
 |p,x::r,0,_,j=>by grind [Zax]
 |p,x::r,i+1,hi,j=>by rw[List.set_cons_succ,Zax,Zax,ZmE (Nat.lt_of_succ_lt_succ hi) j]
theorem ZxD {A:SM} {fr ex:List SM} {ct:CT} {xs:List (List ct.D)} {i p:Nat} (hi:i<xs.length) (j:p=fr.length+1):nth (A::(fr++(ZaP ct xs++ex))) (i+p)=some (.row ct xs[i] true):=by rw[ZaA,j,show i+(fr.length+1)=(fr.length+i)+1 by omega,XaV,Xaw oM,Xbe,Xan (by rw[Zal];exact hi),Zb3 hi]
def ZuU {A:SM} {fr ex:List SM} {ct:CT} {xs:List (List ct.D)} {j n:Nat} (hn:n=fr.length+1+xs.length+j):nth (A::(fr++(ZaP ct xs++ex))) n=ex[j]? :=by rw[ZaA,hn,show fr.length+1+xs.length+j=(fr.length+(xs.length+j))+1 by omega,XaV,Xaw oM,Xbe,Xaw (by rw[Zal];omega),Zal,Xbe]
def ZHf {A:SM} {fr ex:List SM} {ct:CT} {xs:List (List ct.D)} {i p:Nat} {x:SM} (hi:i<xs.length) (j:p=fr.length+1):(A::(fr++(ZaP ct xs++ex))).set (i+p) x=A::(fr++((ZaP ct xs).set i x++ex)):=by grind [List.set_append_right,Xbe,List.set_append_left,Zal]
def ZzK {A:SM} {fr ex:List SM} {ct:CT} {xs:List (List ct.D)} {j n:Nat} {x:SM} (hn:n=fr.length+1+xs.length+j):(A::(fr++(ZaP ct xs++ex))).set n x=A::(fr++(ZaP ct xs++ex.set j x)):=by grind [List.set_append_right,Xbe,Zal]
theorem Znj {A:SM} {fr ex:List SM} {ct:CT} {xs:List (List ct.D)}:(A::(fr++(ZaP ct xs++ex))).length=fr.length+1+xs.length+ex.length:=by grind [Zal]
def ZoO {A:SM} {fr ex:List SM} {ct:CT} {xs:List (List ct.D)} {x:SM}:(A::(fr++(ZaP ct xs++ex)))++ [x]=A::(fr++(ZaP ct xs++(ex++ [x]))):=by grind
def ZcL:TK->Bool
 | .other=>true
 |_=>false
def Zrt {t:TypeId} {id i r:Nat} {x:SV} {cs:List SV} {k:SV->List SM->Prop} (hn:nth hp id=some (.cell cs true)) (C:(Zcd x&&Nat.beq (Zbr x).length (T t).sz)=true) (R:Nat.ble (r+(T t).sz) cs.length=true) (j:ZcL (T t).k=false) (hi:i=0) (I:k (.tup []) (hp.set id (.cell (spl cs r (Zbr x)) true))):ZjY T t hp (.ptr id i r) x k:=by simp[ZjY,C,hn];refine⟨hi, ?_⟩;split;rename_i J;rw[J]at j;cases j;exact I;grind
theorem Zwq {t:TypeId} {id i r:Nat} {cs:List SV} {V:SV} {m:Bool} {k:SV->Prop} (hn:nth hp id=some (.cell cs m)) (j:Zjp (T t) cs r=some V) (hi:i=0) (C:k V):Zon T t hp (.ptr id i r) k:=by grind [Zon]
theorem ZyU {t:TypeId} {id i r:Nat} {ct:CT} {l:List ct.D} {x:ct.D} {V:SV} {m:Bool} {k:SV->Prop} (hn:nth hp id=some (.row ct l m)) (j:l[i]? =some x) (C:Zjp (T t) (ZaW ct x) r=some V) (I:k V):Zon T t hp (.ptr id i r) k:=by grind [Zon]
theorem Zwo {t:TypeId} {id i r:Nat} {x:SV} {ct:CT} {l:List ct.D} {y z:ct.D} {k:SV->List SM->Prop} (hn:nth hp id=some (.row ct l true)) (j:(Zcd x&&Nat.beq (Zbr x).length (T t).sz)=true) (C:l[i]? =some y) (I:Nat.ble (r+(T t).sz) ct.w=true) (J:ZcL (T t).k=false) (R:Zb9 ct (spl (ZaW ct y) r (Zbr x))=some z) (U:k (.tup []) (hp.set id (.row ct (l.set i z) true))):ZjY T t hp (.ptr id i r) x k:=by simp[ZjY,j,hn];refine⟨y,C, ?_⟩;rw[I,R];generalize(T t).k=kk at*;cases kk<;>first|(cases J;done)|exact U
def ZFO {z id i n:Nat} {m:Option Nat} {j:Int} {ct:CT} {l:List ct.D} {b:Bool} {k:SV->Prop} (hn:nth hp id=some (.row ct l b)) (C:Nat.beq ct.w z=true) (I:0<=j/\j<n) (J:k (.ptr id (i+j.toNat) 0)):ixT z hp (.ref id i n m) j k:=by grind [ixT]
def Zgu {ct:CT} {id i n:Nat} {m:Option Nat} {l:List ct.D} {b:Bool} {k:List ct.D->Prop} (hn:nth hp id=some (.row ct l b)) (hl:i+n<=l.length) (j:k (sub l i n)):Zrr ct hp (.ref id i n m) k:=by simp only[Zrr,hn];rw[dif_pos (Zd7 ct)];exact⟨hl,j⟩
theorem ZhZ {ct:CT} {by_ id i n:Nat} {l:List ct.D} {x:ct.D} {r:List ct.D} {k:SV->List SM->Prop} (hn:nth hp id=some (.row ct l true)) (hl:i+n<=l.length) (j:(n+(r.length+1))*by_<=140737488355328) (C:k (.ref hp.length 0 (n+(r.length+1)) none) (hp.set id .dead++ [.row ct (sub l i n++x::r) true])):ZsN ct by_ hp (.ref id i n none) (x::r) k:=by simp only[ZsN,hn];rw[dif_pos (Zd7 ct)];exact⟨hl,j,C⟩
def ZaS {op:Op} {t:TypeId} {id i r:Nat} {x:SV} {cs:List SV} {k:SV->List SM->Prop} {a b:Operand} (ho:op= .store t a b) (j:evS tm a=some (.ptr id i r)) (C:evS tm b=some x) (hn:nth hp id=some (.cell cs true)) (I:(Zcd x&&Nat.beq (Zbr x).length (T t).sz)=true) (J:Nat.ble (r+(T t).sz) cs.length=true) (R:ZcL (T t).k=false) (hi:i=0) (U:k (.tup []) (hp.set id (.cell (spl cs r (Zbr x)) true))):opT P h T op tm hp k:=by simp_all [opT,Zrt]
def ZbK {op:Op} {t:TypeId} {id i r:Nat} {cs:List SV} {V:SV} {m:Bool} {k:SV->List SM->Prop} {a:Operand} (ho:op= .load t a) (j:evS tm a=some (.ptr id i r)) (hn:nth hp id=some (.cell cs m)) (C:Zjp (T t) cs r=some V) (hi:i=0) (I:k V hp):opT P h T op tm hp k:=by simp[ho,opT,j];grind [Zwq]
def Zbf {op:Op} {t:TypeId} {id i r:Nat} {ct:CT} {l:List ct.D} {x:ct.D} {V:SV} {m:Bool} {k:SV->List SM->Prop} {a:Operand} (ho:op= .load t a) (j:evS tm a=some (.ptr id i r)) (hn:nth hp id=some (.row ct l m)) (C:l[i]? =some x) (I:Zjp (T t) (ZaW ct x) r=some V) (J:k V hp):opT P h T op tm hp k:=by simp[ho,opT,j];grind [ZyU]
def Zbw {op:Op} {t:TypeId} {id i r:Nat} {x:SV} {ct:CT} {l:List ct.D} {y z:ct.D} {k:SV->List SM->Prop} {a b:Operand} (ho:op= .store t a b) (j:evS tm a=some (.ptr id i r)) (C:evS tm b=some x) (hn:nth hp id=some (.row ct l true)) (I:(Zcd x&&Nat.beq (Zbr x).length (T t).sz)=true) (J:l[i]? =some y) (R:Nat.ble (r+(T t).sz) ct.w=true) (U:ZcL (T t).k=false) (h4:Zb9 ct (spl (ZaW ct y) r (Zbr x))=some z) (hk:k (.tup []) (hp.set id (.row ct (l.set i z) true))):opT P h T op tm hp k:=by simp[ho,opT,j,C];grind [Zwo]
variable {F N:Nat} {ls:List Nat} {o:Oper} {l:List Oper} {i dd:Nat} {ks:List (Nat × Nat × Bool)} {kk:TM->List SM->Prop} {V:SV}
def Zjc {c:Cx} {id j:Nat} {I:List Nat} {ops:Array Oper} {J:Bool} {k:Ex->TM->List SM->Prop} (hl:h.light c.fid id=j::I) (R:noG ops.toList=true) (U:ZaL P h T c.N (j::I) ops.toList 0 [] tm hp λtm' hp'=>k .normal tm' hp') (C:h.perm c.fid id=[]:=by rfl):wp P h T F c (.region id ops J) tm hp k:=by simp[wp,wpR,C,hl,R];exact U
def Zi2 {c:Cx} {id i j:Nat} {r I:List Nat} {ops:Array Oper} {os:List Oper} {J:Bool} {k:Ex->TM->List SM->Prop} (C:h.perm c.fid id=i::r) (hl:h.light c.fid id=j::I) (ho:ZiQ (i::r) ops (i::r)=os) (R:noG os=true) (U:ZaL P h T c.N (j::I) os 0 [] tm hp λtm' hp'=>k .normal tm' hp'):wp P h T F c (.region id ops J) tm hp k:=by have e:(rgo (i::r) ops).toList=os:=ho;simp[wp,wpR,C,hl,e,R];exact U
def ZFP (j:kk tm hp):ZaL P h T N ls [] i ks tm hp kk:=j
def Zmx {hp':List SM} (e:hp=hp') (j:ZaL P h T N ls l i ks tm hp' kk):ZaL P h T N ls l i ks tm hp kk:=e▸j
def Zcs {x:Operand} (hi:has i ls=true) (ho:o.op= .move x) (j:evS tm x=some V) (hd:o.dst=some dd) (hN:Nat.ble (dd+1) N=true) (C:ZaL P h T N ls l (i+1) ks ((dd,V)::tm) hp kk):ZaL P h T N ls (o::l) i ks tm hp kk:=by simp[ZaL,hi,ho,opT,j,ZcX,hd,hN];exact C
def ZEl {t:TypeId} {x y:Operand} {id a n:Nat} {m:Option Nat} {C:Prop} (hi:has i ls=true) (ho:o.op= .indexAddr t x y) (j:evS tm x=some (.ref id a n m)) (he: ∀k,opT P h T (.indexAddr t x y) tm hp k=(C/\k V hp)) (I:C) (hd:o.dst=some dd) (hN:Nat.ble (dd+1) N=true) (J:ZaL P h T N ls l (i+1) ((i,id,false)::ks) ((dd,V)::tm) hp kk):ZaL P h T N ls (o::l) i ks tm hp kk:=by grind [ZaL,ZcX]
def ZEB {t:TypeId} {x y:Operand} {id a r:Nat} {C:Prop} (hi:has i ls=true) (ho:o.op= .indexAddr t x y) (j:evS tm x=some (.ptr id a r)) (he: ∀k,opT P h T (.indexAddr t x y) tm hp k=(C/\k V hp)) (I:C) (hd:o.dst=some dd) (hN:Nat.ble (dd+1) N=true) (J:ZaL P h T N ls l (i+1) ks ((dd,V)::tm) hp kk):ZaL P h T N ls (o::l) i ks tm hp kk:=by grind [ZaL,ZcX]
def ZD9 {t:TypeId} {x:Operand} {id a r:Nat} {α:Type} {C:α->Prop} {W:α->SV} {z:α} (hi:has i ls=true) (ho:o.op= .load t x) (j:evS tm x=some (.ptr id a r)) (he: ∀k,opT P h T (.load t x) tm hp k= ∃z,C z/\k (W z) hp) (I:C z) (hd:o.dst=some dd) (hN:Nat.ble (dd+1) N=true) (J:ZaL P h T N ls l (i+1) ((i,id,true)::ks) ((dd,W z)::tm) hp kk):ZaL P h T N ls (o::l) i ks tm hp kk:=by grind [ZaL,ZcX]
def Zak (hi:has i ls=false) (hw:isW h o=false) (ho:opT P h T o.op tm hp λV hp'=>ZcX N o.dst V tm λtm'=>ZaL P h T N ls l (i+1) ks tm' hp' kk):ZaL P h T N ls (o::l) i ks tm hp kk:=by grind [ZaL,Zpd]
def ZeC (hi:has i ls=false) (hd:Zpd h o ks=[]) (ho:opT P h T o.op tm hp λV hp'=>ZcX N o.dst V tm λtm'=>ZaL P h T N ls l (i+1) [] tm' hp' kk):ZaL P h T N ls (o::l) i ks tm hp kk:=by grind [ZaL]
def Zan {c:TM->Prop} {dst:Option Tmp} (ho:dst=some dd) (hN:Nat.ble (dd+1) N=true) (j:c ((dd,V)::tm)):ZcX N dst V tm c:=by grind [ZcX]
def Zat {c:TM->Prop} {dst:Option Tmp} (ho:dst=none) (j:c tm):ZcX N dst V tm c:=by grind [ZcX]
variable {op:Op} {dst:Option Tmp} {c:TM->List SM->Prop}
def opv (he: ∀k,opT P h T op tm hp k=k V hp) (ho:dst=some dd) (hN:Nat.ble (dd+1) N=true) (j:c ((dd,V)::tm) hp):opT P h T op tm hp λV hp'=>ZcX N dst V tm λtm'=>c tm' hp':=by grind [ZcX]
def opm {hp':List SM} (he: ∀k,opT P h T op tm hp k=k V hp') (ho:dst=some dd) (hN:Nat.ble (dd+1) N=true) (j:c ((dd,V)::tm) hp'):opT P h T op tm hp λV hp'=>ZcX N dst V tm λtm'=>c tm' hp':=by grind [ZcX]
def opc {C:Prop} (he: ∀k,opT P h T op tm hp k=(C/\k V hp)) (j:C) (ho:dst=some dd) (hN:Nat.ble (dd+1) N=true) (I:c ((dd,V)::tm) hp):opT P h T op tm hp λV hp'=>ZcX N dst V tm λtm'=>c tm' hp':=by grind [ZcX]
def Zgb {ds:List (Option Tmp)} {hp':List SM} (e:hp=hp') (j:wpOps P h T N ds l tm hp' kk):wpOps P h T N ds l tm hp kk:=e▸j
def Zwz (p:Nat):List Nat->Bool
 | []=>true
 |i::r=>Nat.ble (i+1) p&&Zwz p r
def Zgj {p id:Nat}: ∀ {l:List Nat},Zwz p l=true->id∈l->id<p
 |i::r,h,hm=>by simp only[Zwz,Xas]at h;rcases XaF.1 hm with rfl|hm;exact Xam h.1;exact Zgj h.2 hm
def ZEG (p:Nat) (tm:TM):TM->Prop
 | []=>True
 |(i,V')::r=>ZbJ i tm=some V'/\Zwz p (ZdS V')=true/\ZEG p tm r
mutual
theorem ZDT {f:Nat->Nat} {p:Nat} (hf: ∀j,j<p->f j=j): ∀V:SV,(∀id∈ZdS V,id<p)->rnV f V=V
 | .ref id i n m,C=>by rw[rnV,hf id (C id (by simp[ZdS]))]
 | .ptr id i r,C=>by rw[rnV,hf id (C id (by simp[ZdS]))]
 | .func g a c,C=>by simp only[ZdS,XaO]at C;rw[rnV,rnL_id hf a (λid hi=>C id (.inl hi)),rnL_id hf c (λid hi=>C id (.inr hi))]
 | .agg cs,C=>by rw[rnV,rnL_id hf cs (by simpa only[ZdS]using C)]
 | .tup cs,C=>by rw[rnV,rnL_id hf cs (by simpa only[ZdS]using C)]
 | .v _ _,_| .nilp,_| .nils,_| .nilf,_| .nili,_| .nilmp,_| .box _ _ _,_=>rfl
 | .mp id,C=>by rw[rnV,hf id (C id (by simp[ZdS]))]
theorem rnL_id {f:Nat->Nat} {p:Nat} (hf: ∀j,j<p->f j=j): ∀l:List SV,(∀id∈rchL l,id<p)->rnL f l=l
 | [],_=>rfl
 |V::r,C=>by simp only[rchL,XaO]at C;rw[rnL,ZDT hf V (λid hi=>C id (.inl hi)),rnL_id hf r (λid hi=>C id (.inr hi))]
end
def Zjz {f:Nat->Nat} {p:Nat} (hf: ∀j,j<p->f j=j) (m:SM) (I: ∀id∈Zd0 m,id<p):rnM f m=m:=by cases m with|row t l b=>rfl|cell cs b=>rw[rnM,rnL_id hf cs (by simpa only[Zd0]using I)]|many ct C b=>rw[rnM,rnL_id hf C (by simpa only[Zd0]using I)]|set ks=>rfl|im t ks=>rfl|dead=>rfl
def Zk6 {f:Nat->Nat} {p n:Nat} (hf: ∀j,j<p->f j=j) (hn:p<=n) {tm:TM}: ∀ {tm':TM},ZEG p tm tm'->ZrG f n tm tm'
 | [],_=>trivial
 |(i,V')::r,⟨I,C,J⟩=>⟨by rw[ZDT hf V' λid hi=>Zgj C hi];exact I,λid hi=>XaW (Zgj C hi) hn,Zk6 hf hn J⟩
def ZsD (f:Nat->Nat): ∀l:List SV,rnL f l=l.map (rnV f)
 | []=>rfl
 |v::r=>by rw[rnL,ZsD f r];rfl
def ZcT {α:Type} {id}: ∀ {p:Nat} {xs:List (List α)},id∈rchL (Zax p xs)->id<p+xs.length
 |p,x::r,hm=>by simp[Zax,rchL,ZdS]at hm;rw[Xao];rcases hm with rfl|hm;omega;have:=ZcT hm;omega
def ZCY {α:Type} {f p i L xs} {y:List α} (J:f (i+p)=L) (hf: ∀j,j≠i->j<xs.length->f (j+p)=j+p):rnL f (Zax p (xs.set i y))=(Zax p xs).set i (.ref L 0 y.length none):=by rw[ZsD];apply XaR;intro j;rw[XaD];by_cases I:j<xs.length;rw[ZbF (by rw[Xap];exact I)];show some (SV.ref (f (j+p)) 0 _ none)=_;by_cases C:j=i;subst C;rw[XaN (by rw[Zaw];exact I),J,XbT];rw[XaL (λe=>C e.symm),ZbF I,hf j C I];grind;rw[Xat (by rw[Zaw,Xap];omega),Xat (by rw[Xap,Zaw];omega)];rfl
def ZGi {F tm tm' ct fr ex xs i e L p y d} (hq:p=fr.length+1) (hi:i<xs.length) (hL:L=fr.length+1+xs.length+e) (hx:ex[e]? =some (.row ct y true)) (hF:F<=p) (U: ∀m∈fr,∀id∈Zd0 m,id<p) (aa:ZEG p tm tm'):
 Ent F tm (.many (.l ct) ((Zax p xs).set i (.ref L 0 y.length none)) true::(fr++((ZaP ct xs).set i d++ex))) tm' (.many (.l ct) (Zax p (xs.set i y)) true::(fr++(ZaP ct (xs.set i y)++ []))):=by
 have ad:=(Xaf.1 hx).1;have hlen:(SM.many (.l ct) (Zax p (xs.set i y)) true::(fr++(ZaP ct (xs.set i y)++ []))).length=fr.length+1+xs.length:=by rw[Znj,Xap];rfl
 have ab:(SM.many (.l ct) ((Zax p xs).set i (.ref L 0 y.length none)) true::(fr++((ZaP ct xs).set i d++ex))).length=fr.length+1+xs.length+ex.length:=by grind [Zal]
 let f:Nat->Nat:=λj=>if j=i+p then L else j
 have fi:f (i+p)=L:=if_pos rfl;have fn: ∀j,j≠i+p->f j=j:=λj R=>if_neg R
 have C: ∀j,j<p->f j=j:=λj R=>fn j oM
 refine ZdZ f ?_ ?_ ?_ ?_ ?_ ?_;rw[hlen];omega;grind;grind;grind;exact Zk6 C (by rw[hlen];omega) aa;intro j m hm;right;cases j with|zero=>have hm:=hm;cases hm;refine⟨?_,λid hid=> ?_⟩;rw[C 0 oM];show some (SM.many (.l ct) ((Zax p xs).set i (.ref L 0 y.length none)) true)=some (SM.many (.l ct) (rnL f (Zax p (xs.set i y))) true);rw[ZCY fi λj R I=>fn (j+p) oM];have:=ZcT (by simpa only[Zd0]using hid);rw[Xap]at this;rw[hlen];omega|succ j=>rw[XaV]at hm;by_cases R:j<fr.length;rw[Xan R]at hm;have hb:=U m (XaC hm);refine⟨?_,λid hid=>by have:=hb id hid;rw[hlen];omega⟩;rw[C (j+1) oM,Zjz C m hb,XaV,Xan R];exact hm;rw[Xaw oM,XaQ]at hm;have I:j-fr.length<xs.length:=(by have:=(Xaf.1 hm).1;rw[Zal,Xap]at this;exact this);rw[Zb3 (by rw[Xap];exact I)]at hm;cases hm;refine⟨?_,λid hid=>by simp[Zd0]at hid⟩;by_cases J:j-fr.length=i;rw[show j+1=i+p by omega,fi,hL,show fr.length+1+xs.length+e=(fr.length+(xs.length+e))+1 by omega,XaV,Xaw oM,Xbe,Xaw (by rw[Xap,Zal];omega),Xap,Zal,Xbe,hx];simp[J,XbT];rfl;rw[fn (j+1) oM,XaV,Xaw oM,Xan (by rw[Xap,Zal];exact I),XaL (λe=>J e.symm),Zb3 I];simp[List.getElem_set_ne (λe=>J e.symm)];rfl
def opy {α:Type} {A} {C:α->Prop} {W:α->SV} {x} (he: ∀k,opT P h T op tm hp k= ∃x,A/\C x/\k (W x) hp) (j:A) (I:C x) (ho:dst=some dd) (hN:Nat.ble (dd+1) N=true) (J:c ((dd,W x)::tm) hp):opT P h T op tm hp λV hp'=>ZcX N dst V tm λtm'=>c tm' hp':=by grind [ZcX]
def ZAc {α:Type} {t x y ct xs A} {C:α->Prop} {W:α->SV} {z} (hi:has i ls=true) (ho:o.op= .indexAddr t x y) (j:evS tm x=some (.v (.l ct) xs)) (he: ∀k,opT P h T (.indexAddr t x y) tm hp k= ∃z,A/\C z/\k (W z) hp) (I:A) (J:C z) (hd:o.dst=some dd) (hN:Nat.ble (dd+1) N=true) (R:ZaL P h T N ls l (i+1) ks ((dd,W z)::tm) hp kk):ZaL P h T N ls (o::l) i ks tm hp kk:=by grind [ZaL,ZcX]
def Zxp {t x ct y r} (hi:has i ls=true) (ho:o.op= .load t x) (j:evS tm x=some (.box ct y r)) (he: ∀k,opT P h T (.load t x) tm hp k=k V hp) (hd:o.dst=some dd) (hN:Nat.ble (dd+1) N=true) (C:ZaL P h T N ls l (i+1) ks ((dd,V)::tm) hp kk):ZaL P h T N ls (o::l) i ks tm hp kk:=by grind [ZaL,ZcX]
def ZCs {F tm tm' ct fr n p} (hq:p=fr.length+1) (hF:F<=p) (ab:ZEG p tm tm'):Ent F tm (.many (.l ct) (List.replicate n .nils) true::fr) tm' (.many (.l ct) (Zax p (List.replicate n ([]:List ct.D))) true::(fr++(ZaP ct (List.replicate n [])++ []))):=by
 refine⟨λφ st _ hs=> ?_⟩;have hlen:φ.length=p:=by rw[hs.hp.len,Xao,hq]
 let ψ:=φ++List.replicate n none
 have hle:Le φ ψ:=Le.app _ _;have aa: ∀j,j<n->ψ[j+p]? =some none:=λj hj=>by grind
 have I: ∀id,id<p->ψ[id]? =φ[id]? :=λid hid=>by grind
 have ad:(SM.many (.l ct) (Zax p (List.replicate n ([]:List ct.D))) true::(fr++(ZaP ct (List.replicate n [])++ []))).length=p+n:=by grind [Znj,XaE]
 have J: ∀ {tm':TM} {i:Nat} {V:SV},ZEG p tm tm'->ZbJ i tm'=some V->ZbJ i tm=some V:=by intro tm';induction tm' with|nil=>intro i V _ h;cases h|cons a r ih=>(let⟨j,W⟩:=a);rintro i V ⟨h1,_,h3⟩ h;simp[ZbJ]at h;cases R:Nat.beq i j with|true=>rw[R]at h;cases h;rw[Xay R];exact h1|false=>rw[R]at h;exact ih h3 h
 refine⟨ψ,λid hid=>I id oM, ?_,⟨by rw[ad];show(φ++List.replicate n none).length=_;rw[Xal,XaE,hlen], ?_, ?_⟩⟩;intro i V hi;let⟨q,h1,h2⟩:=hs.tm i V (J ab hi)
 exact⟨q,h1,RV.mono hle V q h2⟩;intro id sm o C ho;cases id with
  |zero=>
   have C:=C;cases C;rw[I 0 oM]at ho;have hm:=hs.hp.row 0 _ o rfl ho;cases o with
   |none=>simp[RM]at hm|-;cases n with|zero=>rfl|succ n=>cases hm
   |some a=>
    simp only[RM]at hm|-;(let⟨es,m',g1,g2,g3⟩:=hm);refine⟨es,m',g1, ?_,g3⟩;have gen: ∀ (k j:Nat) (es:List (List PV)),j+k<=n->All2 (λV c=> ∃q,c=[q]/\RV φ V q) (List.replicate k SV.nils) es->All2 (λV c=> ∃q,c=[q]/\RV ψ V q) (Zax (p+j) (List.replicate k ([]:List ct.D))) es:=by intro k;induction k with|zero=>(intro j es _ h;cases es with|nil=>exact trivial|cons _ _=>exact h.elim)|succ k ih=>intro j es ag h;cases es with|nil=>exact h.elim|cons c es=>(let⟨⟨q,e1,e2⟩,h2⟩:=h);refine⟨⟨q,e1, ?_⟩, ?_⟩;simp only[RV]at e2|-;right;refine⟨?_,e2,trivial,rfl,rfl⟩;rw[Nat.add_comm];exact aa j oM;have:=ih (j+1) es oM h2;rw[<-XbL]at this;exact this
    have:=gen n 0 es oM g2;rwa[Nat.add_zero]at this
  |succ id=>rw[XaV]at C;by_cases hid:id<fr.length;rw[Xan hid]at C;rw[I (id+1) oM]at ho;exact RM.mono hle (λ_ _ _=>rfl) (hs.hp.row (id+1) sm o (by rw[XaV];exact C) ho);rw[Xaw oM,XaQ]at C;have R:=(Xaf.1 C).1;rw[Zal,XaE]at R;rw[Zb3 (by rw[XaE];exact R),List.getElem_replicate]at C;cases C;rw[show id+1=(id-fr.length)+p by omega,aa _ R]at ho;cases ho;rfl
 intro id ah sm ae a af h1 h2 h3 h4 h5 h6;have R: ∀ {j:Nat} {sm:SM},ψ[j]? =some (some a)->j<p:=λ{j} {sm} hj=>by by_cases h:j<p;exact h;exfalso;have U:=hj;rw[Xaw oM,XaZ]at U;split at U<;>cases U
 have b1:=R (sm:=sm) h5;have b2:=R (sm:=ae) h6;rw[I _ b1]at h5;rw[I _ b2]at h6;have old: ∀ {j:Nat} {m:SM},j<p->live m=true->(SM.many (.l ct) (Zax p (List.replicate n ([]:List ct.D))) true::(fr++(ZaP ct (List.replicate n [])++ [])))[j]? =some m-> ∃m',(SM.many (.l ct) (List.replicate n SV.nils) true::fr)[j]? =some m'/\live m'=true:=by intro j m hj hl hm;cases j with|zero=>exact⟨_,rfl,rfl⟩|succ j=>rw[XaV,Xan oM]at hm;exact⟨m,by rw[XaV];exact hm,hl⟩
 let⟨m1,g1,g2⟩:=old b1 h3 h1
 let⟨m2,g3,g4⟩:=old b2 h4 h2
 exact hs.hp.inj _ _ _ _ a af g1 g3 g2 g4 h5 h6
theorem Zgz {ct}: ∀ys,ZCF (.l ct) (ys.map λx=>SV.v (.l ct) x)=some ys
 | []=>rfl
 |x::r=>by have e:Zb9 (.l ct) [.v (.l ct) x]=some x:=(by show(if h:ceq ct ct=true then some (Zj1 ct ct h x)else none)=some x;rw[dif_pos (Zd7 ct)];rfl);rw[Xbm,ZCF,e,Zgz r]
def Zhz {ct m}: ∀ {ys:List (List ct.D)} {q:Nat} {k:List SV->Prop},(∀j (J:j<ys.length),nth hp (j+q)=some (.row ct ys[j] true))->k (ys.map λx=>SV.v (.l ct) x)->Zdj (ZbS hp (m+2)) (Zax q ys) k
 | [],_,_,_,I=>I
 |x::r,q,k,R,I=>by have C:=R 0 (Nat.succ_pos _);rw[Xag]at C;have C:nth hp q=some (.row ct x true):=C;simp only[Zax,Zdj,ZbS,C];refine⟨oM, ?_⟩;rw[show sub x 0 x.length=x by rw[sub,XaP,Xax (Xae _)]];refine Zhz (λj J=> ?_) I;have:=R (j+1) (Nat.succ_lt_succ J);grind
def Zyh {ct fr ex xs p n m b o k} (C:p=fr.length+1) (hn:n=xs.length) (J:k (.v (.l (.l ct)) xs)):ZbS (.many (.l ct) (Zax p xs) b::(fr++(ZaP ct xs++ex))) (m+3) (.ref 0 0 n o) k:=by refine⟨by rw[Zaw];omega, ?_⟩;rw[show sub (Zax p xs) 0 n=Zax p xs by rw[sub,XaP,Xax (by rw[Zaw];omega)]];refine Zhz (λj I=>ZxD I C) ?_;grind [Zgz]
def ZCj {f:FuncId} {V:SV} {k:SV->List SM->Prop} (ho:h.opn f=false) (hi:h.imp f=false) (hm:h.mem f=true) (he:ZbS hp 40 V λv=>PureOK P h f [v] λW=>k W (frzT hp (ZdC hp [V]))):ZbY P h f [V] hp k:=by simp only[ZbY,ho,hi,hm,ZDV,Zdj];exact he
def ZA6 {F:Nat} {tm tm':TM} {ct:CT} {fr ex:List SM} {xs:List (List ct.D)} {i i' n' e L p:Nat} {y:List ct.D} {d:SM} (j:i'=i) (C:n'=y.length) (R:p=fr.length+1) (hi:i<xs.length) (U:L=fr.length+1+xs.length+e) (hx:ex[e]? =some (.row ct y true)) (hF:F<=p) (I: ∀m∈fr,∀id∈Zd0 m,id<p) (J:ZEG p tm tm'):
 Ent F tm (.many (.l ct) ((Zax p xs).set i' (.ref L 0 n' none)) true::(fr++((ZaP ct xs).set i d++ex))) tm' (.many (.l ct) (Zax p (xs.set i y)) true::(fr++(ZaP ct (xs.set i y)++ []))):=by subst j C;exact ZGi R hi U hx hF I J
def ZJs (tm:TM):TM->Prop
 | []=>True
 |(i,V')::r=>ZbJ i tm=some V'/\ZJs tm r
def Zom {tm:TM}: ∀ {tm':TM} {i:Nat} {V:SV},ZJs tm tm'->ZbJ i tm'=some V->ZbJ i tm=some V
 | [],_,_,_,h=>by cases h
 |(j,W)::r,i,V,I,h=>by simp only[ZbJ]at h;cases C:Nat.beq i j with|true=>rw[C]at h;cases h;rw[Xay C];exact I.1|false=>rw[C]at h;exact Zom I.2 h
def Zah {F:Nat} {tm tm':TM} (j:ZJs tm tm'):Ent F tm hp tm' hp:=
 ⟨λφ st _ C=>⟨φ,Fr.refl F φ,λi V hi=>C.tm i V (Zom j hi),C.hp⟩⟩
def Ent.trans {F:Nat} {tm tm1 j:TM} {hp hp1 C:List SM} (U:Ent F tm hp tm1 hp1) (h2:Ent F tm1 hp1 j C):Ent F tm hp j C:=by
 refine⟨λφ st R hs=> ?_⟩;let⟨I,g1,g2⟩:=U.out φ st R hs
 let⟨J,g3,g4⟩:=h2.out I st (by cases F with|zero=>exact Xak _|succ n=>have e:=g1 n (XaA n);rw[Xac (R)]at e;exact(Xaf.1 e).1) g2
 exact⟨J,g1.trans g3,g4⟩
def Zjd {c:Call} {f:FuncId} {V:SV} {k:SV->List SM->Prop} (ho:op= .call c) (j:c.callee= .value (.func f)) (C:evL tm c.args.toList=some [V]) (I:h.opn f=false) (J:h.imp f=false) (R:h.mem f=true) (he:ZbS hp 40 V λv=>PureOK P h f [v] λW=>k W (frzT hp (ZdC hp [V]))):opT P h T op tm hp k:=by subst ho;simp only[opT,Zhd,C,j];exact ZCj I J R he
def ZbO {tm tm':TM} (C:ZEG 0 tm tm'):Ent 0 tm hp tm' []:=by refine ZdZ id (Xae 0) (λ_ _=>rfl) (λj I=>absurd I (XaS j)) (λi j hi=>absurd hi (XaS i)) (Zk6 (λ_ _=>rfl) (Xae 0) C) λj m hm=> ?_;simp at hm
structure CodeOK (P:Program) (h:Hints) (F:Nat) (c:Cx) (b:Code) (tm:TM) (hp:List SM) (k:Ex->TM->List SM->Prop):Prop where
 out: ∀φ st,F<=φ.length->SRep φ tm hp st-> ∃e st' φ' tm' hp',exS P h (lim P h) c b st=some (e,st')/\Fr F φ φ'/\SRep φ' tm' hp' st'/\k e tm' hp'
def Zad (hT:TysOK P T) {c:Cx} {b:Code} {k:Ex->TM->List SM->Prop} (hw:wp P h T F c b tm hp k):CodeOK P h F c b tm hp k:=⟨λφ st j C=>ZqN hT c b tm hp k φ st hw j C⟩
def Zac {c a b k} (hw:CodeOK P h F c a tm hp (ZHB k λtm' hp'=>CodeOK P h F c b tm' hp' k)):CodeOK P h F c (.seq a b) tm hp k:=by
 refine⟨λφ st hF hs=> ?_⟩;let⟨e,st1,C,tm1,hp1,J,I,R,U⟩:=hw.out φ st hF hs
 cases e with|normal=>(let⟨e,aa,φ',tm',hp',g1,g2,g3,g4⟩:=CodeOK.out U C st1 (I.len hF) R);exact⟨e,aa,φ',tm',hp',by simp[exS,J,Zg2,g1],I.trans g2,g3,g4⟩|exit j=>exact⟨_,st1,C,tm1,hp1,by simp[exS,J,Zg2],I,R,U⟩|ret=>exact⟨_,st1,C,tm1,hp1,by simp[exS,J,Zg2],I,R,U⟩
def CodeOK.ent {c b k tm' hp'} (hl:CodeOK P h F c b tm' hp' k) (he:Ent F tm hp tm' hp'):CodeOK P h F c b tm hp k:=
 ⟨λφ st I R=>by(let⟨j,J,U⟩:=he.out φ st I R);(let⟨e,C,φ',tm',hp',f1,f2,f3,f4⟩:=hl.out j st (J.len I) U);exact⟨e,C,φ',tm',hp',f1,J.trans f2,f3,f4⟩⟩
def Zb8 (hT:TysOK P T) {f fn code Vs Q} (j:h.ok f=true) (hp:h.prim f=none) (hf:P.funcs[f]? =some fn) (hb:fn.body=some code) (hn:Vs.length<=fn.ntmps)
 (hw:CodeOK P h 0 ⟨f,0,fn.ntmps⟩ code (ZcQ 0 Vs) [] (ZjR T fn.results.toList λV hp=>ZbS hp 40 V Q)):PureOK P h f Vs Q:=by
 refine⟨λJ R=> ?_⟩;let⟨e,C,φ',tm',hp',h1,h2,U,h4⟩:=hw.out [] ⟨enterT 0 J,[]⟩ (Xak _) ⟨Zft R,RH.empty⟩
 let⟨v,V,h5,h6,h7⟩:=ZoY hT U h4
 have I:(lim P h).rn f J []=some (v,C.hp):=by refine ZuP j hf hb (by rw[<-R.len];exact hn) ?_;grind
 let⟨q',V',g1,g2,g3,_⟩:=ZkY U.hp 40 V v Q h7 h6
 refine⟨q',V', ?_,g2,g3⟩;simp[ZbZ,hp,I];exact g1
def Zyg:Nat->Code->Code
 |0,c=>c
 |n+1, .seq _ b=>Zyg n b
 |_,c=>c
def ZbV {id i n m o ct l b k} (hn:nth hp id=some (.row ct l b)) (hl:i+n<=l.length) (j:k (.v (.l ct) (sub l i n))):ZbS hp (m+2) (.ref id i n o) k:=by grind [ZbS]
def Zzq {c f id i n o ct l b t x k} (ho:op= .call c) (j:c.callee= .value (.func f)) (C:evL tm c.args.toList=some [.ref id i n o, .v t x]) (I:h.opn f=false) (J:h.imp f=true) (hn:nth hp id=some (.row ct l b)) (hl:i+n<=l.length)
 (he:ImpOK P h f [.v (.l ct) (sub l i n), .v t x] λV hn R=>k (shS hp.length V) ((match R with|true=>hp|false=>frzT hp (ZdC hp [.ref id i n o, .v t x]))++ZwY hp.length hn)):opT P h T op tm hp k:=by subst ho;simp[opT,Zhd,C,j,ZbY,I,J,ZDV];exact ZbV hn hl he
def ZaI {a b t e kk j id i n o ct l bb k} (ho:op= .indexAddr t a b) (I:evS tm a=some (.ref id i n o)) (J:evS tm b=some (.v (.i kk) j)) (C:(T t).k= .slice e) (R:ZcL (T e).k=false) (hn:nth hp id=some (.row ct l bb)) (U:Nat.beq ct.w (T e).sz=true) (hj:0<=j/\j<n) (hk:k (.ptr id (i+j.toNat) 0) hp):opT P h T op tm hp k:=by subst ho;simp[opT,I,J,ZeZ,C];generalize aa:(T e).k=q at*;cases q<;>first|(cases R;done)|exact ZFO hn U hj hk
def ZaQ {a b t e kk j id i n o ct l bb k} (ho:op= .indexAddr t a b) (I:evS tm a=some (.ref id i n o)) (J:evS tm b=some (.v (.i kk) j)) (C:(T t).k= .slice e) (R:ZcL (T e).k=false) (hn:nth hp id=some (.many ct l bb)) (hz:Nat.beq 1 (T e).sz=true) (hj:0<=j/\j<n) (hk:k (.ptr id (i+j.toNat) 0) hp):opT P h T op tm hp k:=by
 subst ho;simp[opT,I,J,ZeZ,C];have U:ixT (T e).sz hp (.ref id i n o) j (λV=>k V hp):=by grind [ixT]
 generalize aa:(T e).k=q at*;cases q<;>first|(cases R;done)|exact U
def Zgl {a b t id i x ct l k} (ho:op= .store t a b) (j:evS tm a=some (.ptr id i 0)) (C:evS tm b=some x) (hn:nth hp id=some (.many ct l true)) (I:(Zcd x&&Nat.beq (Zbr x).length (T t).sz)=true) (J:Zvj x=true) (R:ZcL (T t).k=false) (hi:i<l.length) (U:k (.tup []) (hp.set id (.many ct (l.set i x) true))):opT P h T op tm hp k:=by subst ho;simp[opT,j,C,ZjY,I,hn];refine⟨hi, ?_⟩;rw[J];generalize(T t).k=q at*;cases q<;>first|(cases R;done)|exact U
def Za0 {a t id i V ct l bb k} (ho:op= .load t a) (j:evS tm a=some (.ptr id i 0)) (hn:nth hp id=some (.many ct l bb)) (C:l[i]? =some V) (I:Zjp (T t) [V] 0=some V) (J:k V hp):opT P h T op tm hp k:=by simp_all [opT,Zon]
end
def ZDm {p q:Prop} (h:q) (k:q->p:=by
 intro h;repeat (first|refine ZkH ?_|refine Zeq ?_|refine ZcH ?_)
 first|((repeat first|with_reducible refine Za8 ?_|((with_reducible refine ZlX ?_ ?_);rfl));exact Zjc rfl rfl h)|exact Za8 (Zjc rfl rfl h)|exact Za8 (Za8 (Zjc rfl rfl h))):p:=k h
def ZLA {p q:Prop} (h:q) (k:q->p:=by
 intro h;repeat (first|refine ZkH ?_|refine Zeq ?_|refine ZcH ?_)
 first|((repeat first|with_reducible refine Za8 ?_|((with_reducible refine ZlX ?_ ?_);rfl));exact Zi2 rfl rfl rfl rfl h)|exact Za8 (Zi2 rfl rfl rfl rfl h)|exact Za8 (Za8 (Zi2 rfl rfl rfl rfl h))):p:=k h
def ZAS {p q:Prop} (h:q) (k:q->p:=by
 intro h;refine ZFP ?_;repeat (first|refine Zeq ?_|refine ZcH ?_)
 exact h):p:=k h
end
end Go.Tx
