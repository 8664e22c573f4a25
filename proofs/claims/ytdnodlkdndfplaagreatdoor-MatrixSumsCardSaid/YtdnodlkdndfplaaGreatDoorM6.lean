/-
 What is not vast.
-/
import Derived.Test.YtdnodlkdndfplaaGreatDoorM3
set_option linter.constructorNameAsVariable false
set_option linter.unusedSimpArgs false
set_option linter.unusedVariables false
namespace Go.Proofs.YtdnodlkdndfplaaGreatDoor
open Go.Am Go.Tx Dv Go.Lib
set_option maxRecDepth 100000
theorem Zoy (s:List UInt8):(s==s)=true:=by simp
end Go.Proofs.YtdnodlkdndfplaaGreatDoor
/-
 Valid matrices; widths; what is not vast.
-/
namespace Go.Proofs.YtdnodlkdndfplaaGreatDoor
open Go.Am Go.Tx Dv Go.Lib
set_option maxRecDepth 100000
theorem ZqP: ∀ {l:List (List UInt8)},(∀a∈l,ZaP a=0)→ ∃ps:List Rat,l=ps.map Zbi∧ ∀p∈ps,Zeu p=true
 | [],_=>⟨[],rfl,fun _ h=>absurd h List.not_mem_nil⟩
 |a::l,h=>by
  obtain⟨p,h1,h2⟩:=ZhB (h a List.mem_cons_self)
  obtain⟨ps,h3,h4⟩:=ZqP (l:=l) (fun b hb=>h b (List.mem_cons_of_mem _ hb))
  refine⟨p::ps,by rw[List.map_cons,←h1,←h3],fun q hq=> ?_⟩
  rcases List.mem_cons.1 hq with rfl|hq
  ·exact h2
  ·exact h4 q hq
theorem Zli {w:Int}: ∀ {m:List (List (List UInt8))},Zoz w m=0→ ∀r∈m,(r.length:Int)=w∧Zhe r=0
 | [],_,_,hr=>absurd hr List.not_mem_nil
 |x::l,h,r,hr=>by
  rw[Zoz]at h
  cases h1:decide ((x.length:Int)=w)with
  |false=>rw[h1]at h;cases h
  |true=>
   rw[h1]at h
   simp only at h
   cases h2:decide (Zhe x=0)with
   |false=>rw[h2]at h;exact absurd h (of_decide_eq_false h2)
   |true=>
    rw[h2]at h
    rcases List.mem_cons.1 hr with rfl|hr
    ·exact⟨of_decide_eq_true h1,of_decide_eq_true h2⟩
    ·exact Zli h r hr
theorem ZmP: ∀pss:List (List Rat),wid (ZeH pss)=Zxo pss
 | []=>rfl
 |ps::_=>List.length_map _
structure Mat (m:List (List (List UInt8))) (pss:List (List Rat)):Prop where
 txt:m=ZeH pss
 fit: ∀ps∈pss,∀p∈ps,Zeu p=true
 len:pss.length≤40
 row: ∀ps∈pss,ps.length=Zxo pss
 wid:Zxo pss≤40
theorem Zoo: ∀ {m:List (List (List UInt8))},(∀r∈m,Zhe r=0)→ ∃pss:List (List Rat),m=ZeH pss∧(∀ps∈pss,∀p∈ps,Zeu p=true)∧ ∀ps∈pss,ps.length≤40
 | [],_=>⟨[],rfl,fun _ h=>absurd h List.not_mem_nil,fun _ h=>absurd h List.not_mem_nil⟩
 |r::m,h=>by
  obtain⟨h1,h2⟩:=Zq0 (h r List.mem_cons_self)
  obtain⟨ps,rfl,h3⟩:=ZqP (ZiP h2)
  obtain⟨pss,rfl,h4,h5⟩:=Zoo (m:=m) (fun x hx=>h x (List.mem_cons_of_mem _ hx))
  rw[List.length_map]at h1
  refine⟨ps::pss,rfl,fun x hx=> ?_,fun x hx=> ?_⟩
  ·rcases List.mem_cons.1 hx with rfl|hx
   ·exact h3
   ·exact h4 x hx
  ·rcases List.mem_cons.1 hx with rfl|hx
   ·exact h1
   ·exact h5 x hx
theorem Zh6 {m:List (List (List UInt8))} (h:ZcG m=0): ∃pss,Mat m pss:=by
 have hE:ZcG m=match decide ((40:Int)<(m.length:Int))with|true=>2|false=>Zoz (wid m:Nat) m:=rfl
 rw[hE]at h
 cases h1:decide ((40:Int)<(m.length:Int))with
 |true=>rw[h1]at h;cases h
 |false=>
  rw[h1]at h
  have h2:=Zli h
  obtain⟨pss,rfl,h3,h4⟩:=Zoo (fun r hr=>(h2 r hr).2)
  have hl:(ZeH pss).length=pss.length:=List.length_map _
  refine⟨pss,rfl,h3,by have:=of_decide_eq_false h1;rw[hl]at this;omega,fun ps hp=> ?_, ?_⟩
  ·have:=(h2 (ps.map Zbi) (List.mem_map_of_mem hp)).1
   rw[List.length_map,ZmP]at this
   omega
  ·cases pss with
   |nil=>exact Nat.zero_le _
   |cons ps _=>exact h4 ps List.mem_cons_self
theorem ZpM (m:List (List (List UInt8))):PureOK Tryz.prog Zat 45 [.v (.l (.l .s)) m] (fun V=>V= .v (.i .i64) ((wid m:Nat):Int)):=by
 refine Zak Zal Tryz.func45 ?_
 refine And.intro (fun h=> ?_) (fun h=> ?_)
 ·have h':decide ((m.length:Int)=0)=true:=h
  have h0:m.length=0:=by have:=of_decide_eq_true h';omega
  rw[List.length_eq_zero_iff.1 h0]
  rfl
 ·have h':decide ((m.length:Int)=0)=false:=h
  cases m with
  |nil=>cases h'
  |cons r m=>exact⟨r,Int.le_refl 0,rfl,rfl⟩
theorem ZgX (pss:List (List Rat)):(Zkf pss).length=pss.length:=List.length_map _
theorem ZmX (m:List (List (List UInt8))):PureOK Tryz.prog Zat 15 [.v (.l (.l .s)) m] (fun V=>V= .v (.i .i64) ((wid m:Nat):Int)):=by
 refine Zak Zal Tryz.func15 ?_
 refine And.intro (fun h=> ?_) (fun h=> ?_)
 ·have h':decide ((0:Int)<(m.length:Int))=true:=h
  cases m with
  |nil=>cases h'
  |cons r m=>exact⟨r,Int.le_refl 0,rfl,rfl⟩
 ·have h':decide ((0:Int)<(m.length:Int))=false:=h
  have h0:m.length=0:=by have:=of_decide_eq_false h';omega
  rw[List.length_eq_zero_iff.1 h0]
  rfl
set_option maxHeartbeats 8000000 in
theorem Zjq {n:Nat} {l:List (List (List (List UInt8)))} {pss:List (List Rat)} (h:ZdM (n:Int) l=false) (hm:ZeH pss∈l):pss.length≤n∧(∀ps∈pss,ps.length≤n)∧ ∀ps∈pss,∀p∈ps,dz p 12:=by
 obtain⟨h1,h2⟩:=Ze4 h _ hm
 have h3:=Ze9 h2
 rw[show(ZeH pss).length=pss.length from List.length_map _]at h1
 refine⟨by omega,fun ps hp=> ?_,fun ps hp p hpp=> ?_⟩
 ·have:=(h3 (ps.map Zbi) (List.mem_map_of_mem hp)).1
  rw[List.length_map]at this
  omega
 ·have:=(h3 (ps.map Zbi) (List.mem_map_of_mem hp)).2 (Zbi p) (List.mem_map_of_mem hpp)
  exact Zrg (by omega) (by decide)
theorem Zrp {n:Nat} {l:List (List (List (List UInt8)))} {qs:List Rat} (h:ZdM (n:Int) l=false) (hm:[qs.map Zbi]∈l):qs.length≤n∧ ∀q∈qs,dz q 12:=by
 obtain⟨_,h2⟩:=Ze4 h _ hm
 obtain⟨h3,h4⟩:=Ze9 h2 _ List.mem_cons_self
 rw[List.length_map]at h3
 exact⟨by omega,fun q hq=>Zrg (by have:=h4 (Zbi q) (List.mem_map_of_mem hq);omega) (by decide)⟩
end Go.Proofs.YtdnodlkdndfplaaGreatDoor
/-
 Places behind a heap of any length; function values called in regions with light operations.
-/
namespace Go.Tx
open Go.Am
section
variable {P : Program} {h : Hints} {T : TypeId → TI} {hp : List SM} {tm : TM}
theorem Zpx {α:Type} {a:List α} {x:α} {r:List α}:nth (a++x::r) a.length=some x:=by
 rw[Zbd,List.getElem?_append_right (Nat.le_refl _),Nat.sub_self];rfl
theorem ZuQ {α:Type} {a:List α} {x y:α} {r:List α}:(a++x::r).set a.length y=a++y::r:=by
 rw[List.set_append_right _ _ (Nat.le_refl _),Nat.sub_self];rfl
variable {N : Nat} {ls : List Nat} {o : Oper} {l : List Oper} {i : Nat} {ks : List (Nat × Nat × Bool)} {kk : TM → List SM → Prop}
theorem Zxp {y:Nat×Nat×Bool} {ks':List (Nat×Nat×Bool)} {id0:Nat} {ids:List Nat} {c:Call} (hi:has i ls=false) (hd:Zmg h o ks=y::ks') (hw:isW h o=true) (hl:ZiT (y::ks')=id0::ids) (hc:o.op= .call c) (hq:ZwN h tm c=true) (ho:opT P h T o.op tm hp fun V hp'=>Zdg N o.dst V tm fun tm'=>ZaQ P h T N ls l (i+1) (y::ks') tm' hp' kk):ZaQ P h T N ls (o::l) i ks tm hp kk:=by
 rw[hc]at ho
 simp only[ZaQ,hi,hd,hw,hl,hc,hq]
 exact ho
theorem ZsZ {F:Nat} {hp1 hp2:List SM} {cs:List SV} {ct:CT} {x:ct.D} {m:Bool} (hd:ZbG ct cs=some x) (hw:cs.length=ct.w):Ent F tm (hp1++ .cell cs m::hp2) tm (hp1++ .row ct [x] m::hp2):=by
 have hget: ∀ (j:Nat) (sm:SM),(hp1++SM.row ct [x] m::hp2)[j]? =some sm→(j≠hp1.length∧(hp1++SM.cell cs m::hp2)[j]? =some sm)∨(j=hp1.length∧sm= .row ct [x] m):=by
  intro j sm hj
  by_cases e:j=hp1.length
  ·right
   subst e
   rw[List.getElem?_append_right (Nat.le_refl _),Nat.sub_self]at hj
   cases hj
   exact⟨rfl,rfl⟩
  ·left
   refine⟨e, ?_⟩
   by_cases h1:j<hp1.length
   ·rw[List.getElem?_append_left h1]at hj⊢;exact hj
   ·rw[List.getElem?_append_right (by omega)]at hj⊢
    rw[show j-hp1.length=(j-hp1.length-1)+1 by omega,List.getElem?_cons_succ]at hj⊢
    exact hj
 have hself:(hp1++SM.cell cs m::hp2)[hp1.length]? =some (.cell cs m):=by
  rw[List.getElem?_append_right (Nat.le_refl _),Nat.sub_self];rfl
 refine⟨fun φ st _ hs=>⟨φ,Fr.refl F φ,hs.tm,⟨?_, ?_, ?_⟩⟩⟩
 ·have:=hs.hp.len
  simp only[List.length_append,List.length_cons]at this⊢
  exact this
 ·intro id sm o hsm ho
  rcases hget id sm hsm with⟨_,h2⟩|⟨rfl,rfl⟩
  ·exact hs.hp.row id sm o h2 ho
  ·obtain⟨a,cs',m',rfl,h3,h4,h5⟩:=hs.hp.row _ _ o hself ho
   refine⟨[cs'],m', ?_,⟨Zc1 hd h4,trivial⟩,h5⟩
   rw[h3,←h4.len,hw]
 ·intro id id' sm sm' a hne h1 h2 h3 h4 h5 h6
  have old: ∀ (j:Nat) (sm:SM),(hp1++SM.row ct [x] m::hp2)[j]? =some sm→live sm=true→ ∃sm',(hp1++SM.cell cs m::hp2)[j]? =some sm'∧live sm'=true:=by
   intro j sm hj hl
   rcases hget j sm hj with⟨_,h⟩|⟨rfl,rfl⟩
   ·exact⟨sm,h,hl⟩
   ·exact⟨_,hself,rfl⟩
  obtain⟨m1,g1,g2⟩:=old id sm h1 h3
  obtain⟨m2,g3,g4⟩:=old id' sm' h2 h4
  exact hs.hp.inj _ _ _ _ a hne g1 g3 g2 g4 h5 h6
end
end Go.Tx
/-
 matrix.Values: the numbers of a matrix as the caller's own rows.
-/
namespace Go.Proofs.YtdnodlkdndfplaaGreatDoor
open Go.Am Go.Tx Dv Go.Lib
set_option maxRecDepth 100000
def Zr3 (p:Nat) (xs:List (List qct.D)) (n i:Nat):List SV:=ZaM p (xs.take i)++List.replicate (n-i) .nils
theorem ZiM {α:Type} (y:List α): ∀ (p:Nat) (xs:List (List α)),ZaM p (xs++ [y])=ZaM p xs++ [.ref (xs.length+p) 0 y.length none]
 |p,[]=>by rw[List.nil_append,ZaM,ZaM,ZaM,List.length_nil,Nat.zero_add];rfl
 |p,x::r=>by rw[List.cons_append,ZaM,ZaM,ZiM y (p+1) r,List.cons_append,List.length_cons,show r.length+(p+1)=r.length+1+p by omega]
theorem Zsx {p:Nat} {xs:List (List qct.D)} {i:Nat} (hi:i≤xs.length):(Zr3 p xs xs.length i).length=xs.length:=by
 rw[Zr3,List.length_append,Za3,List.length_take,List.length_replicate];omega
theorem ZsW {p i:Nat} {xs:List (List qct.D)} (hi:i<xs.length):(Zr3 p xs xs.length i).set i (.ref (i+p) 0 xs[i].length none)=Zr3 p xs xs.length (i+1):=by
 have h1:(ZaM p (xs.take i)).length=i:=by rw[Za3,List.length_take];omega
 rw[Zr3,Zr3,List.set_append_right _ _ (by omega),h1,Nat.sub_self,show xs.length-i=(xs.length-(i+1))+1 by omega,List.replicate_succ,List.set_cons_zero,List.take_succ_eq_append_getElem hi,ZiM,List.append_assoc,List.length_take,Nat.min_eq_left (by omega)]
 rfl
def ZlB (hp0:List SM) (xs:List (List qct.D)) (i:Nat):List SM:=hp0++(.many (.l qct) (Zr3 (hp0.length+1) xs xs.length i) true::Za0 qct (xs.take i))
theorem Ztv {hp0:List SM} {xs:List (List qct.D)} {i:Nat} (hi:i≤xs.length):(ZlB hp0 xs i).length=i+(hp0.length+1):=by
 rw[ZlB,List.length_append,List.length_cons,ZaF,List.length_take];omega
set_option maxHeartbeats 8000000 in
theorem Zm3 (pss:List (List Rat)) (hp0:List SM) (hl:pss.length≤1000) (hr: ∀ps∈pss,ps.length≤1000) (hf: ∀ps∈pss,∀p∈ps,Zeu p=true):OpenOK Tryz.prog Zat 68 [.v (.l (.l .s)) (ZeH pss)] hp0 (fun V hp=>V= .ref hp0.length 0 pss.length none∧hp=hp0++(.many (.l qct) (ZaM (hp0.length+1) (Zkf pss)) true::Za0 qct (Zkf pss))):=by
 refine Zrb (fn:=Tryz.f68) (code:=ZbP Tryz.f68) Zal (by kernel_rfl) Tryz.func68 (by kernel_rfl) (Nat.le_of_ble_eq_true (by kernel_rfl)) ?_
 intro base
 have hll:(ZeH pss).length=pss.length:=List.length_map _
 have hxl:(Zkf pss).length=pss.length:=ZgX pss
 have hg:=fun i (h:i<pss.length)=>ZlK h
 have hx:=fun i (h:i<pss.length)=>Zg7 h
 obtain⟨L,hL⟩: ∃l,ZeH pss=l:=⟨_,rfl⟩
 obtain⟨xs,hX⟩: ∃l,Zkf pss=l:=⟨_,rfl⟩
 rw[hL]at hll hg⊢
 rw[hX]at hxl hx⊢
 refine And.intro (show 0≤(L.length:Int)∧(L.length:Int)≤(L.length:Int)∧(24:Int)*(L.length:Int)≤281474976710656∧(L.length:Int)<9223372036854775808 by omega) ?_
 refine Zaw Zal rfl (fun(i:Nat)=> [(3, .ref hp0.length 0 xs.length none),(9, .v (.l (.l .s)) L),(10, .v (.i .i64) (L.length:Int)),(11, .v (.i .i64) (i:Int))]) (fun i=>ZlB hp0 xs i)
  (fun i=>i≤pss.length) (fun i=>pss.length-i) ?_ 0 (Nat.zero_le _) ?_
 ·intro i hi
  refine And.intro (fun h=> ?_) (fun h=> ?_)
  ·have hlt:i<pss.length:=by have h':(i:Int)<(L.length:Int):=of_decide_eq_true h;omega
   have hltx:i<xs.length:=by omega
   have gx:L[(i:Int).toNat]? =some (pss[i].map Zbi):=by rw[Int.toNat_natCast];exact hg i hlt
   have ex:xs[i]=pss[i].map ZcB:=by have:=hx i hlt;rw[List.getElem?_eq_getElem hltx]at this;exact Option.some.inj this
   have hrl:=hr pss[i] (List.getElem_mem hlt)
   have hfl:=hf pss[i] (List.getElem_mem hlt)
   have wi:IntKind.i64.wrap ((i:Int)+1)=((i+1:Nat):Int):=Zan (by omega) (by omega)
   have hP:=Zpg pss[i] (by omega) hfl
   have hel:=Zsx (p:=hp0.length+1) (xs:=xs) (i:=i) (by omega)
   have hst:=ZsW (p:=hp0.length+1) hltx
   have hvl:=Ztv (hp0:=hp0) (xs:=xs) (i:=i) (by omega)
   have ci:(0:Int)≤(i:Int)∧(i:Int)<(xs.length:Nat):=by omega
   have hil:pss[i].length=xs[i].length:=by rw[ex,List.length_map]
   repeat (first|refine Zaj ?_|refine Zaf ?_|refine Zac ?_)
   first|refine Zab (Zaa (id:=4) rfl ?_)|refine Zab (Zab (Zaa (id:=4) rfl ?_))|refine Zaa (id:=4) rfl ?_|refine Zab (Zad rfl (Zab (Zaa (id:=4) rfl ?_)))|refine Zad rfl (Zab (Zaa (id:=4) rfl ?_))
   refine Zah rfl (fun _=>rfl) rfl rfl ?_
   refine Zr9 rfl (fun _=>rfl) (Int.natCast_nonneg i) gx rfl rfl ?_
   refine Zah rfl (fun _=>rfl) rfl rfl ?_
   refine Zah rfl (fun _=>rfl) rfl rfl ?_
   refine Zah rfl (fun _=>rfl) rfl rfl ?_
   refine Zam ?_
   repeat (first|refine Zaf ?_|refine Zac ?_)
   repeat (first|refine Zaj ?_|refine Zaf ?_|refine Zac ?_)
   first|refine Zab (Zaa (id:=5) rfl ?_)|refine Zab (Zab (Zaa (id:=5) rfl ?_))|refine Zaa (id:=5) rfl ?_|refine Zab (Zad rfl (Zab (Zaa (id:=5) rfl ?_)))|refine Zad rfl (Zab (Zaa (id:=5) rfl ?_))
   refine Zah rfl (fun _=>rfl) rfl rfl ?_
   refine Zah rfl (fun _=>rfl) rfl rfl ?_
   refine Zah rfl (fun _=>rfl) rfl rfl ?_
   refine Zbv rfl ((hP.mono ?_))
   rintro _ _ _ ⟨rfl,rfl,rfl⟩
   refine ZaE rfl rfl ?_
   refine ZpY (hp':=ZlB hp0 xs i++ [.row qct (pss[i].map ZcB) true]) rfl ?_
   refine Zbv rfl (ZkK rfl rfl rfl rfl rfl (show nth (ZlB hp0 xs i++_) _=some (.many (.l qct) (Zr3 (hp0.length+1) xs xs.length i) true)from by rw[ZlB,List.append_assoc];exact Zpx) rfl ci ?_)
   refine ZaE rfl rfl ?_
   refine Zbv rfl (ZpN rfl rfl rfl (show nth (ZlB hp0 xs i++_) _=some (.many (.l qct) (Zr3 (hp0.length+1) xs xs.length i) true)from by rw[ZlB,List.append_assoc];exact Zpx) rfl rfl rfl (by omega) ?_)
   refine ZgS rfl ?_
   refine Zam ?_
   repeat (first|refine Zaf ?_|refine Zac ?_)
   refine⟨i+1,hlt,by show pss.length-(i+1)<pss.length-i;omega, ?_⟩
   have e0:0+(i:Int).toNat=i:=by rw[Int.toNat_natCast,Nat.zero_add]
   refine Ent.eqs (hp0:=ZlB hp0 xs (i+1)) ?_ (Zbu ⟨rfl,rfl,rfl,congrArg (fun x=>some (SV.v (.i .i64) x)) wi,trivial⟩)
   rw[ZlB,List.append_assoc,List.cons_append,ZuQ,e0,ZlB]
   have e1:Za0 qct (xs.take i)++ [SM.row qct (pss[i].map ZcB) true]=Za0 qct (xs.take (i+1)):=by
    rw[List.take_succ_eq_append_getElem hltx,←ex,Za0,Za0,List.map_append];rfl
   rw[e1]
   congr 2
   rw[←hst,←hil]
   show SM.many _ (List.set _ _ (.ref ((ZlB hp0 xs i).length+0) 0 _ _)) _=_
   rw[hvl]
   rfl
  ·have hi2:i=xs.length:=by have h': ¬ (i:Int)<(L.length:Int):=of_decide_eq_false h;omega
   refine⟨by rw[hxl];rfl, ?_⟩
   show ZlB hp0 xs i=_
   rw[ZlB,Zr3,hi2,Nat.sub_self,List.take_length,List.replicate_zero,List.append_nil]
 ·have e1:((L.length:Nat):Int).toNat=xs.length:=by omega
  refine Ent.eqs (hp0:=ZlB hp0 xs 0) ?_ (Zbu ⟨congrArg (fun x=>some (SV.ref hp0.length 0 x none)) e1,rfl,rfl,rfl,trivial⟩)
  show hp0++ [SM.many (.l qct) (List.replicate ((L.length:Nat):Int).toNat .nils) true]=ZlB hp0 xs 0
  rw[e1]
  rfl
end Go.Proofs.YtdnodlkdndfplaaGreatDoor
