/-
 Valid matrices; widths; what is not vast.
-/
import Derived.Test.YtdnodlkdndfplaaGreatDoorV2
set_option linter.constructorNameAsVariable false
set_option linter.unusedSimpArgs false
set_option linter.unusedVariables false
namespace Go.Proofs.YtdnodlkdndfplaaGreatDoor
open Go.Am Go.Tx Dv Go.Lib
set_option maxRecDepth 100000
theorem Ztn: ∀ {l:List (List UInt8)},(∀a∈l,ZbG a=0)→ ∃ps:List Rat,l=ps.map Zbv∧ ∀p∈ps,Zhr p=true
 | [],_=>⟨[],rfl,fun _ h=>absurd h List.not_mem_nil⟩
 |a::l,h=>by
  obtain⟨p,h1,h2⟩:=Zna (h a List.mem_cons_self)
  obtain⟨ps,h3,h4⟩:=Ztn (l:=l) (fun b hb=>h b (List.mem_cons_of_mem _ hb))
  refine⟨p::ps,by rw[List.map_cons,←h1,←h3],fun q hq=> ?_⟩
  rcases List.mem_cons.1 hq with rfl|hq
  ·exact h2
  ·exact h4 q hq
theorem Zmn {w:Int}: ∀ {m:List (List (List UInt8))},ZpS w m=0→ ∀r∈m,(r.length:Int)=w∧ZhL r=0
 | [],_,_,hr=>absurd hr List.not_mem_nil
 |x::l,h,r,hr=>by
  rw[ZpS]at h
  cases h1:decide ((x.length:Int)=w)with
  |false=>rw[h1]at h;cases h
  |true=>
   rw[h1]at h
   simp only at h
   cases h2:decide (ZhL x=0)with
   |false=>rw[h2]at h;exact absurd h (of_decide_eq_false h2)
   |true=>
    rw[h2]at h
    rcases List.mem_cons.1 hr with rfl|hr
    ·exact⟨of_decide_eq_true h1,of_decide_eq_true h2⟩
    ·exact Zmn h r hr
theorem ZqP: ∀pss:List (List Rat),wid (ZhG pss)=ZyK pss
 | []=>rfl
 |ps::_=>List.length_map _
structure Mat (m:List (List (List UInt8))) (pss:List (List Rat)):Prop where
 txt:m=ZhG pss
 fit: ∀ps∈pss,∀p∈ps,Zhr p=true
 len:pss.length≤40
 row: ∀ps∈pss,ps.length=ZyK pss
 wid:ZyK pss≤40
theorem ZoD: ∀ {m:List (List (List UInt8))},(∀r∈m,ZhL r=0)→ ∃pss:List (List Rat),m=ZhG pss∧(∀ps∈pss,∀p∈ps,Zhr p=true)∧ ∀ps∈pss,ps.length≤40
 | [],_=>⟨[],rfl,fun _ h=>absurd h List.not_mem_nil,fun _ h=>absurd h List.not_mem_nil⟩
 |r::m,h=>by
  obtain⟨h1,h2⟩:=Zq7 (h r List.mem_cons_self)
  obtain⟨ps,rfl,h3⟩:=Ztn (Zjh h2)
  obtain⟨pss,rfl,h4,h5⟩:=ZoD (m:=m) (fun x hx=>h x (List.mem_cons_of_mem _ hx))
  rw[List.length_map]at h1
  refine⟨ps::pss,rfl,fun x hx=> ?_,fun x hx=> ?_⟩
  ·rcases List.mem_cons.1 hx with rfl|hx
   ·exact h3
   ·exact h4 x hx
  ·rcases List.mem_cons.1 hx with rfl|hx
   ·exact h1
   ·exact h5 x hx
theorem Zq8 {m:List (List (List UInt8))} (h:Zi5 m=0): ∃pss,Mat m pss:=by
 have hE:Zi5 m=match decide ((40:Int)<(m.length:Int))with|true=>2|false=>ZpS (wid m:Nat) m:=rfl
 rw[hE]at h
 cases h1:decide ((40:Int)<(m.length:Int))with
 |true=>rw[h1]at h;cases h
 |false=>
  rw[h1]at h
  have h2:=Zmn h
  obtain⟨pss,rfl,h3,h4⟩:=ZoD (fun r hr=>(h2 r hr).2)
  have hl:(ZhG pss).length=pss.length:=List.length_map _
  refine⟨pss,rfl,h3,by have:=of_decide_eq_false h1;rw[hl]at this;omega,fun ps hp=> ?_, ?_⟩
  ·have:=(h2 (ps.map Zbv) (List.mem_map_of_mem hp)).1
   rw[List.length_map,ZqP]at this
   omega
  ·cases pss with
   |nil=>exact Nat.zero_le _
   |cons ps _=>exact h4 ps List.mem_cons_self
theorem ZvA (pss:List (List Rat)):(ZtG pss).length=pss.length:=List.length_map _
theorem Zub (m:List (List (List UInt8))):PureOK Tryz.prog Zaw 15 [.v (.l (.l .s)) m] (fun V=>V= .v (.i .i64) ((wid m:Nat):Int)):=by
 refine Zak Zal Tryz.func15 ?_
 refine And.intro (fun h=> ?_) (fun h=> ?_)
 ·have h':decide ((0:Int)<(m.length:Int))=true:=h
  cases m with
  |nil=>cases h'
  |cons r m=>exact⟨r,Int.le_refl 0,rfl,rfl⟩
 ·have h':decide ((0:Int)<(m.length:Int))=false:=h
  have h0:m.length=0:=by have:=of_decide_eq_false h';omega
  rw[List.length_eq_zero_iff.1 h0]
  rfl
set_option maxHeartbeats 8000000 in
theorem ZuZ {n:Nat} {l:List (List (List (List UInt8)))} {pss:List (List Rat)} (h:ZiL (n:Int) l=false) (hm:ZhG pss∈l):pss.length≤n∧(∀ps∈pss,ps.length≤n)∧ ∀ps∈pss,∀p∈ps,dz p 12:=by
 obtain⟨h1,h2⟩:=Zmi h _ hm
 have h3:=Zk5 h2
 rw[show(ZhG pss).length=pss.length from List.length_map _]at h1
 refine⟨by omega,fun ps hp=> ?_,fun ps hp p hpp=> ?_⟩
 ·have:=(h3 (ps.map Zbv) (List.mem_map_of_mem hp)).1
  rw[List.length_map]at this
  omega
 ·have:=(h3 (ps.map Zbv) (List.mem_map_of_mem hp)).2 (Zbv p) (List.mem_map_of_mem hpp)
  exact Zxe (by omega) (by decide)
end Go.Proofs.YtdnodlkdndfplaaGreatDoor
/-
 How great the numbers of a matrix get while it is reduced.
-/
namespace Go.Proofs.YtdnodlkdndfplaaGreatDoor
open Go.Am Go.Tx Dv Go.Lib La
theorem Zsq {B:Nat}: ∀n,n≤64→bd n B≤(64*B)^n
 |0,_=>Nat.le_refl 1
 |n+1,h=>by
  rw[bd,Nat.pow_succ,Nat.mul_comm ((64*B)^n),←Nat.mul_assoc]
  exact Nat.mul_le_mul (Nat.mul_le_mul h (Nat.le_refl B)) (Zsq n (by omega))
theorem ZuE {B n b:Nat} (hB:B≤2^b) (hn:n≤63):(n+1)*(B*bd n B)≤2^((b+6)*(n+1)):=by
 have h1:(n+1)*(B*bd n B)≤64*B*(64*B)^n:=by
  rw[←Nat.mul_assoc]
  exact Nat.mul_le_mul (Nat.mul_le_mul (by omega) (Nat.le_refl B)) (Zsq n (by omega))
 refine Nat.le_trans h1 ?_
 rw[Nat.mul_comm,←Nat.pow_succ,Nat.pow_mul]
 refine Nat.pow_le_pow_left ?_ _
 rw[Nat.pow_add,Nat.mul_comm]
 exact Nat.mul_le_mul hB (by decide)
theorem Zj3 {a:Int} {X e K:Nat} (h:a.natAbs≤X) (hX:X≤2^e) (he:e<32*K):ln a≤K:=by
 rw[ZyE]
 refine Nat.lt_of_le_of_lt (Nat.le_trans h hX) ?_
 rw[show(4294967296:Nat)=2^32 by decide,←Nat.pow_mul]
 exact Nat.pow_lt_pow_right (by decide) he
theorem Zyy {q:Rat} {a b:Int} {X e K:Nat} (h:q=(a:Rat)/(b:Rat)) (hb:b≠0) (h1:a.natAbs≤X) (h2:b.natAbs≤X) (hX:X≤2^e) (he:e<32*K):szQ q K:=by
 rw[h,←Rat.divInt_eq_div]
 rcases Int.lt_or_le b 0 with hn|hn
 ·rw[←Rat.neg_divInt_neg]
  exact ZfQ (by omega) (Zj3 (by rw[Int.natAbs_neg];exact h1) hX he) (Zj3 (by rw[Int.natAbs_neg];exact h2) hX he)
 ·exact ZfQ (by omega) (Zj3 h1 hX he) (Zj3 h2 hX he)
theorem Zsb (n W e:Nat) (M:Mx) (h: ∀i j,i<n→j<W→(M i j).den≤2^e∧(M i j).num.natAbs≤2^e): ∃L,Ints n W M L (2^(e*(n*W+1))):=by
 obtain⟨l,hl⟩: ∃l:List Rat,(List.range n).flatMap (fun i=>(List.range W).map fun j=>M i j)=l:=⟨_,rfl⟩
 have hmem: ∀i j,i<n→j<W→M i j∈l:=fun i j hi hj=>by
  rw[←hl,List.mem_flatMap]
  exact⟨i,List.mem_range.2 hi,List.mem_map.2 ⟨j,List.mem_range.2 hj,rfl⟩⟩
 have hlen:l.length=n*W:=by
  have hs: ∀n,((List.range n).map fun _=>W).sum=n*W:=fun n=>by
   induction n with
   |zero=>simp
   |succ n ih=>rw[List.range_succ,List.map_append,List.sum_append,ih,Nat.succ_mul];simp
  rw[←hl,List.length_flatMap,←hs n]
  simp
 obtain⟨L,h1,h2,h3⟩:=ZsO (2^e) (Nat.pow_pos (by decide)) l fun q hq=>by
  rw[←hl,List.mem_flatMap]at hq
  obtain⟨i,hi,hq⟩:=hq
  obtain⟨j,hj,rfl⟩:=List.mem_map.1 hq
  exact h i j (List.mem_range.1 hi) (List.mem_range.1 hj)
 rw[hlen,←Nat.pow_mul]at h2
 have hp:2^(e*(n*W+1))=2^(e*(n*W))*2^e:=by rw[Nat.mul_add,Nat.mul_one,Nat.pow_add]
 refine⟨L,h1, ?_,fun i j hi hj=> ?_⟩
 ·rw[hp]
  exact Nat.le_trans h2 (Nat.le_mul_of_pos_right _ (Nat.pow_pos (by decide)))
 ·obtain⟨z,hz⟩:=h3 _ (hmem i j hi hj)
  refine⟨z,hz, ?_⟩
  rw[hp]
  exact Nat.le_trans (ZtU hz (h i j hi hj).2) (Nat.mul_le_mul_right _ h2)
theorem RxDoorMK1pw {a b m n:Nat} (k:Nat) (h:a^m≤b^n) {x:Nat} (hx:x≤m*k) (ha:0<a) {y:Nat} (hy:n*k=y):a^x≤b^y:=by
 subst hy
 refine Nat.le_trans (Nat.pow_le_pow_right ha hx) ?_
 rw[Nat.pow_mul,Nat.pow_mul]
 exact Nat.pow_le_pow_left h k
theorem Zt8 {q:Rat} (h:Zhr q=true):q.den≤2^6667∧q.num.natAbs≤2^6667:=by
 have hp: ∀k,k≤2000→10^k≤2^6667:=fun k hk=>RxDoorMK1pw (a:=10) (b:=2) (x:=k) (y:=6667) (m:=34) (n:=113) 59 (by decide) (by omega) (by decide) rfl
 obtain⟨h1,h2⟩:=Zeu.1 h
 exact⟨Nat.le_trans (Nat.le_of_lt (ZkM _)) (hp _ h2),Nat.le_trans (Nat.le_of_lt (ZkM _)) (hp _ h1)⟩
end Go.Proofs.YtdnodlkdndfplaaGreatDoor
/-
 The numbers of a matrix.
-/
namespace Go.Proofs.YtdnodlkdndfplaaGreatDoor
open Go.Am Go.Tx Dv Go.Lib
set_option maxRecDepth 100000
def Zv8 (pss:List (List Rat)) (n:Nat):List SV:=(pss.map fun ps=>SV.v (.l qct) (ps.map ZeO))++List.replicate n .nils
theorem ZuA {pss:List (List Rat)} {i:Nat} (hlt:i<pss.length):(Zv8 (pss.take i) (pss.length-i)).set i (.v (.l qct) (pss[i].map ZeO))=Zv8 (pss.take (i+1)) (pss.length-(i+1)):=by
 have h1:((pss.take i).map fun ps=>SV.v (.l qct) (ps.map ZeO)).length=i:=by rw[List.length_map,List.length_take];omega
 rw[Zv8,Zv8,List.set_append_right _ _ (by omega),h1,Nat.sub_self,show pss.length-i=(pss.length-(i+1))+1 by omega,List.replicate_succ,List.set_cons_zero,←ZtC (g:=fun ps:List Rat=>SV.v (.l qct) (ps.map ZeO)) hlt,List.append_assoc]
 rfl
theorem Zll {hp:List SM} {m:Nat} {ct:CT}: ∀ {l:List (List ct.D)} {k:List SV→Prop},k (l.map fun x=>SV.v (.l ct) x)→Zhj (Zgb hp (m+2)) (l.map fun x=>SV.v (.l ct) x) k
 | [],_,hk=>hk
 |x::r,k,hk=>by
  simp only[List.map_cons,Zhj,Zgb]
  exact Zll (l:=r) hk
theorem Zur {ct:CT} {l:List (List ct.D)} {m:Bool} {n d:Nat} {o:Option Nat} {ex:List SM} {k:SV→Prop} (hn:n=l.length) (hk:k (.v (.l (.l ct)) l)):Zgb (.many (.l ct) (l.map fun x=>SV.v (.l ct) x) m::ex) (d+3) (.ref 0 0 n o) k:=by
 simp only[Zgb,nth]
 refine⟨by rw[List.length_map];omega, ?_⟩
 rw[show sub (l.map fun x=>SV.v (.l ct) x) 0 n=l.map fun x=>SV.v (.l ct) x by rw[sub,List.drop_zero,List.take_of_length_le (by rw[List.length_map];omega)]]
 refine Zll ?_
 rw[Zj8]
 exact hk
set_option maxHeartbeats 8000000 in
theorem Zt5 (pss:List (List Rat)) (hl:pss.length≤1000) (hr: ∀ps∈pss,ps.length≤1000) (hf: ∀ps∈pss,∀p∈ps,Zhr p=true):PureOK Tryz.prog Zaw 68 [.v (.l (.l .s)) (ZhG pss)] (fun V=>V= .v (.l (.l qct)) (ZtG pss)):=by
 refine Zak Zal Tryz.func68 ?_
 have hll:(ZhG pss).length=pss.length:=List.length_map _
 have hg:=fun i (h:i<pss.length)=>ZqM h
 obtain⟨L,hL⟩: ∃l,ZhG pss=l:=⟨_,rfl⟩
 rw[hL]at hll hg⊢
 refine And.intro (show 0≤(L.length:Int)∧(L.length:Int)≤(L.length:Int)∧(24:Int)*(L.length:Int)≤281474976710656∧(L.length:Int)<9223372036854775808 by omega) ?_
 refine Zaz Zal rfl (fun(t:Nat×List SV)=> [(3, .ref 0 0 pss.length none),(9, .v (.l (.l .s)) L),(10, .v (.i .i64) (L.length:Int)),(11, .v (.i .i64) (t.1:Int))]) (fun t=> [.many (.l qct) t.2 true])
  (fun t=>t.1≤pss.length∧t.2=Zv8 (pss.take t.1) (pss.length-t.1)) (fun t=>pss.length-t.1) ?_ (0,List.replicate ((L.length:Nat):Int).toNat .nils) ?_ ?_
 ·rintro⟨i,els⟩ ⟨hi,hels⟩
  simp only at hi hels
  refine And.intro (fun h=> ?_) (fun h=> ?_)
  ·have hlt:i<pss.length:=by have h':(i:Int)<(L.length:Int):=of_decide_eq_true h;omega
   have gx:L[(i:Int).toNat]? =some (pss[i].map Zbv):=by rw[Int.toNat_natCast];exact hg i hlt
   have hset:=ZuA hlt
   rw[←hels]at hset
   have hel:els.length=pss.length:=by rw[hels,Zv8,List.length_append,List.length_map,List.length_take,List.length_replicate];omega
   have wi:IntKind.i64.wrap ((i:Int)+1)=((i+1:Nat):Int):=Zao (by omega) (by omega)
   have hrl:=hr pss[i] (List.getElem_mem hlt)
   have hfi:=hf pss[i] (List.getElem_mem hlt)
   obtain⟨ps,hq⟩: ∃x,pss[i]=x:=⟨_,rfl⟩
   rw[hq]at gx hset hrl hfi
   refine⟨ps.map Zbv,Int.natCast_nonneg i,gx, ?_⟩
   refine(Zqj ps (by omega) hfi).mono ?_
   rintro _ rfl
   refine And.intro ⟨Int.natCast_nonneg i,by show(i:Int)<((pss.length:Nat):Int);omega⟩ ?_
   refine And.intro (show 0+(i:Int).toNat<els.length by rw[hel];omega) ?_
   refine⟨(i+1,els.set (0+(i:Int).toNat) (.v (.l qct) (ps.map ZeO))),⟨hlt, ?_⟩,by show pss.length-(i+1)<pss.length-i;omega, ?_⟩
   ·show els.set (0+(i:Int).toNat) _=_
    rw[Int.toNat_natCast,Nat.zero_add]
    exact hset
   ·exact ZaO ⟨rfl,rfl,rfl,congrArg (fun x=>some (SV.v (.i .i64) x)) wi,trivial⟩
  ·have hi2:i=pss.length:=by have h': ¬ (i:Int)<(L.length:Int):=of_decide_eq_false h;omega
   have he:els=(ZtG pss).map fun x=>SV.v (.l qct) x:=by
    rw[hels,hi2,Nat.sub_self,Zv8,List.replicate_zero,List.append_nil,List.take_length,ZtG,List.map_map]
    rfl
   have hfin:Zgb [.many (.l qct) els true] (37+3) (.ref 0 0 pss.length none) (fun V=>V=SV.v (.l (.l qct)) (ZtG pss)):=by
    rw[he]
    exact Zur (by rw[ZtG,List.length_map]) rfl
   exact hfin
 ·refine⟨Nat.zero_le _, ?_⟩
  show List.replicate ((L.length:Nat):Int).toNat SV.nils=Zv8 (pss.take 0) (pss.length-0)
  rw[Int.toNat_natCast,hll]
  rfl
 ·have e1:((L.length:Nat):Int).toNat=pss.length:=by omega
  exact ZaO ⟨congrArg (fun x=>some (SV.ref 0 0 x none)) e1,rfl,rfl,rfl,trivial⟩
end Go.Proofs.YtdnodlkdndfplaaGreatDoor
/-
 lin.Rank, solve.Rank.
-/
namespace Go.Proofs.YtdnodlkdndfplaaGreatDoor
open Go.Am Go.Tx Dv Go.Lib La
set_option maxRecDepth 100000
def mxQ (pss:List (List Rat)):Mx:=fun i j=>(pss.getD i []).getD j 0
theorem Zyd {pss:List (List Rat)} {W:Nat} (h: ∀ps∈pss,ps.length=W):ZtG pss=Zcm pss.length W (mxQ pss):=by
 apply List.ext_getElem?
 intro i
 by_cases hi:i<pss.length
 ·rw[ZwS hi,ZjS hi]
  congr 1
  apply List.ext_getElem?
  intro j
  have hl:=h pss[i] (List.getElem_mem hi)
  by_cases hj:j<W
  ·rw[List.getElem?_map,List.getElem?_eq_getElem (by omega),Zj5 hj,Option.map_some,mxQ,getD_at' hi,getD_at' (by omega)]
  ·rw[List.getElem?_eq_none (by rw[List.length_map];omega),List.getElem?_eq_none (by rw[Zce];omega)]
 ·rw[List.getElem?_eq_none (by rw[ZvA];omega),List.getElem?_eq_none (by rw[ZaQ];omega)]
where getD_at' {α:Type} {l:List α} {i:Nat} {d:α} (h:i<l.length):l.getD i d=l[i]:=by rw[List.getD_eq_getElem?_getD,List.getElem?_eq_getElem h];rfl
end Go.Proofs.YtdnodlkdndfplaaGreatDoor
/-
 'append' onto rows held by content; one row that is left of all memory; more rules for looked-ahead values.
-/
namespace Go.Tx
open Go.Am
section
variable {P : Program} {h : Hints} {T : TypeId → TI} {hp : List SM} {tm : TM} {F : Nat}
theorem Zsg {c:Cx} {k:Ex→TM→List SM→Prop} (hn:k .ret tm hp):wp P h T F c .ret tm hp k:=hn
theorem Zvg {k:Ex→TM→List SM→Prop} {n:TM→List SM→Prop} (hn:k .ret tm hp):Zx6 k n .ret tm hp:=hn
theorem Zuw {id:Nat} {k:Ex→TM→List SM→Prop} (hn:k .ret tm hp):ZtJ id k .ret tm hp:=hn
theorem ZsB {σ:Type} {ctm:σ→TM} {chp:σ→List SM} {Inv:σ→Prop} {meas:σ→Nat} {a:σ} {k:Ex→TM→List SM→Prop} (hn:k .ret tm hp):ZwA F ctm chp Inv meas a k .ret tm hp:=hn
theorem Zvz {c:Cx} {x:Operand} {a b:Code} {t:Bool} {k:Ex→TM→List SM→Prop} (hx:evS tm x=some (.v .b t)) (ha:t=true→CodeOK P h F c a tm hp k) (hb:t=false→CodeOK P h F c b tm hp k):CodeOK P h F c (.cond x a b) tm hp k:=by
 refine⟨fun φ st hF hs=> ?_⟩
 obtain⟨q,h1,h2⟩:=hs.ev _ _ hx
 rw[Ze3 h2]at h1
 cases t with
 |true=>
  obtain⟨e,st',φ',tm',hp',g1,g2,g3,g4⟩:=(ha rfl).out φ st hF hs
  exact⟨e,st',φ',tm',hp',by simp only[exS,h1,Option.bind_some,Ziv,g1],g2,g3,g4⟩
 |false=>
  obtain⟨e,st',φ',tm',hp',g1,g2,g3,g4⟩:=(hb rfl).out φ st hF hs
  exact⟨e,st',φ',tm',hp',by simp only[exS,h1,Option.bind_some,Ziv,g1],g2,g3,g4⟩
theorem Zpc {c:Cx} {n0:TM→List SM→Prop} {id:Nat} {k:Ex→TM→List SM→Prop} (hn:k .normal tm hp):wp P h T F c (.exit id) tm hp (Zx6 (ZtJ id k) n0):=by
 show ZtJ id k (.exit id) tm hp
 have e:Nat.beq id id=true:=Nat.beq_refl id
 simp only[ZtJ,e]
 exact hn
theorem ZxL {tm tm':TM} {id:Nat} {m:SM} (hm:nth hp id=some m) (hr:Zk3 m=[]) (htm:Zx3 (fun _=>id) 1 tm tm'):Ent 0 tm hp tm' [m]:=by
 rw[ZaT]at hm
 refine Zm5 (fun _=>id) (Nat.zero_le _) (fun j hj=>absurd hj (Nat.not_lt_zero j)) (fun j _=>(List.getElem?_eq_some_iff.1 hm).1) (fun i j hi hj _=> ?_) htm fun j x hx=> ?_
 ·have hi:i<1:=hi
  have hj:j<1:=hj
  omega
 ·have hjl:=(List.getElem?_eq_some_iff.1 hx).1
  have e:j=0:=by have h1:j<1:=hjl;omega
  subst e
  cases hx
  refine .inr ⟨?_,fun id hid=>by rw[hr]at hid;exact absurd hid List.not_mem_nil⟩
  rw[hm,Zs1 (p:=0) (fun j hj=>absurd hj (Nat.not_lt_zero j)) m (fun id hid=>by rw[hr]at hid;exact absurd hid List.not_mem_nil)]
theorem Zyr {α:Type} {l:List α} {n:Nat} {x:α} (h:nth l n=some x):n<l.length:=by
 rw[ZaT]at h;exact(List.getElem?_eq_some_iff.1 h).1
theorem Zku {α:Type} {l:List α} {n:Nat} {x y:α} (h:nth l n=some x):nth (l++ [y]) n=some x:=by
 have h1:=Zyr h
 rw[ZaT]at h⊢
 rw[List.getElem?_append_left h1,h]
theorem ZrH {α:Type} {l:List α} {i n:Nat} {x:α} (h:i≠n):nth (l.set i x) n=nth l n:=by rw[ZaT,ZaT,List.getElem?_set_ne h]
theorem Zwk {id j:Nat} (h:id≠j):nth (frz1 hp id) j=nth hp j:=by
 unfold frz1
 split<;>first|rfl|exact ZrH h
theorem ZrI {j:Nat}: ∀ {ids:List Nat} {hp:List SM},j ∉ ids→nth (frzT hp ids) j=nth hp j
 | [],_,_=>rfl
 |i::r,hp,h=>by
  rw[frzT,ZrI fun h1=>h (List.mem_cons_of_mem _ h1)]
  exact Zwk fun e=>h (by rw[e];exact List.mem_cons_self)
theorem Zq2 {op:Op} {ct:CT} {by_ id n:Nat} {X:SV} {l new:List ct.D} {k:SV→List SM→Prop}
 {c:Call} {t t2 e e2:TypeId} {ts:List TypeId} (ho:op= .call c) (hc:c.callee= .builtin .append) (ha:evL tm c.args.toList=some [.ref id 0 n none,X]) (ht:c.argTypes.toList=t::t2::ts) (hk1:(T t).k= .slice e) (hk2:(T t2).k= .slice e2) (hct:(T e).ct=some ct) (hby:(T e).by_=by_) (hok:(Zdz (T e).k,Nat.ble 1 (T e).by_&&Nat.ble 1 (T e).sz,h.frz t)=(false,true,false))
 (hn:nth hp id=some (.row ct l true)) (hl:n=l.length) (hX: ∀kk:List ct.D→Prop,kk new→ZtE ct hp X kk) (hz:(n+new.length)*by_≤140737488355328)
 (hk: ∀id' hp',nth hp' id'=some (.row ct (l++new) true)→(∀j,j≠id→j<hp.length→nth hp' j=nth hp j)→hp.length≤hp'.length→(id'=id∨hp.length≤id')→k (.ref id' 0 (n+new.length) none) hp'):opT P h T op tm hp k:=by
 have hg:ZtE ct hp X (fun new=>ZtF ct by_ hp (.ref id 0 n none) new k):=by
  refine hX _ ?_
  have e1:sub l 0 n=l:=by rw[sub,List.drop_zero,List.take_of_length_le (by omega)]
  cases new with
  |nil=>
   simp only[ZtF,hn]
   rw[dif_pos (ZdV ct)]
   refine⟨by omega, ?_⟩
   exact hk id hp (by rw[List.append_nil];exact hn) (fun _ _ _=>rfl) (Nat.le_refl _) (.inl rfl)
  |cons x r=>
   refine Zoa hn (by omega) hz ?_
   rw[e1]
   have hlen:(hp.set id .dead++ [SM.row ct (l++x::r) true]).length=hp.length+1:=by rw[List.length_append,List.length_set];rfl
   refine hk hp.length _ ?_ (fun j hj hjl=> ?_) (by rw[hlen];omega) (.inr (Nat.le_refl _))
   ·rw[ZaT,List.getElem?_append_right (by rw[List.length_set];exact Nat.le_refl _),List.length_set,Nat.sub_self];rfl
   ·rw[ZaT,List.getElem?_append_left (by rw[List.length_set];exact hjl),List.getElem?_set_ne (fun e=>hj e.symm),ZaT]
 simp only[Prod.mk.injEq]at hok
 obtain⟨ok1,ok2,ok3⟩:=hok
 simp only[ho,opT,ZrX,ha,hc,Zia,ht,hk1,hk2,hct,ok2,ok3]
 subst hby
 generalize(T e).k=kk at*
 cases kk<;>first|(cases ok1;done)|exact hg
theorem Zrs {ct:CT} {xs:List ct.D} {kk:List ct.D→Prop} (h:kk xs):ZtE ct hp (.v (.l ct) xs) kk:=by
 simp only[ZtE]
 rw[dif_pos (ZdV ct)]
 exact h
theorem ZxP {op:Op} {ct:CT} {by_ id n:Nat} {X:SV} {l:List ct.D} {x:ct.D} {k:SV→List SM→Prop}
 {c:Call} {t t2 e e2:TypeId} {ts:List TypeId} (ho:op= .call c) (hc:c.callee= .builtin .append) (ha:evL tm c.args.toList=some [.ref id 0 n none,X]) (ht:c.argTypes.toList=t::t2::ts) (hk1:(T t).k= .slice e) (hk2:(T t2).k= .slice e2) (hct:(T e).ct=some ct) (hby:(T e).by_=by_) (hok:(Zdz (T e).k,Nat.ble 1 (T e).by_&&Nat.ble 1 (T e).sz,h.frz t)=(false,true,true))
 (hX: ∀kk:SV→Prop,kk (.v (.l ct) [x])→Zgb hp 40 X kk) (hni:id ∉ ZkY hp 40 X) (hn:nth hp id=some (.row ct l true)) (hl:n=l.length) (hz:(n+1)*by_≤140737488355328)
 (hk: ∀id' hp',nth hp' id'=some (.row ct (l++ [x]) true)→k (.ref id' 0 (n+1) none) hp'):opT P h T op tm hp k:=by
 have hg:Zgb hp 40 X fun V=>ZtE ct [] V fun new=>ZtF ct by_ (frzT hp (ZkY hp 40 X)) (.ref id 0 n none) new k:=by
  refine hX _ (Zrs ?_)
  refine Zoa (by rw[ZrI hni];exact hn) (by rw[hl];omega) hz ?_
  have e1:sub l 0 n=l:=by rw[sub,List.drop_zero,List.take_of_length_le (by omega)]
  rw[e1]
  refine hk _ _ ?_
  rw[ZaT,List.getElem?_append_right (by rw[List.length_set];exact Nat.le_refl _),List.length_set,Nat.sub_self];rfl
 simp only[Prod.mk.injEq]at hok
 obtain⟨ok1,ok2,ok3⟩:=hok
 simp only[ho,opT,ZrX,ha,hc,Zia,ht,hk1,hk2,hct,ok2,ok3]
 subst hby
 generalize(T e).k=kk at*
 cases kk<;>first|(cases ok1;done)|exact hg
theorem Zwv {ct:CT} {m r W n:Nat} {l:List ct.D} {b b2:Bool} {k:SV→Prop} (hm:nth hp m=some (.many (.l ct) [.ref r 0 W none] b)) (hr:nth hp r=some (.row ct l b2)) (hl:l.length=W) (hk:k (.v (.l (.l ct)) [l])):Zgb hp (n+3) (.ref m 0 1 none) k:=by
 simp only[Zgb,hm]
 refine⟨Nat.le_refl 1, ?_⟩
 have e:sub [SV.ref r 0 W none] 0 1=[.ref r 0 W none]:=rfl
 rw[e]
 simp only[Zhj,Zgb,hr]
 refine⟨by omega, ?_⟩
 have e2:sub l 0 W=l:=by rw[sub,List.drop_zero,List.take_of_length_le (by omega)]
 have e3:Zwa (.l ct) [SV.v (.l ct) (sub l 0 W)]=some [l]:=by rw[e2];exact Zj8 [l]
 rw[e3]
 exact hk
theorem Zux {ct:CT} {m r W n:Nat} {l:List ct.D} {b b2:Bool} (hm:nth hp m=some (.many (.l ct) [.ref r 0 W none] b)) (hr:nth hp r=some (.row ct l b2)):ZkY hp (n+2) (.ref m 0 1 none)=[m,r]:=by
 have e:sub [SV.ref r 0 W none] 0 1=[.ref r 0 W none]:=rfl
 simp only[ZkY,hm,e,List.flatMap_cons,List.flatMap_nil,hr,List.append_nil]
variable {N i dd : Nat} {ls : List Nat} {l : List Oper} {o : Oper} {ks : List (Nat × Nat × Bool)} {kk : TM → List SM → Prop} {V : SV}
theorem Zxj {bo:BinOp} {t y2:TypeId} {x y:Operand} (hi:has i ls=true) (ho:o.op= .binOp bo t x y y2) (he:opT P h T (.binOp bo t x y y2) tm hp fun W hp'=>ZcS N o.dst W tm fun tm'=>ZaS P h T N ls l (i+1) ks tm' hp' kk):ZaS P h T N ls (o::l) i ks tm hp kk:=by
 simp only[ZaS,hi,ho]
 exact he
theorem Zyj {t:TypeId} {x:Operand} {lo hi' mx:Option Operand} {ct:CT} {xs:List ct.D} (hi:has i ls=true) (ho:o.op= .slice t x lo hi' mx) (hx:evS tm x=some (.v (.l ct) xs)) (he:opT P h T (.slice t x lo hi' mx) tm hp fun W hp'=>ZcS N o.dst W tm fun tm'=>ZaS P h T N ls l (i+1) ks tm' hp' kk):ZaS P h T N ls (o::l) i ks tm hp kk:=by
 simp only[ZaS,hi,ho,hx]
 exact he
end
end Go.Tx
