/-
 What is not vast.
-/
import Derived.Test.YtdnodlkdndfplaaGreatDoorV5
set_option linter.constructorNameAsVariable false
set_option linter.unusedSimpArgs false
set_option linter.unusedVariables false
namespace Go.Proofs.YtdnodlkdndfplaaGreatDoor
open Go.Am Go.Tx Dv Go.Lib
set_option maxRecDepth 100000
theorem Zyp:dz 0 1:=⟨ZoD (by decide) (by decide),ZoD (by decide) (by decide)⟩
end Go.Proofs.YtdnodlkdndfplaaGreatDoor
/-
 Valid matrices; widths; what is not vast.
-/
namespace Go.Proofs.YtdnodlkdndfplaaGreatDoor
open Go.Am Go.Tx Dv Go.Lib
set_option maxRecDepth 100000
theorem ZnF: ∀ {l:List (List UInt8)},(∀a∈l,ZbK a=0)→ ∃ps:List Rat,l=ps.map ZaX∧ ∀p∈ps,ZjJ p=true
 | [],_=>⟨[],rfl,fun _ h=>absurd h List.not_mem_nil⟩
 |a::l,h=>by
  obtain⟨p,h1,h2⟩:=ZnE (h a List.mem_cons_self)
  obtain⟨ps,h3,h4⟩:=ZnF (l:=l) (fun b hb=>h b (List.mem_cons_of_mem _ hb))
  refine⟨p::ps,by rw[List.map_cons,←h1,←h3],fun q hq=> ?_⟩
  rcases List.mem_cons.1 hq with rfl|hq
  ·exact h2
  ·exact h4 q hq
theorem ZmX {w:Int}: ∀ {m:List (List (List UInt8))},ZqY w m=0→ ∀r∈m,(r.length:Int)=w∧ZdP r=0
 | [],_,_,hr=>absurd hr List.not_mem_nil
 |x::l,h,r,hr=>by
  rw[ZqY]at h
  cases h1:decide ((x.length:Int)=w)with
  |false=>rw[h1]at h;cases h
  |true=>
   rw[h1]at h
   simp only at h
   cases h2:decide (ZdP x=0)with
   |false=>rw[h2]at h;exact absurd h (of_decide_eq_false h2)
   |true=>
    rw[h2]at h
    rcases List.mem_cons.1 hr with rfl|hr
    ·exact⟨of_decide_eq_true h1,of_decide_eq_true h2⟩
    ·exact ZmX h r hr
theorem Zup: ∀pss:List (List Rat),wid (Zqb pss)=ZdF pss
 | []=>rfl
 |ps::_=>List.length_map _
structure Mat (m:List (List (List UInt8))) (pss:List (List Rat)):Prop where
 txt:m=Zqb pss
 fit: ∀ps∈pss,∀p∈ps,ZjJ p=true
 len:pss.length≤40
 row: ∀ps∈pss,ps.length=ZdF pss
 wid:ZdF pss≤40
theorem Zqc: ∀ {m:List (List (List UInt8))},(∀r∈m,ZdP r=0)→ ∃pss:List (List Rat),m=Zqb pss∧(∀ps∈pss,∀p∈ps,ZjJ p=true)∧ ∀ps∈pss,ps.length≤40
 | [],_=>⟨[],rfl,fun _ h=>absurd h List.not_mem_nil,fun _ h=>absurd h List.not_mem_nil⟩
 |r::m,h=>by
  obtain⟨h1,h2⟩:=Zmg (h r List.mem_cons_self)
  obtain⟨ps,rfl,h3⟩:=ZnF (Zg4 h2)
  obtain⟨pss,rfl,h4,h5⟩:=Zqc (m:=m) (fun x hx=>h x (List.mem_cons_of_mem _ hx))
  rw[List.length_map]at h1
  refine⟨ps::pss,rfl,fun x hx=> ?_,fun x hx=> ?_⟩
  ·rcases List.mem_cons.1 hx with rfl|hx
   ·exact h3
   ·exact h4 x hx
  ·rcases List.mem_cons.1 hx with rfl|hx
   ·exact h1
   ·exact h5 x hx
theorem Zt6 {m:List (List (List UInt8))} (h:Zjy m=0): ∃pss,Mat m pss:=by
 have hE:Zjy m=match decide ((40:Int)<(m.length:Int))with|true=>2|false=>ZqY (wid m:Nat) m:=rfl
 rw[hE]at h
 cases h1:decide ((40:Int)<(m.length:Int))with
 |true=>rw[h1]at h;cases h
 |false=>
  rw[h1]at h
  have h2:=ZmX h
  obtain⟨pss,rfl,h3,h4⟩:=Zqc (fun r hr=>(h2 r hr).2)
  have hl:(Zqb pss).length=pss.length:=List.length_map _
  refine⟨pss,rfl,h3,by have:=of_decide_eq_false h1;rw[hl]at this;omega,fun ps hp=> ?_, ?_⟩
  ·have:=(h2 (ps.map ZaX) (List.mem_map_of_mem hp)).1
   rw[List.length_map,Zup]at this
   omega
  ·cases pss with
   |nil=>exact Nat.zero_le _
   |cons ps _=>exact h4 ps List.mem_cons_self
theorem Zu4 (pss:List (List Rat)):(ZuZ pss).length=pss.length:=List.length_map _
theorem Zve (m:List (List (List UInt8))):PureOK Tryz.prog Zan 15 [.v (.l (.l .s)) m] (fun V=>V= .v (.i .i64) ((wid m:Nat):Int)):=by
 refine Zac Zaa Tryz.func15 ?_
 refine And.intro (fun h=> ?_) (fun h=> ?_)
 ·have h':decide ((0:Int)<(m.length:Int))=true:=h
  cases m with
  |nil=>cases h'
  |cons r m=>exact⟨r,Int.le_refl 0,rfl,rfl⟩
 ·have h':decide ((0:Int)<(m.length:Int))=false:=h
  have h0:m.length=0:=by have:=of_decide_eq_false h';omega
  rw[List.length_eq_zero_iff.1 h0]
  rfl
set_option maxHeartbeats 8000000 in
theorem ZvX {n:Nat} {l:List (List (List (List UInt8)))} {pss:List (List Rat)} (h:ZiF (n:Int) l=false) (hm:Zqb pss∈l):pss.length≤n∧(∀ps∈pss,ps.length≤n)∧ ∀ps∈pss,∀p∈ps,dz p 12:=by
 obtain⟨h1,h2⟩:=Zij h _ hm
 have h3:=ZiZ h2
 rw[show(Zqb pss).length=pss.length from List.length_map _]at h1
 refine⟨by omega,fun ps hp=> ?_,fun ps hp p hpp=> ?_⟩
 ·have:=(h3 (ps.map ZaX) (List.mem_map_of_mem hp)).1
  rw[List.length_map]at this
  omega
 ·have:=(h3 (ps.map ZaX) (List.mem_map_of_mem hp)).2 (ZaX p) (List.mem_map_of_mem hpp)
  exact Ztg (by omega) (by decide)
theorem ZtX {n:Nat} {l:List (List (List (List UInt8)))} {qs:List Rat} (h:ZiF (n:Int) l=false) (hm:[qs.map ZaX]∈l):qs.length≤n∧ ∀q∈qs,dz q 12:=by
 obtain⟨_,h2⟩:=Zij h _ hm
 obtain⟨h3,h4⟩:=ZiZ h2 _ List.mem_cons_self
 rw[List.length_map]at h3
 exact⟨by omega,fun q hq=>Ztg (by have:=h4 (ZaX q) (List.mem_map_of_mem hq);omega) (by decide)⟩
end Go.Proofs.YtdnodlkdndfplaaGreatDoor
/-
 How great the numbers of a matrix get while it is reduced.
-/
namespace Go.Proofs.YtdnodlkdndfplaaGreatDoor
open Go.Am Go.Tx Dv Go.Lib La
theorem Zuj {B:Nat}: ∀n,n≤64→bd n B≤(64*B)^n
 |0,_=>Nat.le_refl 1
 |n+1,h=>by
  rw[bd,Nat.pow_succ,Nat.mul_comm ((64*B)^n),←Nat.mul_assoc]
  exact Nat.mul_le_mul (Nat.mul_le_mul h (Nat.le_refl B)) (Zuj n (by omega))
theorem ZvF {B n b:Nat} (hB:B≤2^b) (hn:n≤63):(n+1)*(B*bd n B)≤2^((b+6)*(n+1)):=by
 have h1:(n+1)*(B*bd n B)≤64*B*(64*B)^n:=by
  rw[←Nat.mul_assoc]
  exact Nat.mul_le_mul (Nat.mul_le_mul (by omega) (Nat.le_refl B)) (Zuj n (by omega))
 refine Nat.le_trans h1 ?_
 rw[Nat.mul_comm,←Nat.pow_succ,Nat.pow_mul]
 refine Nat.pow_le_pow_left ?_ _
 rw[Nat.pow_add,Nat.mul_comm]
 exact Nat.mul_le_mul hB (by decide)
theorem Zlv {a:Int} {X e K:Nat} (h:a.natAbs≤X) (hX:X≤2^e) (he:e<32*K):ln a≤K:=by
 rw[Zzx]
 refine Nat.lt_of_le_of_lt (Nat.le_trans h hX) ?_
 rw[show(4294967296:Nat)=2^32 by decide,←Nat.pow_mul]
 exact Nat.pow_lt_pow_right (by decide) he
theorem ZAu {q:Rat} {a b:Int} {X e K:Nat} (h:q=(a:Rat)/(b:Rat)) (hb:b≠0) (h1:a.natAbs≤X) (h2:b.natAbs≤X) (hX:X≤2^e) (he:e<32*K):szQ q K:=by
 rw[h,←Rat.divInt_eq_div]
 rcases Int.lt_or_le b 0 with hn|hn
 ·rw[←Rat.neg_divInt_neg]
  exact ZlA (by omega) (Zlv (by rw[Int.natAbs_neg];exact h1) hX he) (Zlv (by rw[Int.natAbs_neg];exact h2) hX he)
 ·exact ZlA (by omega) (Zlv h1 hX he) (Zlv h2 hX he)
theorem ZAx {n W b K:Nat} {M:Mx} {L:Int} (hI:Ints n W M L (2^b)) (hn:n≤63) (hK:(b+6)*(n+1)<32*K): ∀k p N,k≤W→Elm n W M k p N→ ∀i j,i<n→j<W→szQ (N i j) K:=by
 intro k p N hk hE i j hi hj
 obtain⟨x,y,h1,h2,h3,h4⟩:=hE.size hI (Nat.pow_pos (by decide)) hk hi hj
 exact ZAu h2 h1 h3 h4 (ZvF (Nat.le_refl _) hn) hK
theorem ZrS (n W e:Nat) (M:Mx) (h: ∀i j,i<n→j<W→(M i j).den≤2^e∧(M i j).num.natAbs≤2^e): ∃L,Ints n W M L (2^(e*(n*W+1))):=by
 obtain⟨l,hl⟩: ∃l:List Rat,(List.range n).flatMap (fun i=>(List.range W).map fun j=>M i j)=l:=⟨_,rfl⟩
 have hmem: ∀i j,i<n→j<W→M i j∈l:=fun i j hi hj=>by
  rw[←hl,List.mem_flatMap]
  exact⟨i,List.mem_range.2 hi,List.mem_map.2 ⟨j,List.mem_range.2 hj,rfl⟩⟩
 have hlen:l.length=n*W:=by
  have hs: ∀n,((List.range n).map fun _=>W).sum=n*W:=fun n=>by
   induction n with
   |zero=>simp
   |succ n ih=>rw[List.range_succ,List.map_append,List.sum_append,ih,Nat.succ_mul];simp
  rw[←hl,List.length_flatMap,←hs n]
  simp
 obtain⟨L,h1,h2,h3⟩:=Zud (2^e) (Nat.pow_pos (by decide)) l fun q hq=>by
  rw[←hl,List.mem_flatMap]at hq
  obtain⟨i,hi,hq⟩:=hq
  obtain⟨j,hj,rfl⟩:=List.mem_map.1 hq
  exact h i j (List.mem_range.1 hi) (List.mem_range.1 hj)
 rw[hlen,←Nat.pow_mul]at h2
 have hp:2^(e*(n*W+1))=2^(e*(n*W))*2^e:=by rw[Nat.mul_add,Nat.mul_one,Nat.pow_add]
 refine⟨L,h1, ?_,fun i j hi hj=> ?_⟩
 ·rw[hp]
  exact Nat.le_trans h2 (Nat.le_mul_of_pos_right _ (Nat.pow_pos (by decide)))
 ·obtain⟨z,hz⟩:=h3 _ (hmem i j hi hj)
  refine⟨z,hz, ?_⟩
  rw[hp]
  exact Nat.le_trans (Zv4 hz (h i j hi hj).2) (Nat.mul_le_mul_right _ h2)
theorem RxDoorM61pw {a b m n:Nat} (k:Nat) (h:a^m≤b^n) {x:Nat} (hx:x≤m*k) (ha:0<a) {y:Nat} (hy:n*k=y):a^x≤b^y:=by
 subst hy
 refine Nat.le_trans (Nat.pow_le_pow_right ha hx) ?_
 rw[Nat.pow_mul,Nat.pow_mul]
 exact Nat.pow_le_pow_left h k
theorem Zu7 {q:Rat} (h:ZjJ q=true):q.den≤2^6667∧q.num.natAbs≤2^6667:=by
 have hp: ∀k,k≤2000→10^k≤2^6667:=fun k hk=>RxDoorM61pw (a:=10) (b:=2) (x:=k) (y:=6667) (m:=34) (n:=113) 59 (by decide) (by omega) (by decide) rfl
 obtain⟨h1,h2⟩:=Ze0.1 h
 exact⟨Nat.le_trans (Nat.le_of_lt (ZlP _)) (hp _ h2),Nat.le_trans (Nat.le_of_lt (ZlP _)) (hp _ h1)⟩
theorem Zz0 {n W:Nat} {M:Mx} (hn:n≤40) (hW:W≤41) (hf: ∀i j,i<n→j<W→ZjJ (M i j)=true): ∀k p N,k≤W→Elm n W M k p N→ ∀i j,i<n→j<W→szQ (N i j) 20000000:=by
 obtain⟨L,hI⟩:=ZrS n W 6667 M fun i j hi hj=>Zu7 (hf i j hi hj)
 refine ZAx hI (by omega) ?_
 have h1:n*W≤40*41:=Nat.mul_le_mul hn hW
 have h2:6667*(n*W+1)+6≤10940553:=by omega
 have h3:=Nat.mul_le_mul h2 (show n+1≤41 by omega)
 omega
end Go.Proofs.YtdnodlkdndfplaaGreatDoor
/-
 The numbers of a matrix.
-/
namespace Go.Proofs.YtdnodlkdndfplaaGreatDoor
open Go.Am Go.Tx Dv Go.Lib
set_option maxRecDepth 100000
def Zxj (pss:List (List Rat)) (n:Nat):List SV:=(pss.map fun ps=>SV.v (.l qct) (ps.map Zcy))++List.replicate n .nils
theorem ZwM {pss:List (List Rat)} {i:Nat} (hlt:i<pss.length):(Zxj (pss.take i) (pss.length-i)).set i (.v (.l qct) (pss[i].map Zcy))=Zxj (pss.take (i+1)) (pss.length-(i+1)):=by
 have h1:((pss.take i).map fun ps=>SV.v (.l qct) (ps.map Zcy)).length=i:=by rw[List.length_map,List.length_take];omega
 rw[Zxj,Zxj,List.set_append_right _ _ (by omega),h1,Nat.sub_self,show pss.length-i=(pss.length-(i+1))+1 by omega,List.replicate_succ,List.set_cons_zero,←Zt7 (g:=fun ps:List Rat=>SV.v (.l qct) (ps.map Zcy)) hlt,List.append_assoc]
 rfl
theorem Zng {hp:List SM} {m:Nat} {ct:CT}: ∀ {l:List (List ct.D)} {k:List SV→Prop},k (l.map fun x=>SV.v (.l ct) x)→Zfc (ZdB hp (m+2)) (l.map fun x=>SV.v (.l ct) x) k
 | [],_,hk=>hk
 |x::r,k,hk=>by
  simp only[List.map_cons,Zfc,ZdB]
  exact Zng (l:=r) hk
theorem ZwL {ct:CT} {l:List (List ct.D)} {m:Bool} {n d:Nat} {o:Option Nat} {ex:List SM} {k:SV→Prop} (hn:n=l.length) (hk:k (.v (.l (.l ct)) l)):ZdB (.many (.l ct) (l.map fun x=>SV.v (.l ct) x) m::ex) (d+3) (.ref 0 0 n o) k:=by
 simp only[ZdB,nth]
 refine⟨by rw[List.length_map];omega, ?_⟩
 rw[show sub (l.map fun x=>SV.v (.l ct) x) 0 n=l.map fun x=>SV.v (.l ct) x by rw[sub,List.drop_zero,List.take_of_length_le (by rw[List.length_map];omega)]]
 refine Zng ?_
 rw[Zh6]
 exact hk
set_option maxHeartbeats 8000000 in
theorem Zwz (pss:List (List Rat)) (hl:pss.length≤1000) (hr: ∀ps∈pss,ps.length≤1000) (hf: ∀ps∈pss,∀p∈ps,ZjJ p=true):PureOK Tryz.prog Zan 68 [.v (.l (.l .s)) (Zqb pss)] (fun V=>V= .v (.l (.l qct)) (ZuZ pss)):=by
 refine Zac Zaa Tryz.func68 ?_
 have hll:(Zqb pss).length=pss.length:=List.length_map _
 have hg:=fun i (h:i<pss.length)=>ZuG h
 obtain⟨L,hL⟩: ∃l,Zqb pss=l:=⟨_,rfl⟩
 rw[hL]at hll hg⊢
 refine And.intro (show 0≤(L.length:Int)∧(L.length:Int)≤(L.length:Int)∧(24:Int)*(L.length:Int)≤281474976710656∧(L.length:Int)<9223372036854775808 by omega) ?_
 refine Zat Zaa rfl (fun(t:Nat×List SV)=> [(3, .ref 0 0 pss.length none),(9, .v (.l (.l .s)) L),(10, .v (.i .i64) (L.length:Int)),(11, .v (.i .i64) (t.1:Int))]) (fun t=> [.many (.l qct) t.2 true])
  (fun t=>t.1≤pss.length∧t.2=Zxj (pss.take t.1) (pss.length-t.1)) (fun t=>pss.length-t.1) ?_ (0,List.replicate ((L.length:Nat):Int).toNat .nils) ?_ ?_
 ·rintro⟨i,els⟩ ⟨hi,hels⟩
  simp only at hi hels
  refine And.intro (fun h=> ?_) (fun h=> ?_)
  ·have hlt:i<pss.length:=by have h':(i:Int)<(L.length:Int):=of_decide_eq_true h;omega
   have gx:L[(i:Int).toNat]? =some (pss[i].map ZaX):=by rw[Int.toNat_natCast];exact hg i hlt
   have hset:=ZwM hlt
   rw[←hels]at hset
   have hel:els.length=pss.length:=by rw[hels,Zxj,List.length_append,List.length_map,List.length_take,List.length_replicate];omega
   have wi:IntKind.i64.wrap ((i:Int)+1)=((i+1:Nat):Int):=Zah (by omega) (by omega)
   have hrl:=hr pss[i] (List.getElem_mem hlt)
   have hfi:=hf pss[i] (List.getElem_mem hlt)
   obtain⟨ps,hq⟩: ∃x,pss[i]=x:=⟨_,rfl⟩
   rw[hq]at gx hset hrl hfi
   refine⟨ps.map ZaX,Int.natCast_nonneg i,gx, ?_⟩
   refine(ZjS ps (by omega) hfi).mono ?_
   rintro _ rfl
   refine And.intro ⟨Int.natCast_nonneg i,by show(i:Int)<((pss.length:Nat):Int);omega⟩ ?_
   refine And.intro (show 0+(i:Int).toNat<els.length by rw[hel];omega) ?_
   refine⟨(i+1,els.set (0+(i:Int).toNat) (.v (.l qct) (ps.map Zcy))),⟨hlt, ?_⟩,by show pss.length-(i+1)<pss.length-i;omega, ?_⟩
   ·show els.set (0+(i:Int).toNat) _=_
    rw[Int.toNat_natCast,Nat.zero_add]
    exact hset
   ·exact Zap ⟨rfl,rfl,rfl,congrArg (fun x=>some (SV.v (.i .i64) x)) wi,trivial⟩
  ·have hi2:i=pss.length:=by have h': ¬ (i:Int)<(L.length:Int):=of_decide_eq_false h;omega
   have he:els=(ZuZ pss).map fun x=>SV.v (.l qct) x:=by
    rw[hels,hi2,Nat.sub_self,Zxj,List.replicate_zero,List.append_nil,List.take_length,ZuZ,List.map_map]
    rfl
   have hfin:ZdB [.many (.l qct) els true] (37+3) (.ref 0 0 pss.length none) (fun V=>V=SV.v (.l (.l qct)) (ZuZ pss)):=by
    rw[he]
    exact ZwL (by rw[ZuZ,List.length_map]) rfl
   exact hfin
 ·refine⟨Nat.zero_le _, ?_⟩
  show List.replicate ((L.length:Nat):Int).toNat SV.nils=Zxj (pss.take 0) (pss.length-0)
  rw[Int.toNat_natCast,hll]
  rfl
 ·have e1:((L.length:Nat):Int).toNat=pss.length:=by omega
  exact Zap ⟨congrArg (fun x=>some (SV.ref 0 0 x none)) e1,rfl,rfl,rfl,trivial⟩
end Go.Proofs.YtdnodlkdndfplaaGreatDoor
/-
 lin.Rank, solve.Rank.
-/
namespace Go.Proofs.YtdnodlkdndfplaaGreatDoor
open Go.Am Go.Tx Dv Go.Lib La
set_option maxRecDepth 100000
def mxQ (pss:List (List Rat)):Mx:=fun i j=>(pss.getD i []).getD j 0
theorem ZzT {pss:List (List Rat)} {W:Nat} (h: ∀ps∈pss,ps.length=W):ZuZ pss=Zbo pss.length W (mxQ pss):=by
 apply List.ext_getElem?
 intro i
 by_cases hi:i<pss.length
 ·rw[Zx6 hi,ZgR hi]
  congr 1
  apply List.ext_getElem?
  intro j
  have hl:=h pss[i] (List.getElem_mem hi)
  by_cases hj:j<W
  ·rw[List.getElem?_map,List.getElem?_eq_getElem (by omega),ZeG hj,Option.map_some,mxQ,getD_at' hi,getD_at' (by omega)]
  ·rw[List.getElem?_eq_none (by rw[List.length_map];omega),List.getElem?_eq_none (by rw[Zbl];omega)]
 ·rw[List.getElem?_eq_none (by rw[Zu4];omega),List.getElem?_eq_none (by rw[ZaK];omega)]
where getD_at' {α:Type} {l:List α} {i:Nat} {d:α} (h:i<l.length):l.getD i d=l[i]:=by rw[List.getD_eq_getElem?_getD,List.getElem?_eq_getElem h];rfl
end Go.Proofs.YtdnodlkdndfplaaGreatDoor
/-
 'append' onto rows held by content; one row that is left of all memory; more rules for looked-ahead values.
-/
namespace Go.Tx
open Go.Am
section
variable {P : Program} {h : Hints} {T : TypeId → TI} {hp : List SM} {tm : TM} {F : Nat}
theorem Zc0 {c:Cx} {k:Ex→TM→List SM→Prop} (hn:k .ret tm hp):wp P h T F c .ret tm hp k:=hn
theorem ZdT {k:Ex→TM→List SM→Prop} {n:TM→List SM→Prop} (hn:k .ret tm hp):Zzi k n .ret tm hp:=hn
theorem ZdX {id:Nat} {k:Ex→TM→List SM→Prop} (hn:k .ret tm hp):ZuN id k .ret tm hp:=hn
theorem ZcX {σ:Type} {ctm:σ→TM} {chp:σ→List SM} {Inv:σ→Prop} {meas:σ→Nat} {a:σ} {k:Ex→TM→List SM→Prop} (hn:k .ret tm hp):ZyM F ctm chp Inv meas a k .ret tm hp:=hn
theorem Zwu {c:Cx} {n0:TM→List SM→Prop} {id:Nat} {k:Ex→TM→List SM→Prop} (hn:k .normal tm hp):wp P h T F c (.exit id) tm hp (Zzi (ZuN id k) n0):=by
 show ZuN id k (.exit id) tm hp
 have e:Nat.beq id id=true:=Nat.beq_refl id
 simp only[ZuN,e]
 exact hn
theorem Zx1 {tm tm':TM} {id:Nat} {m:SM} (hm:nth hp id=some m) (hr:Zg2 m=[]) (htm:Zw6 (fun _=>id) 1 tm tm'):Ent 0 tm hp tm' [m]:=by
 rw[ZaT]at hm
 refine Zhb (fun _=>id) (Nat.zero_le _) (fun j hj=>absurd hj (Nat.not_lt_zero j)) (fun j _=>(List.getElem?_eq_some_iff.1 hm).1) (fun i j hi hj _=> ?_) htm fun j x hx=> ?_
 ·have hi:i<1:=hi
  have hj:j<1:=hj
  omega
 ·have hjl:=(List.getElem?_eq_some_iff.1 hx).1
  have e:j=0:=by have h1:j<1:=hjl;omega
  subst e
  cases hx
  refine .inr ⟨?_,fun id hid=>by rw[hr]at hid;exact absurd hid List.not_mem_nil⟩
  rw[hm,Zke (p:=0) (fun j hj=>absurd hj (Nat.not_lt_zero j)) m (fun id hid=>by rw[hr]at hid;exact absurd hid List.not_mem_nil)]
theorem Zug {α:Type} {l:List α} {n:Nat} {x:α} (h:nth l n=some x):n<l.length:=by
 rw[ZaT]at h;exact(List.getElem?_eq_some_iff.1 h).1
theorem Zcn {α:Type} {l:List α} {n:Nat} {x y:α} (h:nth l n=some x):nth (l++ [y]) n=some x:=by
 have h1:=Zug h
 rw[ZaT]at h⊢
 rw[List.getElem?_append_left h1,h]
theorem Zt5 {α:Type} {l:List α} {i n:Nat} {x:α} (h:i≠n):nth (l.set i x) n=nth l n:=by rw[ZaT,ZaT,List.getElem?_set_ne h]
theorem ZyD {id j:Nat} (h:id≠j):nth (frz1 hp id) j=nth hp j:=by
 unfold frz1
 split<;>first|rfl|exact Zt5 h
theorem ZoV {j:Nat}: ∀ {ids:List Nat} {hp:List SM},j ∉ ids→nth (frzT hp ids) j=nth hp j
 | [],_,_=>rfl
 |i::r,hp,h=>by
  rw[frzT,ZoV fun h1=>h (List.mem_cons_of_mem _ h1)]
  exact ZyD fun e=>h (by rw[e];exact List.mem_cons_self)
theorem Zvm {id:Nat}:(frz1 hp id).length=hp.length:=by
 unfold frz1
 split<;>first|rfl|exact List.length_set
theorem Zk8: ∀ {ids:List Nat} {hp:List SM},(frzT hp ids).length=hp.length
 | [],_=>rfl
 |i::r,hp=>by rw[frzT,Zk8,Zvm]
theorem Zk2 {op:Op} {ct:CT} {by_ id n:Nat} {X:SV} {l new:List ct.D} {k:SV→List SM→Prop}
 {c:Call} {t t2 e e2:TypeId} {ts:List TypeId} (ho:op= .call c) (hc:c.callee= .builtin .append) (ha:evL tm c.args.toList=some [.ref id 0 n none,X]) (ht:c.argTypes.toList=t::t2::ts) (hk1:(T t).k= .slice e) (hk2:(T t2).k= .slice e2) (hct:(T e).ct=some ct) (hby:(T e).by_=by_) (hok:(ZcW (T e).k,Nat.ble 1 (T e).by_&&Nat.ble 1 (T e).sz,h.frz t)=(false,true,false))
 (hn:nth hp id=some (.row ct l true)) (hl:n=l.length) (hX: ∀kk:List ct.D→Prop,kk new→Zp0 ct hp X kk) (hz:(n+new.length)*by_≤140737488355328)
 (hk: ∀id' hp',nth hp' id'=some (.row ct (l++new) true)→(∀j,j≠id→j<hp.length→nth hp' j=nth hp j)→hp.length≤hp'.length→(id'=id∨hp.length≤id')→k (.ref id' 0 (n+new.length) none) hp'):opT P h T op tm hp k:=by
 have hg:Zp0 ct hp X (fun new=>ZrI ct by_ hp (.ref id 0 n none) new k):=by
  refine hX _ ?_
  have e1:sub l 0 n=l:=by rw[sub,List.drop_zero,List.take_of_length_le (by omega)]
  cases new with
  |nil=>
   simp only[ZrI,hn]
   rw[dif_pos (Zdh ct)]
   refine⟨by omega, ?_⟩
   exact hk id hp (by rw[List.append_nil];exact hn) (fun _ _ _=>rfl) (Nat.le_refl _) (.inl rfl)
  |cons x r=>
   refine Zlb hn (by omega) hz ?_
   rw[e1]
   have hlen:(hp.set id .dead++ [SM.row ct (l++x::r) true]).length=hp.length+1:=by rw[List.length_append,List.length_set];rfl
   refine hk hp.length _ ?_ (fun j hj hjl=> ?_) (by rw[hlen];omega) (.inr (Nat.le_refl _))
   ·rw[ZaT,List.getElem?_append_right (by rw[List.length_set];exact Nat.le_refl _),List.length_set,Nat.sub_self];rfl
   ·rw[ZaT,List.getElem?_append_left (by rw[List.length_set];exact hjl),List.getElem?_set_ne (fun e=>hj e.symm),ZaT]
 simp only[Prod.mk.injEq]at hok
 obtain⟨ok1,ok2,ok3⟩:=hok
 simp only[ho,opT,Zns,ha,hc,ZfI,ht,hk1,hk2,hct,ok2,ok3]
 subst hby
 generalize(T e).k=kk at*
 cases kk<;>first|(cases ok1;done)|exact hg
theorem Zxr {ct:CT} {xs:List ct.D} {kk:List ct.D→Prop} (h:kk xs):Zp0 ct hp (.v (.l ct) xs) kk:=by
 simp only[Zp0]
 rw[dif_pos (Zdh ct)]
 exact h
theorem Zsg {op:Op} {ct:CT} {by_ id n:Nat} {X:SV} {l:List ct.D} {x:ct.D} {k:SV→List SM→Prop}
 {c:Call} {t t2 e e2:TypeId} {ts:List TypeId} (ho:op= .call c) (hc:c.callee= .builtin .append) (ha:evL tm c.args.toList=some [.ref id 0 n none,X]) (ht:c.argTypes.toList=t::t2::ts) (hk1:(T t).k= .slice e) (hk2:(T t2).k= .slice e2) (hct:(T e).ct=some ct) (hby:(T e).by_=by_) (hok:(ZcW (T e).k,Nat.ble 1 (T e).by_&&Nat.ble 1 (T e).sz,h.frz t)=(false,true,true))
 (hX: ∀kk:SV→Prop,kk (.v (.l ct) [x])→ZdB hp 40 X kk) (hni:id ∉ Zkz hp 40 X) (hn:nth hp id=some (.row ct l true)) (hl:n=l.length) (hz:(n+1)*by_≤140737488355328)
 (hk: ∀id' hp',nth hp' id'=some (.row ct (l++ [x]) true)→(∀j,j≠id→j ∉ Zkz hp 40 X→j<hp.length→nth hp' j=nth hp j)→hp.length≤id'→k (.ref id' 0 (n+1) none) hp'):opT P h T op tm hp k:=by
 have hg:ZdB hp 40 X fun V=>Zp0 ct [] V fun new=>ZrI ct by_ (frzT hp (Zkz hp 40 X)) (.ref id 0 n none) new k:=by
  refine hX _ (Zxr ?_)
  refine Zlb (by rw[ZoV hni];exact hn) (by rw[hl];omega) hz ?_
  have e1:sub l 0 n=l:=by rw[sub,List.drop_zero,List.take_of_length_le (by omega)]
  rw[e1]
  refine hk _ _ ?_ (fun j hj hjx hjl=> ?_) (by rw[Zk8];exact Nat.le_refl _)
  ·rw[ZaT,List.getElem?_append_right (by rw[List.length_set];exact Nat.le_refl _),List.length_set,Nat.sub_self];rfl
  ·rw[ZaT,List.getElem?_append_left (by rw[List.length_set,Zk8];exact hjl),List.getElem?_set_ne (fun e=>hj e.symm),←ZaT,ZoV hjx]
 simp only[Prod.mk.injEq]at hok
 obtain⟨ok1,ok2,ok3⟩:=hok
 simp only[ho,opT,Zns,ha,hc,ZfI,ht,hk1,hk2,hct,ok2,ok3]
 subst hby
 generalize(T e).k=kk at*
 cases kk<;>first|(cases ok1;done)|exact hg
theorem Ztx {ct:CT} {m r W n:Nat} {l:List ct.D} {b b2:Bool} {k:SV→Prop} (hm:nth hp m=some (.many (.l ct) [.ref r 0 W none] b)) (hr:nth hp r=some (.row ct l b2)) (hl:l.length=W) (hk:k (.v (.l (.l ct)) [l])):ZdB hp (n+3) (.ref m 0 1 none) k:=by
 simp only[ZdB,hm]
 refine⟨Nat.le_refl 1, ?_⟩
 have e:sub [SV.ref r 0 W none] 0 1=[.ref r 0 W none]:=rfl
 rw[e]
 simp only[Zfc,ZdB,hr]
 refine⟨by omega, ?_⟩
 have e2:sub l 0 W=l:=by rw[sub,List.drop_zero,List.take_of_length_le (by omega)]
 have e3:Zxk (.l ct) [SV.v (.l ct) (sub l 0 W)]=some [l]:=by rw[e2];exact Zh6 [l]
 rw[e3]
 exact hk
theorem Zd8 {ct:CT} {m r W n:Nat} {l:List ct.D} {b b2:Bool} (hm:nth hp m=some (.many (.l ct) [.ref r 0 W none] b)) (hr:nth hp r=some (.row ct l b2)):Zkz hp (n+2) (.ref m 0 1 none)=[m,r]:=by
 have e:sub [SV.ref r 0 W none] 0 1=[.ref r 0 W none]:=rfl
 simp only[Zkz,hm,e,List.flatMap_cons,List.flatMap_nil,hr,List.append_nil]
variable {N i dd : Nat} {ls : List Nat} {l : List Oper} {o : Oper} {ks : List (Nat × Nat × Bool)} {kk : TM → List SM → Prop} {V : SV}
end
end Go.Tx
