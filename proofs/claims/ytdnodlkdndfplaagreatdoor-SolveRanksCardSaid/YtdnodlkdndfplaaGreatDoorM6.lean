/-
 What is not vast.
-/
import Derived.Test.YtdnodlkdndfplaaGreatDoorV5
set_option linter.constructorNameAsVariable false
set_option linter.unusedSimpArgs false
set_option linter.unusedVariables false
namespace Go.Proofs.YtdnodlkdndfplaaGreatDoor
open Go.Am Go.Tx Dv Go.Lib
set_option maxRecDepth 100000
theorem ZxW:dz 0 1:=⟨ZnI (by decide) (by decide),ZnI (by decide) (by decide)⟩
end Go.Proofs.YtdnodlkdndfplaaGreatDoor
/-
 Valid matrices; widths; what is not vast.
-/
namespace Go.Proofs.YtdnodlkdndfplaaGreatDoor
open Go.Am Go.Tx Dv Go.Lib
set_option maxRecDepth 100000
theorem ZtP: ∀ {l:List (List UInt8)},(∀a∈l,ZbD a=0)→ ∃ps:List Rat,l=ps.map Zbj∧ ∀p∈ps,Zri p=true
 | [],_=>⟨[],rfl,fun _ h=>absurd h List.not_mem_nil⟩
 |a::l,h=>by
  obtain⟨p,h1,h2⟩:=Zom (h a List.mem_cons_self)
  obtain⟨ps,h3,h4⟩:=ZtP (l:=l) (fun b hb=>h b (List.mem_cons_of_mem _ hb))
  refine⟨p::ps,by rw[List.map_cons,←h1,←h3],fun q hq=> ?_⟩
  rcases List.mem_cons.1 hq with rfl|hq
  ·exact h2
  ·exact h4 q hq
theorem ZmD {w:Int}: ∀ {m:List (List (List UInt8))},Zq3 w m=0→ ∀r∈m,(r.length:Int)=w∧ZiY r=0
 | [],_,_,hr=>absurd hr List.not_mem_nil
 |x::l,h,r,hr=>by
  rw[Zq3]at h
  cases h1:decide ((x.length:Int)=w)with
  |false=>rw[h1]at h;cases h
  |true=>
   rw[h1]at h
   simp only at h
   cases h2:decide (ZiY x=0)with
   |false=>rw[h2]at h;exact absurd h (of_decide_eq_false h2)
   |true=>
    rw[h2]at h
    rcases List.mem_cons.1 hr with rfl|hr
    ·exact⟨of_decide_eq_true h1,of_decide_eq_true h2⟩
    ·exact ZmD h r hr
theorem Zov: ∀pss:List (List Rat),wid (ZbV pss)=Zm3 pss
 | []=>rfl
 |ps::_=>List.length_map _
structure Mat (m:List (List (List UInt8))) (pss:List (List Rat)):Prop where
 txt:m=ZbV pss
 fit: ∀ps∈pss,∀p∈ps,Zri p=true
 len:pss.length≤40
 row: ∀ps∈pss,ps.length=Zm3 pss
 wid:Zm3 pss≤40
theorem ZpU: ∀ {m:List (List (List UInt8))},(∀r∈m,ZiY r=0)→ ∃pss:List (List Rat),m=ZbV pss∧(∀ps∈pss,∀p∈ps,Zri p=true)∧ ∀ps∈pss,ps.length≤40
 | [],_=>⟨[],rfl,fun _ h=>absurd h List.not_mem_nil,fun _ h=>absurd h List.not_mem_nil⟩
 |r::m,h=>by
  obtain⟨h1,h2⟩:=ZsZ (h r List.mem_cons_self)
  obtain⟨ps,rfl,h3⟩:=ZtP (Zj3 h2)
  obtain⟨pss,rfl,h4,h5⟩:=ZpU (m:=m) (fun x hx=>h x (List.mem_cons_of_mem _ hx))
  rw[List.length_map]at h1
  refine⟨ps::pss,rfl,fun x hx=> ?_,fun x hx=> ?_⟩
  ·rcases List.mem_cons.1 hx with rfl|hx
   ·exact h3
   ·exact h4 x hx
  ·rcases List.mem_cons.1 hx with rfl|hx
   ·exact h1
   ·exact h5 x hx
theorem ZrC {m:List (List (List UInt8))} (h:Zlo m=0): ∃pss,Mat m pss:=by
 have hE:Zlo m=match decide ((40:Int)<(m.length:Int))with|true=>2|false=>Zq3 (wid m:Nat) m:=rfl
 rw[hE]at h
 cases h1:decide ((40:Int)<(m.length:Int))with
 |true=>rw[h1]at h;cases h
 |false=>
  rw[h1]at h
  have h2:=ZmD h
  obtain⟨pss,rfl,h3,h4⟩:=ZpU (fun r hr=>(h2 r hr).2)
  have hl:(ZbV pss).length=pss.length:=List.length_map _
  refine⟨pss,rfl,h3,by have:=of_decide_eq_false h1;rw[hl]at this;omega,fun ps hp=> ?_, ?_⟩
  ·have:=(h2 (ps.map Zbj) (List.mem_map_of_mem hp)).1
   rw[List.length_map,Zov]at this
   omega
  ·cases pss with
   |nil=>exact Nat.zero_le _
   |cons ps _=>exact h4 ps List.mem_cons_self
theorem Zvu (pss:List (List Rat)):(Zsq pss).length=pss.length:=List.length_map _
theorem ZoX (m:List (List (List UInt8))):PureOK Tryz.prog Zam 15 [.v (.l (.l .s)) m] (fun V=>V= .v (.i .i64) ((wid m:Nat):Int)):=by
 refine Zab Zaa Tryz.func15 ?_
 refine And.intro (fun h=> ?_) (fun h=> ?_)
 ·have h':decide ((0:Int)<(m.length:Int))=true:=h
  cases m with
  |nil=>cases h'
  |cons r m=>exact⟨r,Int.le_refl 0,rfl,rfl⟩
 ·have h':decide ((0:Int)<(m.length:Int))=false:=h
  have h0:m.length=0:=by have:=of_decide_eq_false h';omega
  rw[List.length_eq_zero_iff.1 h0]
  rfl
set_option maxHeartbeats 8000000 in
theorem ZvI {n:Nat} {l:List (List (List (List UInt8)))} {pss:List (List Rat)} (h:Zi8 (n:Int) l=false) (hm:ZbV pss∈l):pss.length≤n∧(∀ps∈pss,ps.length≤n)∧ ∀ps∈pss,∀p∈ps,dz p 12:=by
 obtain⟨h1,h2⟩:=Zma h _ hm
 have h3:=Zme h2
 rw[show(ZbV pss).length=pss.length from List.length_map _]at h1
 refine⟨by omega,fun ps hp=> ?_,fun ps hp p hpp=> ?_⟩
 ·have:=(h3 (ps.map Zbj) (List.mem_map_of_mem hp)).1
  rw[List.length_map]at this
  omega
 ·have:=(h3 (ps.map Zbj) (List.mem_map_of_mem hp)).2 (Zbj p) (List.mem_map_of_mem hpp)
  exact Zyu (by omega) (by decide)
end Go.Proofs.YtdnodlkdndfplaaGreatDoor
/-
 How great the numbers of a matrix get while it is reduced.
-/
namespace Go.Proofs.YtdnodlkdndfplaaGreatDoor
open Go.Am Go.Tx Dv Go.Lib La
theorem ZwB {B:Nat}: ∀n,n≤64→bd n B≤(64*B)^n
 |0,_=>Nat.le_refl 1
 |n+1,h=>by
  rw[bd,Nat.pow_succ,Nat.mul_comm ((64*B)^n),←Nat.mul_assoc]
  exact Nat.mul_le_mul (Nat.mul_le_mul h (Nat.le_refl B)) (ZwB n (by omega))
theorem Zur {B n b:Nat} (hB:B≤2^b) (hn:n≤63):(n+1)*(B*bd n B)≤2^((b+6)*(n+1)):=by
 have h1:(n+1)*(B*bd n B)≤64*B*(64*B)^n:=by
  rw[←Nat.mul_assoc]
  exact Nat.mul_le_mul (Nat.mul_le_mul (by omega) (Nat.le_refl B)) (ZwB n (by omega))
 refine Nat.le_trans h1 ?_
 rw[Nat.mul_comm,←Nat.pow_succ,Nat.pow_mul]
 refine Nat.pow_le_pow_left ?_ _
 rw[Nat.pow_add,Nat.mul_comm]
 exact Nat.mul_le_mul hB (by decide)
theorem Zli {a:Int} {X e K:Nat} (h:a.natAbs≤X) (hX:X≤2^e) (he:e<32*K):ln a≤K:=by
 rw[ZyW]
 refine Nat.lt_of_le_of_lt (Nat.le_trans h hX) ?_
 rw[show(4294967296:Nat)=2^32 by decide,←Nat.pow_mul]
 exact Nat.pow_lt_pow_right (by decide) he
theorem Zzi {q:Rat} {a b:Int} {X e K:Nat} (h:q=(a:Rat)/(b:Rat)) (hb:b≠0) (h1:a.natAbs≤X) (h2:b.natAbs≤X) (hX:X≤2^e) (he:e<32*K):szQ q K:=by
 rw[h,←Rat.divInt_eq_div]
 rcases Int.lt_or_le b 0 with hn|hn
 ·rw[←Rat.neg_divInt_neg]
  exact Zkf (by omega) (Zli (by rw[Int.natAbs_neg];exact h1) hX he) (Zli (by rw[Int.natAbs_neg];exact h2) hX he)
 ·exact Zkf (by omega) (Zli h1 hX he) (Zli h2 hX he)
theorem ZyN {n W b K:Nat} {M:Mx} {L:Int} (hI:Ints n W M L (2^b)) (hn:n≤63) (hK:(b+6)*(n+1)<32*K): ∀k p N,k≤W→Elm n W M k p N→ ∀i j,i<n→j<W→szQ (N i j) K:=by
 intro k p N hk hE i j hi hj
 obtain⟨x,y,h1,h2,h3,h4⟩:=hE.size hI (Nat.pow_pos (by decide)) hk hi hj
 exact Zzi h2 h1 h3 h4 (Zur (Nat.le_refl _) hn) hK
theorem Zyl (n W e:Nat) (M:Mx) (h: ∀i j,i<n→j<W→(M i j).den≤2^e∧(M i j).num.natAbs≤2^e): ∃L,Ints n W M L (2^(e*(n*W+1))):=by
 obtain⟨l,hl⟩: ∃l:List Rat,(List.range n).flatMap (fun i=>(List.range W).map fun j=>M i j)=l:=⟨_,rfl⟩
 have hmem: ∀i j,i<n→j<W→M i j∈l:=fun i j hi hj=>by
  rw[←hl,List.mem_flatMap]
  exact⟨i,List.mem_range.2 hi,List.mem_map.2 ⟨j,List.mem_range.2 hj,rfl⟩⟩
 have hlen:l.length=n*W:=by
  have hs: ∀n,((List.range n).map fun _=>W).sum=n*W:=fun n=>by
   induction n with
   |zero=>simp
   |succ n ih=>rw[List.range_succ,List.map_append,List.sum_append,ih,Nat.succ_mul];simp
  rw[←hl,List.length_flatMap,←hs n]
  simp
 obtain⟨L,h1,h2,h3⟩:=ZtZ (2^e) (Nat.pow_pos (by decide)) l fun q hq=>by
  rw[←hl,List.mem_flatMap]at hq
  obtain⟨i,hi,hq⟩:=hq
  obtain⟨j,hj,rfl⟩:=List.mem_map.1 hq
  exact h i j (List.mem_range.1 hi) (List.mem_range.1 hj)
 rw[hlen,←Nat.pow_mul]at h2
 have hp:2^(e*(n*W+1))=2^(e*(n*W))*2^e:=by rw[Nat.mul_add,Nat.mul_one,Nat.pow_add]
 refine⟨L,h1, ?_,fun i j hi hj=> ?_⟩
 ·rw[hp]
  exact Nat.le_trans h2 (Nat.le_mul_of_pos_right _ (Nat.pow_pos (by decide)))
 ·obtain⟨z,hz⟩:=h3 _ (hmem i j hi hj)
  refine⟨z,hz, ?_⟩
  rw[hp]
  exact Nat.le_trans (ZvY hz (h i j hi hj).2) (Nat.mul_le_mul_right _ h2)
theorem RxDoorM61pw {a b m n:Nat} (k:Nat) (h:a^m≤b^n) {x:Nat} (hx:x≤m*k) (ha:0<a) {y:Nat} (hy:n*k=y):a^x≤b^y:=by
 subst hy
 refine Nat.le_trans (Nat.pow_le_pow_right ha hx) ?_
 rw[Nat.pow_mul,Nat.pow_mul]
 exact Nat.pow_le_pow_left h k
theorem Zu5 {q:Rat} (h:Zri q=true):q.den≤2^6667∧q.num.natAbs≤2^6667:=by
 have hp: ∀k,k≤2000→10^k≤2^6667:=fun k hk=>RxDoorM61pw (a:=10) (b:=2) (x:=k) (y:=6667) (m:=34) (n:=113) 59 (by decide) (by omega) (by decide) rfl
 obtain⟨h1,h2⟩:=Zfu.1 h
 exact⟨Nat.le_trans (Nat.le_of_lt (Zn1 _)) (hp _ h2),Nat.le_trans (Nat.le_of_lt (Zn1 _)) (hp _ h1)⟩
theorem Zy4 {n W:Nat} {M:Mx} (hn:n≤40) (hW:W≤41) (hf: ∀i j,i<n→j<W→Zri (M i j)=true): ∀k p N,k≤W→Elm n W M k p N→ ∀i j,i<n→j<W→szQ (N i j) 20000000:=by
 obtain⟨L,hI⟩:=Zyl n W 6667 M fun i j hi hj=>Zu5 (hf i j hi hj)
 refine ZyN hI (by omega) ?_
 have h1:n*W≤40*41:=Nat.mul_le_mul hn hW
 have h2:6667*(n*W+1)+6≤10940553:=by omega
 have h3:=Nat.mul_le_mul h2 (show n+1≤41 by omega)
 omega
end Go.Proofs.YtdnodlkdndfplaaGreatDoor
/-
 The numbers of a matrix.
-/
namespace Go.Proofs.YtdnodlkdndfplaaGreatDoor
open Go.Am Go.Tx Dv Go.Lib
set_option maxRecDepth 100000
def Zwr (pss:List (List Rat)) (n:Nat):List SV:=(pss.map fun ps=>SV.v (.l qct) (ps.map ZeU))++List.replicate n .nils
theorem ZuD {pss:List (List Rat)} {i:Nat} (hlt:i<pss.length):(Zwr (pss.take i) (pss.length-i)).set i (.v (.l qct) (pss[i].map ZeU))=Zwr (pss.take (i+1)) (pss.length-(i+1)):=by
 have h1:((pss.take i).map fun ps=>SV.v (.l qct) (ps.map ZeU)).length=i:=by rw[List.length_map,List.length_take];omega
 rw[Zwr,Zwr,List.set_append_right _ _ (by omega),h1,Nat.sub_self,show pss.length-i=(pss.length-(i+1))+1 by omega,List.replicate_succ,List.set_cons_zero,←ZrJ (g:=fun ps:List Rat=>SV.v (.l qct) (ps.map ZeU)) hlt,List.append_assoc]
 rfl
theorem ZlQ {hp:List SM} {m:Nat} {ct:CT}: ∀ {l:List (List ct.D)} {k:List SV→Prop},k (l.map fun x=>SV.v (.l ct) x)→ZdU (Zdn hp (m+2)) (l.map fun x=>SV.v (.l ct) x) k
 | [],_,hk=>hk
 |x::r,k,hk=>by
  simp only[List.map_cons,ZdU,Zdn]
  exact ZlQ (l:=r) hk
theorem Zv9 {ct:CT} {l:List (List ct.D)} {m:Bool} {n d:Nat} {o:Option Nat} {ex:List SM} {k:SV→Prop} (hn:n=l.length) (hk:k (.v (.l (.l ct)) l)):Zdn (.many (.l ct) (l.map fun x=>SV.v (.l ct) x) m::ex) (d+3) (.ref 0 0 n o) k:=by
 simp only[Zdn,nth]
 refine⟨by rw[List.length_map];omega, ?_⟩
 rw[show sub (l.map fun x=>SV.v (.l ct) x) 0 n=l.map fun x=>SV.v (.l ct) x by rw[sub,List.drop_zero,List.take_of_length_le (by rw[List.length_map];omega)]]
 refine ZlQ ?_
 rw[ZhM]
 exact hk
set_option maxHeartbeats 8000000 in
theorem ZvJ (pss:List (List Rat)) (hl:pss.length≤1000) (hr: ∀ps∈pss,ps.length≤1000) (hf: ∀ps∈pss,∀p∈ps,Zri p=true):PureOK Tryz.prog Zam 68 [.v (.l (.l .s)) (ZbV pss)] (fun V=>V= .v (.l (.l qct)) (Zsq pss)):=by
 refine Zab Zaa Tryz.func68 ?_
 have hll:(ZbV pss).length=pss.length:=List.length_map _
 have hg:=fun i (h:i<pss.length)=>Zoc h
 obtain⟨L,hL⟩: ∃l,ZbV pss=l:=⟨_,rfl⟩
 rw[hL]at hll hg⊢
 refine And.intro (show 0≤(L.length:Int)∧(L.length:Int)≤(L.length:Int)∧(24:Int)*(L.length:Int)≤281474976710656∧(L.length:Int)<9223372036854775808 by omega) ?_
 refine Zap Zaa rfl (fun(t:Nat×List SV)=> [(3, .ref 0 0 pss.length none),(9, .v (.l (.l .s)) L),(10, .v (.i .i64) (L.length:Int)),(11, .v (.i .i64) (t.1:Int))]) (fun t=> [.many (.l qct) t.2 true])
  (fun t=>t.1≤pss.length∧t.2=Zwr (pss.take t.1) (pss.length-t.1)) (fun t=>pss.length-t.1) ?_ (0,List.replicate ((L.length:Nat):Int).toNat .nils) ?_ ?_
 ·rintro⟨i,els⟩ ⟨hi,hels⟩
  simp only at hi hels
  refine And.intro (fun h=> ?_) (fun h=> ?_)
  ·have hlt:i<pss.length:=by have h':(i:Int)<(L.length:Int):=of_decide_eq_true h;omega
   have gx:L[(i:Int).toNat]? =some (pss[i].map Zbj):=by rw[Int.toNat_natCast];exact hg i hlt
   have hset:=ZuD hlt
   rw[←hels]at hset
   have hel:els.length=pss.length:=by rw[hels,Zwr,List.length_append,List.length_map,List.length_take,List.length_replicate];omega
   have wi:IntKind.i64.wrap ((i:Int)+1)=((i+1:Nat):Int):=Zae (by omega) (by omega)
   have hrl:=hr pss[i] (List.getElem_mem hlt)
   have hfi:=hf pss[i] (List.getElem_mem hlt)
   obtain⟨ps,hq⟩: ∃x,pss[i]=x:=⟨_,rfl⟩
   rw[hq]at gx hset hrl hfi
   refine⟨ps.map Zbj,Int.natCast_nonneg i,gx, ?_⟩
   refine(Zre ps (by omega) hfi).mono ?_
   rintro _ rfl
   refine And.intro ⟨Int.natCast_nonneg i,by show(i:Int)<((pss.length:Nat):Int);omega⟩ ?_
   refine And.intro (show 0+(i:Int).toNat<els.length by rw[hel];omega) ?_
   refine⟨(i+1,els.set (0+(i:Int).toNat) (.v (.l qct) (ps.map ZeU))),⟨hlt, ?_⟩,by show pss.length-(i+1)<pss.length-i;omega, ?_⟩
   ·show els.set (0+(i:Int).toNat) _=_
    rw[Int.toNat_natCast,Nat.zero_add]
    exact hset
   ·exact Zaq ⟨rfl,rfl,rfl,congrArg (fun x=>some (SV.v (.i .i64) x)) wi,trivial⟩
  ·have hi2:i=pss.length:=by have h': ¬ (i:Int)<(L.length:Int):=of_decide_eq_false h;omega
   have he:els=(Zsq pss).map fun x=>SV.v (.l qct) x:=by
    rw[hels,hi2,Nat.sub_self,Zwr,List.replicate_zero,List.append_nil,List.take_length,Zsq,List.map_map]
    rfl
   have hfin:Zdn [.many (.l qct) els true] (37+3) (.ref 0 0 pss.length none) (fun V=>V=SV.v (.l (.l qct)) (Zsq pss)):=by
    rw[he]
    exact Zv9 (by rw[Zsq,List.length_map]) rfl
   exact hfin
 ·refine⟨Nat.zero_le _, ?_⟩
  show List.replicate ((L.length:Nat):Int).toNat SV.nils=Zwr (pss.take 0) (pss.length-0)
  rw[Int.toNat_natCast,hll]
  rfl
 ·have e1:((L.length:Nat):Int).toNat=pss.length:=by omega
  exact Zaq ⟨congrArg (fun x=>some (SV.ref 0 0 x none)) e1,rfl,rfl,rfl,trivial⟩
end Go.Proofs.YtdnodlkdndfplaaGreatDoor
/-
 lin.Rank, solve.Rank.
-/
namespace Go.Proofs.YtdnodlkdndfplaaGreatDoor
open Go.Am Go.Tx Dv Go.Lib La
set_option maxRecDepth 100000
theorem ZzF (n:Nat) (hl:n≤1000):OpenOK Tryz.prog Zam 122 [.v (.l (.l qct)) (List.replicate n [])] [] (fun V hp=>V= .ref 0 0 n none∧hp=[.many (.l qct) (List.replicate n .nils) true]):=by
 refine Zet (fn:=Tryz.f122) (code:=ZbU Tryz.f122) Zaa (by kernel_rfl) Tryz.func122 (by kernel_rfl) (Nat.le_of_ble_eq_true (by kernel_rfl)) ?_
 intro base
 have hlen:(List.replicate n ([]:List qct.D)).length=n:=List.length_replicate ..
 have hat: ∀i,i<n→(List.replicate n ([]:List qct.D))[(i:Int).toNat]? =some []:=fun i hi=>by rw[Int.toNat_natCast,List.getElem?_replicate,if_pos hi]
 obtain⟨X,eX⟩: ∃x,List.replicate n ([]:List qct.D)=x:=⟨_,rfl⟩
 rw[eX]at hlen hat⊢
 refine And.intro (show 0≤(X.length:Int)∧(X.length:Int)≤(X.length:Int)∧(24:Int)*(X.length:Int)≤281474976710656∧(X.length:Int)<9223372036854775808 by omega) ?_
 refine Zap Zaa rfl (fun(i:Nat)=> [(3, .ref 0 0 n none),(9, .v (.l (.l qct)) X),(10, .v (.i .i64) (X.length:Int)),(11, .v (.i .i64) (i:Int))]) (fun _=> [.many (.l qct) (List.replicate n .nils) true])
  (fun i=>i≤n) (fun i=>n-i) ?_ 0 (Nat.zero_le _) ?_
 ·intro i hi
  refine And.intro (fun h=> ?_) (fun h=> ?_)
  ·have hlt:i<n:=by have h':(i:Int)<(X.length:Int):=of_decide_eq_true h;omega
   have gx:=hat i hlt
   have wi:IntKind.i64.wrap ((i:Int)+1)=((i+1:Nat):Int):=Zae (by omega) (by omega)
   have ci:(0:Int)≤(i:Int)∧(i:Int)<((n:Nat):Int):=by omega
   have hc:0+(i:Int).toNat<(List.replicate n SV.nils).length:=by rw[List.length_replicate,Int.toNat_natCast];omega
   refine Zat ?_
   refine Zah ?_
   refine Zi9 rfl (fun _=>rfl) (Int.natCast_nonneg i) gx rfl rfl ?_
   iterate 3 refine Zah ?_
   refine Zas ?_
   refine Zat ?_
   iterate 4 refine Zah ?_
   refine Zaj rfl (ZaC rfl rfl rfl rfl rfl rfl rfl ci ?_)
   refine Zac rfl rfl ?_
   refine Zaj rfl (ZfW rfl rfl rfl rfl rfl rfl rfl hc ?_)
   refine ZbA rfl ?_
   refine Zas ?_
   refine⟨i+1,hlt,by show n-(i+1)<n-i;omega, ?_⟩
   refine Ent.eqs (hp0:=[.many (.l qct) (List.replicate n .nils) true]) ?_ (Zaq ⟨rfl,rfl,rfl,congrArg (fun x=>some (SV.v (.i .i64) x)) wi,trivial⟩)
   show[SM.many (.l qct) ((List.replicate n SV.nils).set (0+(i:Int).toNat) .nils) true]=_
   rw[show(List.replicate n SV.nils).set (0+(i:Int).toNat) .nils=List.replicate n SV.nils from by
    apply List.ext_getElem?
    intro j
    by_cases hj:0+(i:Int).toNat=j
    ·subst hj;rw[List.getElem?_set_self hc,List.getElem?_replicate,if_pos (by rw[List.length_replicate]at hc;exact hc)]
    ·rw[List.getElem?_set_ne hj]]
  ·exact⟨rfl,rfl⟩
 ·have e1:((X.length:Nat):Int).toNat=n:=by omega
  refine Ent.eqs (hp0:=[.many (.l qct) (List.replicate n .nils) true]) ?_ (Zaq ⟨congrArg (fun x=>some (SV.ref 0 0 x none)) e1,rfl,rfl,rfl,trivial⟩)
  show[SM.many (.l qct) (List.replicate ((X.length:Nat):Int).toNat .nils) true]=_
  rw[e1]
theorem ZlO: ∀n,Zug (.l qct) (List.replicate n .nils)=some (List.replicate n ([]:List qct.D))
 |0=>rfl
 |n+1=>by
  rw[List.replicate_succ,List.replicate_succ,Zug,ZlO n]
  rfl
theorem ZjW {hp:List SM} {m:Nat}: ∀ (n:Nat) (kk:List SV→Prop),kk (List.replicate n .nils)→ZdU (Zdn hp (m+2)) (List.replicate n .nils) kk
 |0,_,h=>h
 |n+1,kk,h=>by
  show ZdU (Zdn hp (m+2)) (List.replicate n .nils) fun r=>kk (.nils::r)
  exact ZjW n _ h
theorem ZoM {n m:Nat} {k:SV→Prop} (hk:k (.v (.l (.l qct)) (List.replicate n []))):Zdn [.many (.l qct) (List.replicate n .nils) true] (m+3) (.ref 0 0 n none) k:=by
 show 0+n≤(List.replicate n SV.nils).length∧ZdU (Zdn [.many (.l qct) (List.replicate n .nils) true] (m+2)) (sub (List.replicate n SV.nils) 0 n) _
 refine⟨by rw[List.length_replicate];omega, ?_⟩
 rw[ZvD (List.length_replicate ..)]
 refine ZjW n _ ?_
 rw[ZlO]
 exact hk
set_option maxHeartbeats 8000000 in
theorem ZuX (n:Nat) (hn:n≤1000):PureOK Tryz.prog Zam 118 [.v (.l (.l qct)) (List.replicate n []),nt 0] (fun V=>V= .tup [.v (.l (.l qct)) (List.replicate n []), .nils]):=by
 refine Zab Zaa Tryz.func118 ?_
 have hc:=ZzF n hn
 have h1:decide ((0:Int)<(0:Int))=false:=rfl
 refine Zat ?_
 iterate 2 refine Zah ?_
 refine Zas ?_
 refine Zat ?_
 refine Zah ?_
 refine Zaj rfl ((hc.mono ?_))
 rintro _ _ ⟨rfl,rfl⟩
 refine Zac rfl rfl ?_
 refine Zah ?_
 refine Zas ?_
 refine Zat ?_
 refine Zah ?_
 refine Zas ?_
 refine Zat ?_
 refine Zah ?_
 refine Zas ?_
 refine Zap Zaa rfl (fun(_:Unit)=> [(0, .ref 0 0 n none),(1,nt 0),(6, .nils),(7,nt 0)]) (fun _=> [.many (.l qct) (List.replicate n .nils) true]) (fun _=>True) (fun _=>0) ?_ () trivial (Zaq ⟨rfl,rfl,rfl,rfl,trivial⟩)
 intro _ _
 refine Zat ?_
 iterate 4 refine Zah ?_
 refine ZaH h1 ?_
 refine ZaH h1 ?_
 refine ZaH h1 ?_
 refine ZaH h1 ?_
 refine ZaH h1 ?_
 refine ZaS h1 ?_
 refine Zas ?_
 refine brF rfl ?_
 refine Zat ?_
 iterate 4 refine Zah ?_
 refine Zas ?_
 have hx:Zdn [.many (.l qct) (List.replicate n .nils) true] (36+3) (.ref 0 0 n none) (fun V=>SV.tup [V, .nils]=SV.tup [.v (.l (.l qct)) (List.replicate n []), .nils]):=ZoM rfl
 exact hx
theorem ZxD (n W K:Nat) (f0:Mx) (hn:n≤1000) (hn0:1≤n) (hW:W≤1000) (hW1:1≤W) (hK:K≤50000000) (hs: ∀k p N,k≤W→Elm n W f0 k p N→ ∀i j,i<n→j<W→szQ (N i j) K):
 PureOK Tryz.prog Zam 67 [.v (.l (.l qct)) (Zck n W f0)] (fun V=> ∃N p,Elm n W f0 W p N∧V=nt p.length):=by
 refine Zab Zaa Tryz.func67 ?_
 have hw:=Zp6 (Zck n W f0)
 have e:Zm3 (Zck n W f0)=W:=by
  have h:0<(Zck n W f0).length:=by rw[ZaN];omega
  have h2:=ZdH h
  cases hx:Zck n W f0 with
  |nil=>rw[hx]at h;cases h
  |cons r l=>
   simp only[hx,List.getElem_cons_zero]at h2
   show r.length=W
   rw[h2,Zb2]
 rw[e]at hw
 refine hw.mono ?_
 rintro _ rfl
 refine(Zvq n W W K f0 hn hW (.inr hW1) (Nat.le_refl W) hK hs).mono ?_
 rintro _ ⟨N,p,hE,rfl⟩
 refine⟨N,p,hE, ?_⟩
 show SV.v (.i .i64) ((p.map Int.ofNat).length:Int)=_
 rw[List.length_map]
theorem ZwW (n:Nat) (hn:n≤1000):PureOK Tryz.prog Zam 67 [.v (.l (.l qct)) (List.replicate n [])] (fun V=>V=nt 0):=by
 refine Zab Zaa Tryz.func67 ?_
 have hw:=Zp6 (List.replicate n ([]:List qct.D))
 have e:Zm3 (List.replicate n ([]:List qct.D))=0:=by cases n<;>rfl
 rw[e]at hw
 refine hw.mono ?_
 rintro _ rfl
 refine(ZuX n hn).mono ?_
 rintro _ rfl
 rfl
def mxQ (pss:List (List Rat)):Mx:=fun i j=>(pss.getD i []).getD j 0
theorem Zwi {pss:List (List Rat)} {W:Nat} (h: ∀ps∈pss,ps.length=W):Zsq pss=Zck pss.length W (mxQ pss):=by
 apply List.ext_getElem?
 intro i
 by_cases hi:i<pss.length
 ·rw[Zxz hi,Zkg hi]
  congr 1
  apply List.ext_getElem?
  intro j
  have hl:=h pss[i] (List.getElem_mem hi)
  by_cases hj:j<W
  ·rw[List.getElem?_map,List.getElem?_eq_getElem (by omega),ZkQ hj,Option.map_some,mxQ,getD_at' hi,getD_at' (by omega)]
  ·rw[List.getElem?_eq_none (by rw[List.length_map];omega),List.getElem?_eq_none (by rw[Zb2];omega)]
 ·rw[List.getElem?_eq_none (by rw[Zvu];omega),List.getElem?_eq_none (by rw[ZaN];omega)]
where getD_at' {α:Type} {l:List α} {i:Nat} {d:α} (h:i<l.length):l.getD i d=l[i]:=by rw[List.getD_eq_getElem?_getD,List.getElem?_eq_getElem h];rfl
end Go.Proofs.YtdnodlkdndfplaaGreatDoor
