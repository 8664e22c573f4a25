/-
 Matrices of own rows: two rows change places; a slice without memory seen as an empty row; a row that was built anew behind the matrix.
-/
import Derived.Test.YtdnodlkdndfplaaGreatDoorDm
set_option linter.constructorNameAsVariable false
set_option linter.unusedSimpArgs false
set_option linter.unusedVariables false
namespace Go.Tx
open Go.Am
section
variable {P : Program} {h : Hints} {T : TypeId → TI} {hp : List SM} {tm : TM}
def ZAv (ok:Nat→Prop) (tm:TM):TM→Prop
 | []=>True
 |(i,V')::r=>ZbQ i tm=some V'∧(∀id∈ZcV V',ok id)∧ZAv ok tm r
mutual
theorem ZwA {f:Nat→Nat}: ∀V:SV,(∀id∈ZcV V,f id=id)→rnV f V=V
 | .ref id i n m,hb=>by rw[rnV,hb id (by simp[ZcV])]
 | .ptr id i r,hb=>by rw[rnV,hb id (by simp[ZcV])]
 | .func g a c,hb=>by
  simp only[ZcV,List.mem_append]at hb
  rw[rnV,rnL_ok a (fun id hi=>hb id (.inl hi)),rnL_ok c (fun id hi=>hb id (.inr hi))]
 | .agg cs,hb=>by rw[rnV,rnL_ok cs (by simpa only[ZcV]using hb)]
 | .tup cs,hb=>by rw[rnV,rnL_ok cs (by simpa only[ZcV]using hb)]
 | .v _ _,_| .nilp,_| .nils,_| .nilf,_| .nili,_| .box _ _ _,_=>rfl
theorem rnL_ok {f:Nat→Nat}: ∀l:List SV,(∀id∈rchL l,f id=id)→rnL f l=l
 | [],_=>rfl
 |v::r,hb=>by
  simp only[rchL,List.mem_append]at hb
  rw[rnL,ZwA v (fun id hi=>hb id (.inl hi)),rnL_ok r (fun id hi=>hb id (.inr hi))]
end
theorem ZmV {ok:Nat→Prop} {f:Nat→Nat} {n:Nat} (hok: ∀id,ok id→f id=id∧id<n) {tm:TM}: ∀ {tm':TM},ZAv ok tm tm'→Zwm f n tm tm'
 | [],_=>trivial
 |(i,V')::r,⟨h1,h2,h3⟩=>⟨by rw[ZwA V' fun id hi=>(hok id (h2 id hi)).1];exact h1,fun id hi=>(hok id (h2 id hi)).2,ZmV hok h3⟩
theorem Zo9 {A:SM} {ct:CT} {xs:List (List ct.D)} {ex:List SM} {j:Nat} (hj:j<xs.length):(A::(ZbI ct xs++ex))[j+1]? =some (.row ct xs[j] true):=by
 rw[List.getElem?_cons_succ,List.getElem?_append_left (by rw[ZaJ];exact hj),ZmS hj]
theorem Zpc {A:SM} {ct:CT} {xs:List (List ct.D)} {ex:List SM} {j:Nat} (hj:xs.length≤j):(A::(ZbI ct xs++ex))[j+1]? =ex[j-xs.length]? :=by
 rw[List.getElem?_cons_succ,List.getElem?_append_right (by rw[ZaJ];exact hj),ZaJ]
def swI (a b j:Nat):Nat:=if j=a then b else if j=b then a else j
theorem ZwK {a b j n:Nat} (ha:a<n) (hb:b<n) (hj:j<n):swI a b j<n:=by
 unfold swI
 repeat' split
 all_goals omega
theorem Zve {F:Nat} {tm tm':TM} {ct:CT} {ex:List SM} {xs ys:List (List ct.D)} {a b la lb:Nat} (ha:a<xs.length) (hb:b<xs.length) (hla:xs[a].length=la) (hlb:xs[b].length=lb) (hl:ys.length=xs.length)
 (hy: ∀j (h1:j<ys.length) (h2:swI a b j<xs.length),ys[j]=xs[swI a b j]) (hF:F≤1) (hex: ∀m∈ex,Zfg m=[]) (htm:ZAv (fun id=>id=0∨(xs.length<id∧id<xs.length+1+ex.length)) tm tm'):
 Ent F tm (.many (.l ct) (((Zbc 1 xs).set a (.ref (b+1) 0 lb none)).set b (.ref (a+1) 0 la none)) true::([]++(ZbI ct xs++ex))) tm' (.many (.l ct) (Zbc 1 ys) true::([]++(ZbI ct ys++ex))):=by
 subst hla hlb
 rw[List.nil_append,List.nil_append]
 have hlen: ∀A:SM,(A::(ZbI ct ys++ex)).length=xs.length+1+ex.length:=fun A=>by rw[List.length_cons,List.length_append,ZaJ];omega
 have hlen0: ∀A:SM,(A::(ZbI ct xs++ex)).length=xs.length+1+ex.length:=fun A=>by rw[List.length_cons,List.length_append,ZaJ];omega
 let f:Nat→Nat:=fun j=>match j with
  |0=>0
  |j+1=>swI a b j+1
 have fs: ∀j,f (j+1)=swI a b j+1:=fun _=>rfl
 have f0:f 0=0:=rfl
 have fbig: ∀j,xs.length<j→f j=j:=fun j hj=>by
  obtain⟨i,rfl⟩: ∃i,j=i+1:=⟨j-1,by omega⟩
  rw[fs];unfold swI;repeat' split
  all_goals omega
 have finj: ∀i j,f i=f j→i=j:=by
  intro i j h
  cases i with
  |zero=>cases j with
   |zero=>rfl
   |succ j=>rw[f0,fs]at h;omega
  |succ i=>cases j with
   |zero=>rw[f0,fs]at h;omega
   |succ j=>
    rw[fs,fs]at h
    unfold swI at h
    repeat' split at h
    all_goals omega
 have fle: ∀j,j<xs.length+1+ex.length→f j<xs.length+1+ex.length:=by
  intro j hj
  cases j with
  |zero=>omega
  |succ j=>
   rw[fs];unfold swI;repeat' split
   all_goals omega
 refine ZhY f ?_ ?_ ?_ ?_ ?_ ?_
 ·rw[hlen];omega
 ·intro j hj;rw[show j=0 by omega]
 ·intro j hj;rw[hlen]at hj;rw[hlen0];exact fle j hj
 ·exact fun i j _ _ h=>finj i j h
 ·refine ZmV (fun id hid=> ?_) htm
  rw[hlen]
  rcases hid with rfl|⟨h1,h2⟩
  ·exact⟨rfl,by omega⟩
  ·exact⟨fbig id h1,h2⟩
 ·intro j m hm
  right
  cases j with
  |zero=>
   have hm:some (SM.many (.l ct) (Zbc 1 ys) true)=some m:=hm
   cases hm
   refine⟨?_,fun id hid=> ?_⟩
   ·show some (SM.many (.l ct) (((Zbc 1 xs).set a (.ref (b+1) 0 xs[b].length none)).set b (.ref (a+1) 0 xs[a].length none)) true)=some (SM.many (.l ct) (rnL f (Zbc 1 ys)) true)
    congr 2
    rw[Zt7]
    apply List.ext_getElem?
    intro j
    rw[List.getElem?_map]
    by_cases hj:j<xs.length
    ·have hjy:j<ys.length:=by omega
     have hsw:=ZwK ha hb hj
     have e:=hy j hjy hsw
     rw[Zgd hjy]
     show _=some (SV.ref (f (j+1)) 0 ys[j].length none)
     rw[fs,e]
     by_cases hjb:j=b
     ·subst hjb
      rw[List.getElem?_set_self (by rw[List.length_set,ZaT];exact hj)]
      have:swI a j j=a:=by unfold swI;split<;>simp_all
      simp only[this]
     ·rw[List.getElem?_set_ne (fun e=>hjb e.symm)]
      by_cases hja:j=a
      ·subst hja
       rw[List.getElem?_set_self (by rw[ZaT];exact hj)]
       have:swI j b j=b:=by unfold swI;rw[if_pos rfl]
       simp only[this]
      ·rw[List.getElem?_set_ne (fun e=>hja e.symm),Zgd hj]
       have:swI a b j=j:=by unfold swI;rw[if_neg hja,if_neg hjb]
       simp only[this]
    ·rw[List.getElem?_eq_none (by rw[List.length_set,List.length_set,ZaT];omega),List.getElem?_eq_none (by rw[ZaT];omega)]
     rfl
   ·have:=ZiJ (by simpa only[Zfg]using hid)
    rw[hlen];omega
  |succ j=>
   by_cases hj:j<xs.length
   ·have hjy:j<ys.length:=by omega
    rw[Zo9 hjy]at hm
    cases hm
    have hsw:=ZwK ha hb hj
    refine⟨?_,fun id hid=>by simp[Zfg]at hid⟩
    rw[fs,Zo9 hsw,hy j hjy hsw]
    rfl
   ·rw[Zpc (by omega)]at hm
    have hr:=hex m (List.mem_of_getElem? hm)
    refine⟨?_,fun id hid=>by rw[hr]at hid;exact absurd hid List.not_mem_nil⟩
    rw[fbig (j+1) (by omega),Zpc (by omega),←hl,hm,Zhp (p:=0) (fun j hj=>absurd hj (Nat.not_lt_zero j)) m (fun id hid=>by rw[hr]at hid;exact absurd hid List.not_mem_nil)]
theorem ZvR {F:Nat} {tm tm':TM} {h1:List SM} {d y:SM} (hy:Zfg y=[]) (hF:F≤h1.length) (hb: ∀m∈h1,∀id∈Zfg m,id<h1.length) (htm:Zwm (fun j=>if j=h1.length then h1.length+1 else j) (h1.length+1) tm tm'):Ent F tm (h1++ [d,y]) tm' (h1++ [y]):=by
 have hlen:(h1++ [y]).length=h1.length+1:=by rw[List.length_append];rfl
 have hlen0:(h1++ [d,y]).length=h1.length+2:=by rw[List.length_append];rfl
 refine ZhY (fun j=>if j=h1.length then h1.length+1 else j) ?_ ?_ ?_ ?_ (by rw[hlen];exact htm) ?_
 ·rw[hlen];omega
 ·intro j hj;exact if_neg (by omega)
 ·intro j hj
  rw[hlen]at hj
  rw[hlen0]
  show(if j=h1.length then h1.length+1 else j)<_
  split<;>omega
 ·intro i j hi hj h
  rw[hlen]at hi hj
  have h:(if i=h1.length then h1.length+1 else i)=(if j=h1.length then h1.length+1 else j):=h
  repeat' split at h
  all_goals omega
 ·intro j m hm
  right
  by_cases hj:j<h1.length
  ·rw[List.getElem?_append_left hj]at hm
   have hbm:=hb m (List.mem_of_getElem? hm)
   refine⟨?_,fun id hid=>by have:=hbm id hid;rw[hlen];omega⟩
   show(h1++ [d,y])[if j=h1.length then h1.length+1 else j]? =_
   rw[if_neg (by omega),List.getElem?_append_left hj,hm,Zhp (p:=h1.length) (fun j hj=>if_neg (by omega)) m hbm]
  ·have hjl:=(List.getElem?_eq_some_iff.1 hm).1
   rw[hlen]at hjl
   have hj2:j=h1.length:=by omega
   subst hj2
   rw[List.getElem?_append_right (Nat.le_refl _),Nat.sub_self]at hm
   cases hm
   refine⟨?_,fun id hid=>by rw[hy]at hid;exact absurd hid List.not_mem_nil⟩
   show(h1++ [d,y])[if h1.length=h1.length then h1.length+1 else h1.length]? =_
   rw[if_pos rfl,List.getElem?_append_right (by omega),show h1.length+1-h1.length=1 by omega]
   rw[Zhp (p:=0) (fun j hj=>absurd hj (Nat.not_lt_zero j)) y (fun id hid=>by rw[hy]at hid;exact absurd hid List.not_mem_nil)]
   rfl
end
end Go.Tx
/-
 lin.Copy: a matrix as the caller's own rows.
-/
namespace Go.Proofs.YtdnodlkdndfplaaGreatDoor
open Go.Am Go.Tx Dv Go.Lib
set_option maxRecDepth 100000
def Zuj (p:Nat) (xs:List (List qct.D)) (n i:Nat):List SV:=Zbc p (xs.take i)++List.replicate (n-i) .nils
theorem ZjC {α:Type} (y:List α): ∀ (p:Nat) (xs:List (List α)),Zbc p (xs++ [y])=Zbc p xs++ [.ref (xs.length+p) 0 y.length none]
 |p,[]=>by rw[List.nil_append,Zbc,Zbc,Zbc,List.length_nil,Nat.zero_add];rfl
 |p,x::r=>by rw[List.cons_append,Zbc,Zbc,ZjC y (p+1) r,List.cons_append,List.length_cons,show r.length+(p+1)=r.length+1+p by omega]
theorem Zuu {p:Nat} {xs:List (List qct.D)} {i:Nat} (hi:i≤xs.length):(Zuj p xs xs.length i).length=xs.length:=by
 rw[Zuj,List.length_append,ZaT,List.length_take,List.length_replicate];omega
theorem ZvF {p i:Nat} {xs:List (List qct.D)} (hi:i<xs.length):(Zuj p xs xs.length i).set i (.ref (i+p) 0 xs[i].length none)=Zuj p xs xs.length (i+1):=by
 have h1:(Zbc p (xs.take i)).length=i:=by rw[ZaT,List.length_take];omega
 rw[Zuj,Zuj,List.set_append_right _ _ (by omega),h1,Nat.sub_self,show xs.length-i=(xs.length-(i+1))+1 by omega,List.replicate_succ,List.set_cons_zero,List.take_succ_eq_append_getElem hi,ZjC,List.append_assoc,List.length_take,Nat.min_eq_left (by omega)]
 rfl
def Zna (hp0:List SM) (xs:List (List qct.D)) (i:Nat):List SM:=hp0++(.many (.l qct) (Zuj (hp0.length+1) xs xs.length i) true::ZbI qct (xs.take i))
theorem Zu6 {hp0:List SM} {xs:List (List qct.D)} {i:Nat} (hi:i≤xs.length):(Zna hp0 xs i).length=i+(hp0.length+1):=by
 rw[Zna,List.length_append,List.length_cons,ZaJ,List.length_take];omega
set_option maxHeartbeats 8000000 in
theorem ZzG (xs:List (List qct.D)) (hp0:List SM) (hl:xs.length≤1000) (hr: ∀x∈xs,x.length≤1000) (h0: ∀x∈xs,x≠ []):OpenOK Tryz.prog Zam 122 [.v (.l (.l qct)) xs] hp0 (fun V hp=>V= .ref hp0.length 0 xs.length none∧hp=hp0++(.many (.l qct) (Zbc (hp0.length+1) xs) true::ZbI qct xs)):=by
 refine Zet (fn:=Tryz.f122) (code:=ZbU Tryz.f122) Zaa (by kernel_rfl) Tryz.func122 (by kernel_rfl) (Nat.le_of_ble_eq_true (by kernel_rfl)) ?_
 intro base
 refine And.intro (show 0≤(xs.length:Int)∧(xs.length:Int)≤(xs.length:Int)∧(24:Int)*(xs.length:Int)≤281474976710656∧(xs.length:Int)<9223372036854775808 by omega) ?_
 refine Zap Zaa rfl (fun(i:Nat)=> [(3, .ref hp0.length 0 xs.length none),(9, .v (.l (.l qct)) xs),(10, .v (.i .i64) (xs.length:Int)),(11, .v (.i .i64) (i:Int))]) (fun i=>Zna hp0 xs i)
  (fun i=>i≤xs.length) (fun i=>xs.length-i) ?_ 0 (Nat.zero_le _) ?_
 ·intro i hi
  refine And.intro (fun h=> ?_) (fun h=> ?_)
  ·have hlt:i<xs.length:=by have h':(i:Int)<(xs.length:Int):=of_decide_eq_true h;omega
   have gx:xs[(i:Int).toNat]? =some xs[i]:=by rw[Int.toNat_natCast];exact List.getElem?_eq_getElem hlt
   have hrl:=hr xs[i] (List.getElem_mem hlt)
   have hne:=h0 xs[i] (List.getElem_mem hlt)
   have wi:IntKind.i64.wrap ((i:Int)+1)=((i+1:Nat):Int):=Zae (by omega) (by omega)
   have hel:=Zuu (p:=hp0.length+1) (xs:=xs) (i:=i) (by omega)
   have hst:=ZvF (p:=hp0.length+1) hlt
   have hvl:=Zu6 (hp0:=hp0) (xs:=xs) (i:=i) (by omega)
   have ci:(0:Int)≤(i:Int)∧(i:Int)<(xs.length:Nat):=by omega
   have e1:ZbI qct (xs.take i)++ [SM.row qct xs[i] true]=ZbI qct (xs.take (i+1)):=by
    rw[List.take_succ_eq_append_getElem hlt,ZbI,ZbI,List.map_append];rfl
   obtain⟨row,erow⟩: ∃x,xs[i]=x:=⟨_,rfl⟩
   rw[erow]at gx hrl hne hst e1
   cases row with
   |nil=>exact absurd rfl hne
   |cons y r=>
    rw[List.length_cons]at hrl
    refine Zat ?_
    refine Zah ?_
    refine Zi9 rfl (fun _=>rfl) (Int.natCast_nonneg i) gx rfl rfl ?_
    iterate 3 refine Zah ?_
    refine Zas ?_
    refine Zat ?_
    iterate 3 refine Zah ?_
    refine Zaj rfl (And.intro (show(r.length+1)*64≤140737488355328 by omega) ?_)
    refine Zac rfl rfl ?_
    refine Zaj rfl (ZaC rfl rfl rfl rfl rfl (show nth (Zna hp0 xs i++_) _=some (.many (.l qct) (Zuj (hp0.length+1) xs xs.length i) true)from by rw[Zna,List.append_assoc];exact Zgu) rfl ci ?_)
    refine Zac rfl rfl ?_
    refine Zaj rfl (ZfW rfl rfl rfl (show nth (Zna hp0 xs i++_) _=some (.many (.l qct) (Zuj (hp0.length+1) xs xs.length i) true)from by rw[Zna,List.append_assoc];exact Zgu) rfl rfl rfl (by omega) ?_)
    refine ZbA rfl ?_
    refine Zas ?_
    refine⟨i+1,hlt,by show xs.length-(i+1)<xs.length-i;omega, ?_⟩
    have e0:0+(i:Int).toNat=i:=by rw[Int.toNat_natCast,Nat.zero_add]
    refine Ent.eqs (hp0:=Zna hp0 xs (i+1)) ?_ (Zaq ⟨rfl,rfl,rfl,congrArg (fun x=>some (SV.v (.i .i64) x)) wi,trivial⟩)
    rw[Zna,List.append_assoc,List.cons_append,Zw4,e0,Zna]
    show hp0++(_::(ZbI qct (xs.take i)++ [SM.row qct (y::r) true]))=_
    rw[e1]
    congr 2
    rw[←hst,List.length_cons]
    show SM.many _ (List.set _ _ (.ref (Zna hp0 xs i).length 0 _ _)) _=_
    rw[hvl]
  ·have hi2:i=xs.length:=by have h': ¬ (i:Int)<(xs.length:Int):=of_decide_eq_false h;omega
   refine⟨rfl, ?_⟩
   show Zna hp0 xs i=_
   rw[Zna,Zuj,hi2,Nat.sub_self,List.take_length,List.replicate_zero,List.append_nil]
 ·have e1:((xs.length:Nat):Int).toNat=xs.length:=Int.toNat_natCast _
  refine Ent.eqs (hp0:=Zna hp0 xs 0) ?_ (Zaq ⟨congrArg (fun x=>some (SV.ref hp0.length 0 x none)) e1,rfl,rfl,rfl,trivial⟩)
  show hp0++ [SM.many (.l qct) (List.replicate ((xs.length:Nat):Int).toNat .nils) true]=Zna hp0 xs 0
  rw[e1]
  rfl
end Go.Proofs.YtdnodlkdndfplaaGreatDoor
