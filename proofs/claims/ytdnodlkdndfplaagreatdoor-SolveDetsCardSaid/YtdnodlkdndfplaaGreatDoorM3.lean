/-
 Lists of rational numbers: ParseAll, Dot; first; vast.
-/
import Derived.Test.YtdnodlkdndfplaaGreatDoorDm
import Derived.Test.YtdnodlkdndfplaaGreatDoorTxE
set_option linter.constructorNameAsVariable false
set_option linter.unusedSimpArgs false
set_option linter.unusedVariables false
namespace Go.Proofs.YtdnodlkdndfplaaGreatDoor
open Go.Am Go.Tx Dv Go.Lib
set_option maxRecDepth 100000
theorem ZrO (q:Rat):PureOK Tryz.prog Zaw 123 [QR q] (fun V=>V= .v (.i .i64) q.num.sign):=by
 refine Zak Zal Tryz.func123 ?_
 refine And.intro rfl ?_
 refine(ZvT q.num).mono ?_
 rintro _ rfl
 rfl
set_option maxHeartbeats 4000000 in
theorem Zqj (ps:List Rat) (hl:ps.length≤1000000000) (hf: ∀p∈ps,Zhr p=true):PureOK Tryz.prog Zaw 78 [.v (.l .s) (ps.map Zbv)] (fun V=>V=QL ps):=by
 refine Zak Zal Tryz.func78 ?_
 have hll:(ps.map Zbv).length=ps.length:=List.length_map _
 have hg: ∀i (h:i<ps.length),(ps.map Zbv)[i]? =some (Zbv ps[i]):=fun i h=>by
  rw[List.getElem?_map,List.getElem?_eq_getElem h]
  rfl
 obtain⟨l,hl0⟩: ∃l,ps.map Zbv=l:=⟨_,rfl⟩
 rw[hl0]at hll hg⊢
 refine And.intro (show 0≤(l.length:Int)∧(l.length:Int)≤(l.length:Int)∧(64:Int)*(l.length:Int)≤281474976710656∧(l.length:Int)<9223372036854775808 by omega) ?_
 refine Zaz Zal rfl (fun(t:Nat×List qct.D)=> [(3, .ref 0 0 ps.length none),(9, .v (.l .s) l),(10, .v (.i .i64) (l.length:Int)),(11, .v (.i .i64) (t.1:Int))]) (fun t=> [.row qct t.2 true])
  (fun t=>t.1≤ps.length∧t.2.length=ps.length∧t.2.take t.1=(ps.map ZeO).take t.1) (fun t=>ps.length-t.1) ?_ (0,List.replicate ps.length qct.z) ?_ ?_
 ·rintro⟨i,out⟩ ⟨hi,hlen,hval⟩
  simp only at hi hlen hval
  refine And.intro (fun h=> ?_) (fun h=> ?_)
  ·have hlt:i<ps.length:=by have h':(i:Int)<(l.length:Int):=of_decide_eq_true h;omega
   have gx:l[(i:Int).toNat]? =some (Zbv ps[i]):=by rw[Int.toNat_natCast];exact hg i hlt
   have hfx:=hf ps[i] (List.getElem_mem hlt)
   have ho:i<out.length:=by omega
   have wi:IntKind.i64.wrap ((i:Int)+1)=((i+1:Nat):Int):=Zao (by omega) (by omega)
   have hq:=ZzZ (ps:=ps) hlt
   obtain⟨x,hx⟩: ∃x,ps[i]=x:=⟨_,rfl⟩
   rw[hx]at gx hfx hq
   refine⟨Zbv x,Int.natCast_nonneg i,gx, ?_⟩
   refine(Zw2 x hfx).mono ?_
   rintro _ rfl
   refine And.intro ⟨Int.natCast_nonneg i,by show(i:Int)<((ps.length:Nat):Int);omega⟩ ?_
   refine Exists.intro (out[i]) (And.intro (by simp) ?_)
   refine⟨(i+1,out.set i (ZeO x)),⟨hlt,by show(out.set _ _).length=_;simpa using hlen, ?_⟩,by show ps.length-(i+1)<ps.length-i;omega, ?_⟩
   ·show(out.set i (ZeO x)).take (i+1)=(ps.map ZeO).take (i+1)
    have h1:(out.set i (ZeO x)).take (i+1)=out.take i++ [ZeO x]:=by
     rw[List.take_succ_eq_append_getElem (by simpa using ho),List.getElem_set_self,List.take_set_of_le (Nat.le_refl _)]
    have h2:(ps.map ZeO).take (i+1)=(ps.map ZeO).take i++ [ZeO x]:=by
     have hm:i<(ps.map ZeO).length:=by simpa using hlt
     rw[List.take_succ_eq_append_getElem hm]
     have:(ps.map ZeO)[i]=ZeO x:=by rw[List.getElem?_eq_getElem hm]at hq;exact Option.some.inj hq
     rw[this]
    rw[h1,h2,hval]
   ·have er:out.set i (ZeO x)=out.set (0+(i:Int).toNat) (ZeO x):=by rw[Int.toNat_natCast,Nat.zero_add]
    refine Zas rfl rfl ?_ ?_
    ·exact⟨⟨rfl,rfl,rfl⟩,rfl,rfl,wi.symm,trivial⟩
    ·exact⟨⟨er,fun _=>rfl⟩,trivial⟩
  ·have hi2:i=ps.length:=by have h': ¬ (i:Int)<(l.length:Int):=of_decide_eq_false h;omega
   have ho:out=ps.map ZeO:=by
    rw[hi2,List.take_of_length_le (by omega),List.take_of_length_le (by simp)]at hval
    exact hval
   refine⟨by show 0+ps.length≤out.length;omega, ?_⟩
   show SV.v (.l qct) (sub out 0 ps.length)=SV.v (.l qct) (ps.map ZeO)
   rw[ho,sub,List.drop_zero,List.take_of_length_le (by simp)]
 ·exact⟨Nat.zero_le _,by simp,by simp⟩
 ·have e1:ps.length=((l.length:Nat):Int).toNat:=by omega
  refine Zas rfl rfl ?_ ?_
  ·exact⟨⟨rfl,e1,e1⟩,rfl,rfl,rfl,trivial⟩
  ·exact⟨⟨by rw[e1];rfl,fun _=>rfl⟩,trivial⟩
end Go.Proofs.YtdnodlkdndfplaaGreatDoor
/-
 lin.Width.
-/
namespace Go.Proofs.YtdnodlkdndfplaaGreatDoor
open Go.Am Go.Tx Dv Go.Lib
set_option maxRecDepth 100000
def ZyK {α:Type}:List (List α)→Nat
 | []=>0
 |r::_=>r.length
end Go.Proofs.YtdnodlkdndfplaaGreatDoor
/-
 Texts of numbers, of rows, of matrices; the numbers of a matrix.
-/
namespace Go.Proofs.YtdnodlkdndfplaaGreatDoor
open Go.Am Go.Tx Dv Go.Lib
set_option maxRecDepth 100000
def ZtG (pss:List (List Rat)):List (List qct.D):=pss.map fun ps=>ps.map ZeO
def ZhG (pss:List (List Rat)):List (List (List UInt8)):=pss.map fun ps=>ps.map Zbv
theorem ZwS {pss:List (List Rat)} {i:Nat} (h:i<pss.length):(ZtG pss)[i]? =some (pss[i].map ZeO):=by
 rw[ZtG,List.getElem?_map,List.getElem?_eq_getElem h]
 rfl
theorem ZqM {pss:List (List Rat)} {i:Nat} (h:i<pss.length):(ZhG pss)[i]? =some (pss[i].map Zbv):=by
 rw[ZhG,List.getElem?_map,List.getElem?_eq_getElem h]
 rfl
theorem ZtC {α β:Type} {g:α→β} {ps:List α} {i:Nat} (hlt:i<ps.length):(ps.take i).map g++ [g ps[i]]=(ps.take (i+1)).map g:=by
 rw[List.take_succ_eq_append_getElem hlt,List.map_append]
 rfl
end Go.Proofs.YtdnodlkdndfplaaGreatDoor
/-
 Places behind a heap of any length; function values called in regions with light operations.
-/
namespace Go.Tx
open Go.Am
section
variable {P : Program} {h : Hints} {T : TypeId → TI} {hp : List SM} {tm : TM}
theorem ZkG {α:Type} {a:List α} {x:α} {r:List α}:nth (a++x::r) a.length=some x:=by
 rw[ZaT,List.getElem?_append_right (Nat.le_refl _),Nat.sub_self];rfl
theorem Zxr {α:Type} {a:List α} {x y:α} {r:List α}:(a++x::r).set a.length y=a++y::r:=by
 rw[List.set_append_right _ _ (Nat.le_refl _),Nat.sub_self];rfl
variable {N : Nat} {ls : List Nat} {o : Oper} {l : List Oper} {i : Nat} {ks : List (Nat × Nat × Bool)} {kk : TM → List SM → Prop}
end
end Go.Tx
/-
 Matrices of own rows: two rows change places; a slice without memory seen as an empty row; a row that was built anew behind the matrix.
-/
namespace Go.Tx
open Go.Am
section
variable {P : Program} {h : Hints} {T : TypeId → TI} {hp : List SM} {tm : TM}
def ZzP (ok:Nat→Prop) (tm:TM):TM→Prop
 | []=>True
 |(i,V')::r=>Zcu i tm=some V'∧(∀id∈Zd3 V',ok id)∧ZzP ok tm r
mutual
theorem ZvK {f:Nat→Nat}: ∀V:SV,(∀id∈Zd3 V,f id=id)→rnV f V=V
 | .ref id i n m,hb=>by rw[rnV,hb id (by simp[Zd3])]
 | .ptr id i r,hb=>by rw[rnV,hb id (by simp[Zd3])]
 | .func g a c,hb=>by
  simp only[Zd3,List.mem_append]at hb
  rw[rnV,rnL_ok a (fun id hi=>hb id (.inl hi)),rnL_ok c (fun id hi=>hb id (.inr hi))]
 | .agg cs,hb=>by rw[rnV,rnL_ok cs (by simpa only[Zd3]using hb)]
 | .tup cs,hb=>by rw[rnV,rnL_ok cs (by simpa only[Zd3]using hb)]
 | .v _ _,_| .nilp,_| .nils,_| .nilf,_| .nili,_| .box _ _ _,_=>rfl
theorem rnL_ok {f:Nat→Nat}: ∀l:List SV,(∀id∈rchL l,f id=id)→rnL f l=l
 | [],_=>rfl
 |v::r,hb=>by
  simp only[rchL,List.mem_append]at hb
  rw[rnL,ZvK v (fun id hi=>hb id (.inl hi)),rnL_ok r (fun id hi=>hb id (.inr hi))]
end
theorem Zlp {ok:Nat→Prop} {f:Nat→Nat} {n:Nat} (hok: ∀id,ok id→f id=id∧id<n) {tm:TM}: ∀ {tm':TM},ZzP ok tm tm'→Zx3 f n tm tm'
 | [],_=>trivial
 |(i,V')::r,⟨h1,h2,h3⟩=>⟨by rw[ZvK V' fun id hi=>(hok id (h2 id hi)).1];exact h1,fun id hi=>(hok id (h2 id hi)).2,Zlp hok h3⟩
theorem ZoM {A:SM} {ct:CT} {xs:List (List ct.D)} {ex:List SM} {j:Nat} (hj:j<xs.length):(A::(Zbo ct xs++ex))[j+1]? =some (.row ct xs[j] true):=by
 rw[List.getElem?_cons_succ,List.getElem?_append_left (by rw[ZaL];exact hj),Zlq hj]
theorem Zn6 {A:SM} {ct:CT} {xs:List (List ct.D)} {ex:List SM} {j:Nat} (hj:xs.length≤j):(A::(Zbo ct xs++ex))[j+1]? =ex[j-xs.length]? :=by
 rw[List.getElem?_cons_succ,List.getElem?_append_right (by rw[ZaL];exact hj),ZaL]
def swI (a b j:Nat):Nat:=if j=a then b else if j=b then a else j
theorem Zv0 {a b j n:Nat} (ha:a<n) (hb:b<n) (hj:j<n):swI a b j<n:=by
 unfold swI
 repeat' split
 all_goals omega
theorem ZtV {F:Nat} {tm tm':TM} {ct:CT} {ex:List SM} {xs ys:List (List ct.D)} {a b la lb:Nat} (ha:a<xs.length) (hb:b<xs.length) (hla:xs[a].length=la) (hlb:xs[b].length=lb) (hl:ys.length=xs.length)
 (hy: ∀j (h1:j<ys.length) (h2:swI a b j<xs.length),ys[j]=xs[swI a b j]) (hF:F≤1) (hex: ∀m∈ex,Zk3 m=[]) (htm:ZzP (fun id=>id=0∨(xs.length<id∧id<xs.length+1+ex.length)) tm tm'):
 Ent F tm (.many (.l ct) (((Za4 1 xs).set a (.ref (b+1) 0 lb none)).set b (.ref (a+1) 0 la none)) true::([]++(Zbo ct xs++ex))) tm' (.many (.l ct) (Za4 1 ys) true::([]++(Zbo ct ys++ex))):=by
 subst hla hlb
 rw[List.nil_append,List.nil_append]
 have hlen: ∀A:SM,(A::(Zbo ct ys++ex)).length=xs.length+1+ex.length:=fun A=>by rw[List.length_cons,List.length_append,ZaL];omega
 have hlen0: ∀A:SM,(A::(Zbo ct xs++ex)).length=xs.length+1+ex.length:=fun A=>by rw[List.length_cons,List.length_append,ZaL];omega
 let f:Nat→Nat:=fun j=>match j with
  |0=>0
  |j+1=>swI a b j+1
 have fs: ∀j,f (j+1)=swI a b j+1:=fun _=>rfl
 have f0:f 0=0:=rfl
 have fbig: ∀j,xs.length<j→f j=j:=fun j hj=>by
  obtain⟨i,rfl⟩: ∃i,j=i+1:=⟨j-1,by omega⟩
  rw[fs];unfold swI;repeat' split
  all_goals omega
 have finj: ∀i j,f i=f j→i=j:=by
  intro i j h
  cases i with
  |zero=>cases j with
   |zero=>rfl
   |succ j=>rw[f0,fs]at h;omega
  |succ i=>cases j with
   |zero=>rw[f0,fs]at h;omega
   |succ j=>
    rw[fs,fs]at h
    unfold swI at h
    repeat' split at h
    all_goals omega
 have fle: ∀j,j<xs.length+1+ex.length→f j<xs.length+1+ex.length:=by
  intro j hj
  cases j with
  |zero=>omega
  |succ j=>
   rw[fs];unfold swI;repeat' split
   all_goals omega
 refine Zm5 f ?_ ?_ ?_ ?_ ?_ ?_
 ·rw[hlen];omega
 ·intro j hj;rw[show j=0 by omega]
 ·intro j hj;rw[hlen]at hj;rw[hlen0];exact fle j hj
 ·exact fun i j _ _ h=>finj i j h
 ·refine Zlp (fun id hid=> ?_) htm
  rw[hlen]
  rcases hid with rfl|⟨h1,h2⟩
  ·exact⟨rfl,by omega⟩
  ·exact⟨fbig id h1,h2⟩
 ·intro j m hm
  right
  cases j with
  |zero=>
   have hm:some (SM.many (.l ct) (Za4 1 ys) true)=some m:=hm
   cases hm
   refine⟨?_,fun id hid=> ?_⟩
   ·show some (SM.many (.l ct) (((Za4 1 xs).set a (.ref (b+1) 0 xs[b].length none)).set b (.ref (a+1) 0 xs[a].length none)) true)=some (SM.many (.l ct) (rnL f (Za4 1 ys)) true)
    congr 2
    rw[ZsR]
    apply List.ext_getElem?
    intro j
    rw[List.getElem?_map]
    by_cases hj:j<xs.length
    ·have hjy:j<ys.length:=by omega
     have hsw:=Zv0 ha hb hj
     have e:=hy j hjy hsw
     rw[ZfP hjy]
     show _=some (SV.ref (f (j+1)) 0 ys[j].length none)
     rw[fs,e]
     by_cases hjb:j=b
     ·subst hjb
      rw[List.getElem?_set_self (by rw[List.length_set,Za9];exact hj)]
      have:swI a j j=a:=by unfold swI;split<;>simp_all
      simp only[this]
     ·rw[List.getElem?_set_ne (fun e=>hjb e.symm)]
      by_cases hja:j=a
      ·subst hja
       rw[List.getElem?_set_self (by rw[Za9];exact hj)]
       have:swI j b j=b:=by unfold swI;rw[if_pos rfl]
       simp only[this]
      ·rw[List.getElem?_set_ne (fun e=>hja e.symm),ZfP hj]
       have:swI a b j=j:=by unfold swI;rw[if_neg hja,if_neg hjb]
       simp only[this]
    ·rw[List.getElem?_eq_none (by rw[List.length_set,List.length_set,Za9];omega),List.getElem?_eq_none (by rw[Za9];omega)]
     rfl
   ·have:=Zf5 (by simpa only[Zk3]using hid)
    rw[hlen];omega
  |succ j=>
   by_cases hj:j<xs.length
   ·have hjy:j<ys.length:=by omega
    rw[ZoM hjy]at hm
    cases hm
    have hsw:=Zv0 ha hb hj
    refine⟨?_,fun id hid=>by simp[Zk3]at hid⟩
    rw[fs,ZoM hsw,hy j hjy hsw]
    rfl
   ·rw[Zn6 (by omega)]at hm
    have hr:=hex m (List.mem_of_getElem? hm)
    refine⟨?_,fun id hid=>by rw[hr]at hid;exact absurd hid List.not_mem_nil⟩
    rw[fbig (j+1) (by omega),Zn6 (by omega),←hl,hm,Zs1 (p:=0) (fun j hj=>absurd hj (Nat.not_lt_zero j)) m (fun id hid=>by rw[hr]at hid;exact absurd hid List.not_mem_nil)]
end
end Go.Tx
/-
 lin.Copy: a matrix as the caller's own rows.
-/
namespace Go.Proofs.YtdnodlkdndfplaaGreatDoor
open Go.Am Go.Tx Dv Go.Lib
set_option maxRecDepth 100000
def ZtI (p:Nat) (xs:List (List qct.D)) (n i:Nat):List SV:=Za4 p (xs.take i)++List.replicate (n-i) .nils
theorem Zi8 {α:Type} (y:List α): ∀ (p:Nat) (xs:List (List α)),Za4 p (xs++ [y])=Za4 p xs++ [.ref (xs.length+p) 0 y.length none]
 |p,[]=>by rw[List.nil_append,Za4,Za4,Za4,List.length_nil,Nat.zero_add];rfl
 |p,x::r=>by rw[List.cons_append,Za4,Za4,Zi8 y (p+1) r,List.cons_append,List.length_cons,show r.length+(p+1)=r.length+1+p by omega]
theorem ZtZ {p:Nat} {xs:List (List qct.D)} {i:Nat} (hi:i≤xs.length):(ZtI p xs xs.length i).length=xs.length:=by
 rw[ZtI,List.length_append,Za9,List.length_take,List.length_replicate];omega
theorem Zu9 {p i:Nat} {xs:List (List qct.D)} (hi:i<xs.length):(ZtI p xs xs.length i).set i (.ref (i+p) 0 xs[i].length none)=ZtI p xs xs.length (i+1):=by
 have h1:(Za4 p (xs.take i)).length=i:=by rw[Za9,List.length_take];omega
 rw[ZtI,ZtI,List.set_append_right _ _ (by omega),h1,Nat.sub_self,show xs.length-i=(xs.length-(i+1))+1 by omega,List.replicate_succ,List.set_cons_zero,List.take_succ_eq_append_getElem hi,Zi8,List.append_assoc,List.length_take,Nat.min_eq_left (by omega)]
 rfl
def ZnL (hp0:List SM) (xs:List (List qct.D)) (i:Nat):List SM:=hp0++(.many (.l qct) (ZtI (hp0.length+1) xs xs.length i) true::Zbo qct (xs.take i))
theorem Zuq {hp0:List SM} {xs:List (List qct.D)} {i:Nat} (hi:i≤xs.length):(ZnL hp0 xs i).length=i+(hp0.length+1):=by
 rw[ZnL,List.length_append,List.length_cons,ZaL,List.length_take];omega
set_option maxHeartbeats 8000000 in
theorem Zzt (xs:List (List qct.D)) (hp0:List SM) (hl:xs.length≤1000) (hr: ∀x∈xs,x.length≤1000) (h0: ∀x∈xs,x≠ []):OpenOK Tryz.prog Zaw 122 [.v (.l (.l qct)) xs] hp0 (fun V hp=>V= .ref hp0.length 0 xs.length none∧hp=hp0++(.many (.l qct) (Za4 (hp0.length+1) xs) true::Zbo qct xs)):=by
 refine Zsl (fn:=Tryz.f122) (code:=Zdv Tryz.f122) Zal (by kernel_rfl) Tryz.func122 (by kernel_rfl) (Nat.le_of_ble_eq_true (by kernel_rfl)) ?_
 intro base
 refine And.intro (show 0≤(xs.length:Int)∧(xs.length:Int)≤(xs.length:Int)∧(24:Int)*(xs.length:Int)≤281474976710656∧(xs.length:Int)<9223372036854775808 by omega) ?_
 refine Zaz Zal rfl (fun(i:Nat)=> [(3, .ref hp0.length 0 xs.length none),(9, .v (.l (.l qct)) xs),(10, .v (.i .i64) (xs.length:Int)),(11, .v (.i .i64) (i:Int))]) (fun i=>ZnL hp0 xs i)
  (fun i=>i≤xs.length) (fun i=>xs.length-i) ?_ 0 (Nat.zero_le _) ?_
 ·intro i hi
  refine And.intro (fun h=> ?_) (fun h=> ?_)
  ·have hlt:i<xs.length:=by have h':(i:Int)<(xs.length:Int):=of_decide_eq_true h;omega
   have gx:xs[(i:Int).toNat]? =some xs[i]:=by rw[Int.toNat_natCast];exact List.getElem?_eq_getElem hlt
   have hrl:=hr xs[i] (List.getElem_mem hlt)
   have hne:=h0 xs[i] (List.getElem_mem hlt)
   have wi:IntKind.i64.wrap ((i:Int)+1)=((i+1:Nat):Int):=Zao (by omega) (by omega)
   have hel:=ZtZ (p:=hp0.length+1) (xs:=xs) (i:=i) (by omega)
   have hst:=Zu9 (p:=hp0.length+1) hlt
   have hvl:=Zuq (hp0:=hp0) (xs:=xs) (i:=i) (by omega)
   have ci:(0:Int)≤(i:Int)∧(i:Int)<(xs.length:Nat):=by omega
   have e1:Zbo qct (xs.take i)++ [SM.row qct xs[i] true]=Zbo qct (xs.take (i+1)):=by
    rw[List.take_succ_eq_append_getElem hlt,Zbo,Zbo,List.map_append];rfl
   obtain⟨row,erow⟩: ∃x,xs[i]=x:=⟨_,rfl⟩
   rw[erow]at gx hrl hne hst e1
   cases row with
   |nil=>exact absurd rfl hne
   |cons y r=>
    rw[List.length_cons]at hrl
    repeat (first|refine Zag ?_|refine Zae ?_|refine Zad ?_)
    first|refine Zab (Zaa (id:=4) rfl ?_)|refine Zab (Zab (Zaa (id:=4) rfl ?_))|refine Zaa (id:=4) rfl ?_|refine Zab (Zac rfl (Zab (Zaa (id:=4) rfl ?_)))|refine Zac rfl (Zab (Zaa (id:=4) rfl ?_))|refine Zab (Zac rfl (Zaa (id:=4) rfl ?_))|refine Zac rfl (Zaa (id:=4) rfl ?_)
    refine Zaf rfl (fun _=>rfl) rfl rfl ?_
    refine ZmH rfl (fun _=>rfl) (Int.natCast_nonneg i) gx rfl rfl ?_
    refine Zaf rfl (fun _=>rfl) rfl rfl ?_
    refine Zaf rfl (fun _=>rfl) rfl rfl ?_
    refine Zaf rfl (fun _=>rfl) rfl rfl ?_
    refine Zah ?_
    repeat (first|refine Zae ?_|refine Zad ?_)
    repeat (first|refine Zag ?_|refine Zae ?_|refine Zad ?_)
    first|refine Zab (Zaa (id:=5) rfl ?_)|refine Zab (Zab (Zaa (id:=5) rfl ?_))|refine Zaa (id:=5) rfl ?_|refine Zab (Zac rfl (Zab (Zaa (id:=5) rfl ?_)))|refine Zac rfl (Zab (Zaa (id:=5) rfl ?_))|refine Zab (Zac rfl (Zaa (id:=5) rfl ?_))|refine Zac rfl (Zaa (id:=5) rfl ?_)
    refine Zaf rfl (fun _=>rfl) rfl rfl ?_
    refine Zaf rfl (fun _=>rfl) rfl rfl ?_
    refine Zaf rfl (fun _=>rfl) rfl rfl ?_
    refine Zau rfl (And.intro (show(r.length+1)*64≤140737488355328 by omega) ?_)
    refine Zam rfl rfl ?_
    refine Zau rfl (ZaZ rfl rfl rfl rfl rfl (show nth (ZnL hp0 xs i++_) _=some (.many (.l qct) (ZtI (hp0.length+1) xs xs.length i) true)from by rw[ZnL,List.append_assoc];exact ZkG) rfl ci ?_)
    refine Zam rfl rfl ?_
    refine Zau rfl (ZiB rfl rfl rfl (show nth (ZnL hp0 xs i++_) _=some (.many (.l qct) (ZtI (hp0.length+1) xs xs.length i) true)from by rw[ZnL,List.append_assoc];exact ZkG) rfl rfl rfl (by omega) ?_)
    refine Zcd rfl ?_
    refine Zah ?_
    repeat (first|refine Zae ?_|refine Zad ?_)
    refine⟨i+1,hlt,by show xs.length-(i+1)<xs.length-i;omega, ?_⟩
    have e0:0+(i:Int).toNat=i:=by rw[Int.toNat_natCast,Nat.zero_add]
    refine Ent.eqs (hp0:=ZnL hp0 xs (i+1)) ?_ (ZaO ⟨rfl,rfl,rfl,congrArg (fun x=>some (SV.v (.i .i64) x)) wi,trivial⟩)
    rw[ZnL,List.append_assoc,List.cons_append,Zxr,e0,ZnL]
    show hp0++(_::(Zbo qct (xs.take i)++ [SM.row qct (y::r) true]))=_
    rw[e1]
    congr 2
    rw[←hst,List.length_cons]
    show SM.many _ (List.set _ _ (.ref (ZnL hp0 xs i).length 0 _ _)) _=_
    rw[hvl]
  ·have hi2:i=xs.length:=by have h': ¬ (i:Int)<(xs.length:Int):=of_decide_eq_false h;omega
   refine⟨rfl, ?_⟩
   show ZnL hp0 xs i=_
   rw[ZnL,ZtI,hi2,Nat.sub_self,List.take_length,List.replicate_zero,List.append_nil]
 ·have e1:((xs.length:Nat):Int).toNat=xs.length:=Int.toNat_natCast _
  refine Ent.eqs (hp0:=ZnL hp0 xs 0) ?_ (ZaO ⟨congrArg (fun x=>some (SV.ref hp0.length 0 x none)) e1,rfl,rfl,rfl,trivial⟩)
  show hp0++ [SM.many (.l qct) (List.replicate ((xs.length:Nat):Int).toNat .nils) true]=ZnL hp0 xs 0
  rw[e1]
  rfl
end Go.Proofs.YtdnodlkdndfplaaGreatDoor
