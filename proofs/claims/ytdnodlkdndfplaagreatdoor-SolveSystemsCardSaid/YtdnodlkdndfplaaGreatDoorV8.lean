/-
 The reference's Minor and Det.
-/
import Derived.Test.YtdnodlkdndfplaaGreatDoorM6
set_option linter.constructorNameAsVariable false
set_option linter.unusedSimpArgs false
set_option linter.unusedVariables false
namespace Go.Proofs.YtdnodlkdndfplaaGreatDoor
open Go.Am Go.Tx Dv Go.Lib La
set_option maxRecDepth 100000
end Go.Proofs.YtdnodlkdndfplaaGreatDoor
/-
 The reference's Det.
-/
namespace Go.Proofs.YtdnodlkdndfplaaGreatDoor
open Go.Am Go.Tx Dv Go.Lib La
set_option maxRecDepth 100000
theorem ZBC {B:Nat} {f:Nat→Rat}: ∀ {n:Nat},(∀k,k<n→dz (f k) B)→dz (S n f) (1+n*(B+1))
 |0,_=>by rw[S,Nat.zero_mul];exact Zyp
 |n+1,h=>by
  rw[S]
  refine ZbM ?_ (Zpu (ZBC fun k hk=>h k (by omega)) (h n (by omega)))
  rw[Nat.succ_mul];omega
theorem Zsv {pss:List (List Rat)} {i j W:Nat} (hr: ∀ps∈pss,ps.length=W) (hi:i<pss.length) (hj:j<W): ∃ps∈pss,mxQ pss i j∈ps:=by
 refine⟨pss[i],List.getElem_mem hi, ?_⟩
 have hl:=hr _ (List.getElem_mem hi)
 have e:mxQ pss i j=(pss[i])[j]:=by
  show(pss.getD i []).getD j 0=_
  rw[List.getD_eq_getElem?_getD,List.getD_eq_getElem?_getD,List.getElem?_eq_getElem hi,Option.getD_some,List.getElem?_eq_getElem (by omega),Option.getD_some]
 rw[e]
 exact List.getElem_mem _
theorem Zzz (k:Nat) (f:Nat→Rat):S (k+1) f=S k f+f k:=rfl
end Go.Proofs.YtdnodlkdndfplaaGreatDoor
/-
 Systems of equations by elimination of the last unknown: the answer is the one solution.
-/
namespace La
def Zep (f:Nat→Bool):Nat→Option Nat
 |0=>none
 |r+1=>match Zep f r with
  |some a=>some a
  |none=>bif f r then some r else none
theorem Zew {f:Nat→Bool}: ∀ {r a:Nat},Zep f r=some a→a<r∧f a=true
 |0,_,h=>by cases h
 |r+1,a,h=>by
  rw[Zep]at h
  cases h1:Zep f r with
  |some b=>
   rw[h1]at h
   cases h
   have:=Zew h1
   exact⟨by omega,this.2⟩
  |none=>
   rw[h1]at h
   cases h2:f r with
   |false=>simp only[h2,cond_false]at h;cases h
   |true=>simp only[h2,cond_true]at h;cases h;exact⟨by omega,h2⟩
theorem Zil {f:Nat→Bool}: ∀ {r:Nat},Zep f r=none→ ∀i,i<r→f i=false
 |0,_,i,hi=>by omega
 |r+1,h,i,hi=>by
  rw[Zep]at h
  cases h1:Zep f r with
  |some b=>rw[h1]at h;cases h
  |none=>
   rw[h1]at h
   cases h2:f r with
   |true=>simp only[h2,cond_true]at h;cases h
   |false=>
    by_cases e:i=r
    ·rw[e];exact h2
    ·exact Zil h1 i (by omega)
def Za3 (n a:Nat) (M:Mx):Mx:=fun i j=>M (sk a i) (sk n j)-M (sk a i) n/M a n*M a (sk n j)
def Zh0 (n a:Nat) (M:Mx) (x:Nat→Rat):Nat→Rat:=fun j=>if j<n then x j else(M a (n+1)-S n (fun k=>M a k*x k))/M a n
def ZgA:Nat→Nat→Mx→Option (Nat→Rat)
 |0,r,M=>match Zep (fun i=>decide (M i 0≠0)) r with
  |some _=>none
  |none=>some fun _=>0
 |n+1,r,M=>match Zep (fun i=>decide (M i n≠0)) r with
  |none=>none
  |some a=>match ZgA n (r-1) (Za3 n a M)with
   |none=>none
   |some x=>some (Zh0 n a M x)
theorem Sol.congr {n w:Nat} {M:Mx} {x y:Nat→Rat} (h: ∀j,j<w→x j=y j) (hs:Sol n w M x):Sol n w M y:=fun i hi=>by
 rw[←hs i hi]
 exact ZaQ fun k hk=>by rw[h k hk]
theorem ZoA {n r a:Nat} {M:Mx} (ha:a<r) (hz:M a n≠0) (x:Nat→Rat):Sol r (n+1) M x↔(Sol (r-1) n (Za3 n a M) x∧x n=(M a (n+1)-S n (fun j=>M a j*x j))/M a n):=by
 rw[Zv2 ha hz]
 refine and_congr ?_ Iff.rfl
 have hn:sk n n=n+1:=by unfold sk;rw[if_neg (Nat.lt_irrefl n)]
 have hj: ∀j,j<n→sk n j=j:=fun j h=>by unfold sk;rw[if_pos h]
 have key: ∀i,(S n (fun j=>(M i j-M i n/M a n*M a j)*x j)=M i (n+1)-M i n/M a n*M a (n+1))↔S n (fun j=>(M i (sk n j)-M i n/M a n*M a (sk n j))*x j)=M i (sk n n)-M i n/M a n*M a (sk n n):=fun i=>by
  rw[hn,ZaQ (n:=n) (f:=fun j=>(M i (sk n j)-M i n/M a n*M a (sk n j))*x j) (g:=fun j=>(M i j-M i n/M a n*M a j)*x j) fun k hk=>by rw[hj k hk]]
 constructor
 ·intro h i hi
  exact(key (sk a i)).1 (h (sk a i) (by have:=Zuh (k:=a) hi;omega) (by unfold sk;split<;>omega))
 ·intro h i hi hne
  rcases Nat.lt_or_ge i a with hl|hl
  ·have e:sk a i=i:=by unfold sk;rw[if_pos hl]
   have:=h i (by omega)
   rw[key i]
   simp only[Za3,e]at this
   exact this
  ·have e:sk a (i-1)=i:=by unfold sk;rw[if_neg (by omega)];omega
   have:=h (i-1) (by omega)
   rw[key i]
   simp only[Za3,e]at this
   exact this
theorem ZiH {n a:Nat} {M:Mx} {x:Nat→Rat}:Zh0 n a M x n=(M a (n+1)-S n (fun k=>M a k*x k))/M a n:=by rw[Zh0,if_neg (Nat.lt_irrefl n)]
theorem ZfE {n a j:Nat} {M:Mx} {x:Nat→Rat} (h:j<n):Zh0 n a M x j=x j:=by rw[Zh0,if_pos h]
theorem ZqK {n r a:Nat} {M:Mx} {x:Nat→Rat} (ha:a<r) (hz:M a n≠0) (h:Sol (r-1) n (Za3 n a M) x):Sol r (n+1) M (Zh0 n a M x):=by
 rw[ZoA ha hz]
 refine⟨h.congr fun j hj=>(ZfE hj).symm, ?_⟩
 rw[ZiH,ZaQ (f:=fun j=>M a j*Zh0 n a M x j) (g:=fun j=>M a j*x j) fun k hk=>by rw[ZfE hk]]
theorem Zjd {n r a:Nat} {M:Mx} {y:Nat→Rat} (ha:a<r) (hz:M a n≠0) (h:Zqn (r-1) n (Za3 n a M) y):Zqn r (n+1) M (Zh0 n a M y):=by
 obtain⟨u1,u2⟩:=h
 refine⟨ZqK ha hz u1,fun z hzs j hj=> ?_⟩
 obtain⟨g1,g2⟩:=(ZoA ha hz z).1 hzs
 have g3:=u2 z g1
 by_cases e:j<n
 ·rw[ZfE e];exact g3 j e
 ·have e:j=n:=by omega
  subst e
  rw[g2,ZiH,ZaQ (f:=fun j=>M a j*z j) (g:=fun j=>M a j*y j) fun k hk=>by rw[g3 k hk]]
theorem Zgo: ∀ (n r:Nat) (M:Mx) (x:Nat→Rat),ZgA n r M=some x→Zqn r n M x
 |0,r,M,x,h=>by
  rw[ZgA]at h
  cases h1:Zep (fun i=>decide (M i 0≠0)) r with
  |some _=>rw[h1]at h;cases h
  |none=>
   refine⟨fun i hi=> ?_,fun y _ j hj=>by omega⟩
   have:=Zil h1 i hi
   rw[S]
   simp only[ne_eq,decide_not,Bool.not_eq_false',decide_eq_true_eq]at this
   exact this.symm
 |n+1,r,M,x,h=>by
  rw[ZgA]at h
  cases h1:Zep (fun i=>decide (M i n≠0)) r with
  |none=>rw[h1]at h;cases h
  |some a=>
   rw[h1]at h
   obtain⟨ha,h2⟩:=Zew h1
   have hz:M a n≠0:=of_decide_eq_true h2
   cases h3:ZgA n (r-1) (Za3 n a M)with
   |none=>simp only[h3]at h;cases h
   |some y=>
    simp only[h3]at h
    cases h
    exact Zjd ha hz (Zgo n (r-1) (Za3 n a M) y h3)
theorem Znv: ∀ (n r:Nat) (M:Mx),ZgA n r M=none→ ∀x,¬Zqn r n M x
 |0,r,M,h,x=>by
  rw[ZgA]at h
  cases h1:Zep (fun i=>decide (M i 0≠0)) r with
  |none=>rw[h1]at h;cases h
  |some a=>
   obtain⟨ha,h2⟩:=Zew h1
   rintro⟨hs,_⟩
   exact of_decide_eq_true h2 (by rw[←hs a ha];rfl)
 |n+1,r,M,h,x=>by
  rw[ZgA]at h
  cases h1:Zep (fun i=>decide (M i n≠0)) r with
  |none=>
   rintro⟨hs,hu⟩
   have h0: ∀i,i<r→M i n=0:=fun i hi=>by
    have:=Zil h1 i hi
    simpa using this
   have h2:=hu (fun j=>if j=n then x n+1 else x j) (fun i hi=>by
    have h3:=hs i hi
    rw[S,h0 i hi]at h3⊢
    rw[ZaQ (g:=fun j=>M i j*x j) fun k hk=>by show M i k*(if k=n then x n+1 else x k)=_;rw[if_neg (by omega)]]
    rw[←h3]
    grind) n (Nat.lt_succ_self n)
   simp only[if_true]at h2
   grind
  |some a=>
   rw[h1]at h
   obtain⟨ha,h2⟩:=Zew h1
   have hz:M a n≠0:=of_decide_eq_true h2
   cases h3:ZgA n (r-1) (Za3 n a M)with
   |some y=>simp only[h3]at h;cases h
   |none=>
    rintro⟨hs,hu⟩
    obtain⟨g1,g2⟩:=(ZoA ha hz x).1 hs
    refine Znv n (r-1) (Za3 n a M) h3 x ⟨g1,fun y hy j hj=> ?_⟩
    have:=hu _ (ZqK ha hz hy) j (by omega)
    rw[ZfE hj]at this
    exact this
end La
/-
 'append' while rows were looked at ahead; some rows of a heap in an order of their own.
-/
namespace Go.Tx
open Go.Am
section
variable {P : Program} {h : Hints} {T : TypeId → TI} {hp : List SM} {tm : TM} {N i : Nat} {ls : List Nat} {l : List Oper} {o : Oper} {ks : List (Nat × Nat × Bool)} {kk : TM → List SM → Prop} {V : SV}
theorem ZAo {y:Nat×Nat×Bool} {ks':List (Nat×Nat×Bool)} {id0 id':Nat} {ids:List Nat} {c:Call} (hi:has i ls=false) (hd:Zn3 h o ks=y::ks') (hw:isW h o=true) (hl:Zj1 (y::ks')=id0::ids) (hc:o.op= .call c) (hq:ZBb h tm c=false) (ha:ZA7 tm c=some (some id')) (hv:(Zff hp id'&&Zdz hp (Zzg (y::ks'))&& !ZnZ id' (Zzg (y::ks')))=true)
 (ho:opT P h T o.op tm hp fun V hp'=>ZcS N o.dst V tm fun tm'=>ZaG P h T N ls l (i+1) (y::ks') tm' hp' kk):ZaG P h T N ls (o::l) i ks tm hp kk:=by
 rw[hc]at ho
 simp only[ZaG,hi,hd,hw,hl,hc,hq,ha,hv]
 exact ho
theorem Zl0 {id:Nat} {ct:CT} {r:List ct.D} {m:Bool} (hn:nth hp id=some (.row ct r m)):Zff hp id=true:=by rw[Zff,hn];rfl
def Zut (hp:List SM):List Nat→List SM→Prop
 | [],[]=>True
 |i::is,m::ms=>nth hp i=some m∧Zg2 m=[]∧Zut hp is ms
 |_,_=>False
theorem Ztt: ∀ {is:List Nat} {ms:List SM},Zut hp is ms→is.length=ms.length∧ ∀ (j:Nat) (x:SM),ms[j]? =some x→ ∃i,is[j]? =some i∧nth hp i=some x∧Zg2 x=[]
 | [],[],_=>⟨rfl,fun j x h=>by simp at h⟩
 | [],_::_,h=>h.elim
 |_::_,[],h=>h.elim
 |i::is,m::ms,⟨h1,h2,h3⟩=>by
  obtain⟨g1,g2⟩:=Ztt h3
  refine⟨by simp[g1],fun j x hx=> ?_⟩
  cases j with
  |zero=>cases hx;exact⟨i,rfl,h1,h2⟩
  |succ j=>exact g2 j x hx
theorem ZqI: ∀ {l:List Nat} {a b x:Nat},l.Nodup→l[a]? =some x→l[b]? =some x→a=b
 | [],_,_,_,_,h,_=>by simp at h
 |i::r,0,0,_,_,_,_=>rfl
 |i::r,0,b+1,x,hn,h1,h2=>by
  cases h1
  rw[List.getElem?_cons_succ]at h2
  exact absurd (List.mem_of_getElem? h2) (List.nodup_cons.1 hn).1
 |i::r,a+1,0,x,hn,h1,h2=>by
  cases h2
  rw[List.getElem?_cons_succ]at h1
  exact absurd (List.mem_of_getElem? h1) (List.nodup_cons.1 hn).1
 |i::r,a+1,b+1,x,hn,h1,h2=>congrArg (· +1) (ZqI (l:=r) (List.nodup_cons.1 hn).2 h1 h2)
theorem ZfZ {tm':TM} (is:List Nat) {ms:List SM} (hk:Zut hp is ms) (hnd:is.Nodup) (htm:Zw6 (fun j=>is.getD j 0) ms.length tm tm'):Ent 0 tm hp tm' ms:=by
 obtain⟨hl,hat⟩:=Ztt hk
 have hget: ∀j,j<ms.length→ ∃x i,ms[j]? =some x∧is[j]? =some i∧is.getD j 0=i∧nth hp i=some x∧Zg2 x=[]:=fun j hj=>by
  obtain⟨i,g1,g2,g3⟩:=hat j ms[j] (List.getElem?_eq_getElem hj)
  exact⟨ms[j],i,List.getElem?_eq_getElem hj,g1,by rw[List.getD_eq_getElem?_getD,g1];rfl,g2,g3⟩
 refine Zhb (fun j=>is.getD j 0) (Nat.zero_le _) (fun j hj=>absurd hj (Nat.not_lt_zero j)) (fun j hj=> ?_) (fun a b ha hb hab=> ?_) htm fun j x hx=> ?_
 ·obtain⟨x,i,_,_,g3,g4,_⟩:=hget j hj
  show is.getD j 0<_
  rw[g3]
  exact Zug g4
 ·obtain⟨_,i,_,g2,g3,_⟩:=hget a ha
  obtain⟨_,i',_,g2',g3',_⟩:=hget b hb
  have hab:is.getD a 0=is.getD b 0:=hab
  rw[g3,g3']at hab
  subst hab
  exact ZqI hnd g2 g2'
 ·obtain⟨hj,_⟩:=List.getElem?_eq_some_iff.1 hx
  obtain⟨y,i,g1,_,g3,g4,g5⟩:=hget j hj
  rw[g1]at hx
  cases hx
  refine .inr ⟨?_,fun id hid=>by rw[g5]at hid;exact absurd hid List.not_mem_nil⟩
  show hp[is.getD j 0]? =_
  rw[g3,←ZaT,g4,Zke (p:=0) (fun j hj=>absurd hj (Nat.not_lt_zero j)) x (fun id hid=>by rw[g5]at hid;exact absurd hid List.not_mem_nil)]
theorem ZuS {op:Op} {ct:CT} {by_ id2:Nat} {m2:Option Nat} {b:Bool} {x:ct.D} {k:SV→List SM→Prop}
 {c:Call} {t t2 e e2:TypeId} {ts:List TypeId} (ho:op= .call c) (hc:c.callee= .builtin .append) (ha:evL tm c.args.toList=some [.nils, .ref id2 0 1 m2]) (ht:c.argTypes.toList=t::t2::ts) (hk1:(T t).k= .slice e) (hk2:(T t2).k= .slice e2) (hct:(T e).ct=some ct) (hby:(T e).by_=by_) (hok:(ZcW (T e).k,Nat.ble 1 (T e).by_&&Nat.ble 1 (T e).sz,h.frz t)=(false,true,false))
 (hn2:nth hp id2=some (.row ct [x] b)) (hz:by_≤140737488355328) (hk:k (.ref hp.length 0 1 none) (hp++ [.row ct [x] true])):opT P h T op tm hp k:=by
 have hg:Zp0 ct hp (.ref id2 0 1 m2) (fun new=>ZrI ct by_ hp .nils new k):=by
  refine Zgw hn2 (Nat.le_refl 1) ?_
  have e2:sub [x] 0 1=[x]:=rfl
  rw[e2]
  exact⟨by simpa using hz,hk⟩
 simp only[Prod.mk.injEq]at hok
 obtain⟨ok1,ok2,ok3⟩:=hok
 simp only[ho,opT,Zns,ha,hc,ZfI,ht,hk1,hk2,hct,ok2,ok3]
 subst hby
 generalize(T e).k=kk at*
 cases kk<;>first|(cases ok1;done)|exact hg
theorem ZrA {op:Op} {c:Call} {f:FuncId} {V W:SV} {k:SV→List SM→Prop} (ho:op= .call c) (hc:c.callee= .value (.func f)) (ha:evL tm c.args.toList=some [V,W]) (h1:h.opn f=false) (h2:h.imp f=false) (h3:h.mem f=true) (he:ZdB hp 40 V fun v=>ZdB hp 40 W fun w=>PureOK P h f [v,w] fun R=>k R (frzT hp (ZsV hp [V,W]))):opT P h T op tm hp k:=by
 subst ho
 simp only[opT,Zns,ha,hc,ZfV,h1,h2,h3,ZBn,Zfc]
 exact he
theorem ZBI {n:Nat} {t:CT} {x:t.D} {k:SV→Prop} (hk:k (.v t x)):ZdB hp (n+2) (.v t x) k:=hk
end
end Go.Tx
/-
 The reference's System: its rows, a system without unknowns, the row that has the last unknown.
-/
namespace Go.Proofs.YtdnodlkdndfplaaGreatDoor
open Go.Am Go.Tx Dv Go.Lib La
set_option maxRecDepth 100000
def tvT (W:Nat) (u:Nat→Rat):List (List UInt8):=(List.range W).map fun j=>ZaX (u j)
def tmT (r W:Nat) (f:Mx):List (List (List UInt8)):=(List.range r).map fun i=>tvT W (f i)
theorem ZbO {W:Nat} {u:Nat→Rat}:(tvT W u).length=W:=by rw[tvT,List.length_map,List.length_range]
theorem ZfJ {r W:Nat} {f:Mx}:(tmT r W f).length=r:=by rw[tmT,List.length_map,List.length_range]
theorem Zm7 {W j:Nat} {u:Nat→Rat} (hj:j<W):(tvT W u)[j]? =some (ZaX (u j)):=by rw[tvT,List.getElem?_map,List.getElem?_range hj];rfl
theorem Znn {r W i:Nat} {f:Mx} (hi:i<r):(tmT r W f)[i]? =some (tvT W (f i)):=by rw[tmT,List.getElem?_map,List.getElem?_range hi];rfl
theorem Zia {W:Nat} {u:Nat→Rat}:tvT (W+1) u=tvT W u++ [ZaX (u W)]:=by rw[tvT,List.range_succ,List.map_append];rfl
theorem Zpw {r W:Nat} {f:Mx}:tmT (r+1) W f=tmT r W f++ [tvT W (f r)]:=by rw[tmT,List.range_succ,List.map_append];rfl
theorem ZsS {W:Nat} {u v:Nat→Rat} (h: ∀j,j<W→u j=v j):tvT W u=tvT W v:=List.map_congr_left fun j hj=>by rw[h j (List.mem_range.1 hj)]
theorem Zk0 {F k:Nat} {hp:List SM} {tm tm':TM} {ct:CT} (hF:F≤hp.length) (h1:Zbj k tm=some .nils) (h2: ∀i V,Nat.beq i k=false→Zbj i tm'=some V→Zbj i tm=some V) (h3:Zbj k tm'=some (.ref hp.length 0 0 none)):Ent F tm hp tm' (hp++ [.row ct [] true]):=by
 refine ZqC (k:=k) hF h1 (fun i V hi h=>h2 i V ?_ h) h3
 cases hb:Nat.beq i k with
 |true=>exact absurd (Nat.eq_of_beq_eq_true hb) hi
 |false=>rfl
section
variable (n r : Nat) (M : Mx)
def vSA (i:Nat):TM:=[(1, .v (.l .s) (tvT r fun i=>M i n)),(2,nt n),(8, .ref 0 0 i none),(29, .v (.l (.l .s)) (tmT r n M)),(30,nt r),(31,nt i)]
end
set_option maxHeartbeats 16000000 in
theorem ZB0 (n r:Nat) (M:Mx) (hn:n≤1000) (hr:r≤1000):LoopOK Tryz.prog Zan 0 ⟨27,0,209⟩ (Zbz Tryz.f27 3) [(1, .v (.l .s) (tvT r fun i=>M i n)),(2,nt n),(8, .nils),(29, .v (.l (.l .s)) (tmT r n M)),(30,nt r),(31,nt 0)] []
 (fun e tm hp=>e= .exit 0∧Ent 0 tm hp [(2,nt n),(8, .ref 0 0 r none)] [.row (.l .s) (tmT r (n+1) M) true]):=by
 refine Zat Zaa rfl (vSA n r M) (fun i=> [.row (.l .s) (tmT i (n+1) M) true]) (fun i=>i≤r) (fun i=>r-i) ?_ 0 (Nat.zero_le _) ?_
 ·intro i hi
  cases h1:decide ((i:Int)<(r:Int))with
  |false=>
   have he:i=r:=by have:=of_decide_eq_false h1;omega
   subst he
   refine Zas ?_
   refine Zad ?_
   refine Zaq ?_
   refine brF h1 ?_
   exact⟨rfl,Zap ⟨rfl,rfl,trivial⟩⟩
  |true=>
   have hlt:i<r:=by have:=of_decide_eq_true h1;omega
   have gm:(tmT r n M)[(i:Int).toNat]? =some (tvT n (M i)):=by rw[Int.toNat_natCast];exact Znn hlt
   have gb:(tvT r fun i=>M i n)[(i:Int).toNat]? =some (ZaX (M i n)):=by rw[Int.toNat_natCast];exact Zm7 hlt
   have hnext:tmT (i+1) (n+1) M=tmT i (n+1) M++ [([]++tvT n (M i))++ [ZaX (M i n)]]:=by rw[Zpw,Zia,List.nil_append]
   have hrl:(tvT n (M i)).length=n:=ZbO
   have hal:(tmT i (n+1) M).length=i:=ZfJ
   obtain⟨row,erow⟩: ∃x,tvT n (M i)=x:=⟨_,rfl⟩
   obtain⟨x,ex⟩: ∃x,ZaX (M i n)=x:=⟨_,rfl⟩
   obtain⟨acc,ea⟩: ∃x,tmT i (n+1) M=x:=⟨_,rfl⟩
   rw[erow]at gm hnext hrl
   rw[ex]at gb hnext
   rw[ea]at hnext hal⊢
   have zA:(0+row.length)*16≤140737488355328:=by omega
   have zB:(0+row.length+ [x].length)*16≤140737488355328:=by show(0+row.length+1)*16≤_;omega
   have zC:(i+1)*24≤140737488355328:=by omega
   have xl:(([]++row)++ [x]).length=0+row.length+ [x].length:=by rw[List.length_append,List.nil_append];omega
   have ne1:(0:Nat)≠1:=by decide
   have ne2:(2:Nat)≠1:=by decide
   have hne: ∀a:Nat,a=1∨3≤a→0≠a:=fun a h=>by omega
   have hni: ∀a b c d:Nat,3≤a→a≤b→(c=1∨3≤c)→(d=c∨a≤d)→0 ∉ [b,d]:=fun a b c d h1 h2 h3 h4=>by
    simp only[List.mem_cons,List.not_mem_nil,or_false];omega
   refine Zas ?_
   refine Zad ?_
   refine Zaq ?_
   refine brT h1 ?_
   refine Zas ?_
   refine Zad ?_
   refine ZcM rfl (fun _=>rfl) (Int.natCast_nonneg i) gm rfl rfl ?_
   iterate 3 refine Zad ?_
   refine Zaq ?_
   refine ZAX ?_
   refine Zb3 rfl rfl rfl rfl rfl ?_
   refine Zbw rfl rfl (opm (fun _=>rfl) rfl rfl ?_)
   refine Zbw rfl rfl (opv (fun _=>rfl) rfl rfl ?_)
   refine Zb3 rfl rfl rfl rfl rfl ?_
   refine Zb3 rfl rfl rfl rfl rfl ?_
   refine ZmY rfl rfl rfl (fun _=>rfl) (Int.natCast_nonneg i) gb rfl rfl ?_
   refine Zms rfl rfl rfl (fun _=>rfl) rfl rfl ?_
   refine Zbw rfl rfl (opm (fun _=>rfl) rfl rfl ?_)
   refine Zju rfl rfl (Zk2 (ct:= .s) (l:=[]) (new:=row) rfl rfl rfl rfl rfl rfl rfl rfl rfl rfl rfl (fun kk hk=>Zxr hk) zA (fun i1 H1 g1 a1 b1 c1=> ?_))
   refine Zbx rfl rfl ?_
   refine Zju rfl rfl (Zk2 (ct:= .s) (new:=[x]) rfl rfl rfl rfl rfl rfl rfl rfl rfl g1 (by rw[List.nil_append,Nat.zero_add]) (fun kk hk=>Zgw (a1 2 ne2 (Nat.lt_succ_self 2)) (Nat.le_refl 1) hk) zB (fun i2 H2 g2 a2 b2 c2=> ?_))
   refine Zbx rfl rfl ?_
   refine Zbw rfl rfl (opm (fun _=>rfl) rfl rfl ?_)
   refine Zju rfl rfl (Zsg (ct:= .l .s) (l:=acc) (x:=([]++row)++ [x]) rfl rfl rfl rfl rfl rfl rfl rfl rfl (fun kk hk=>Ztx ZeI (Zcn g2) xl hk) (by rw[Zd8 ZeI (Zcn g2)];exact hni H1.length H2.length i1 i2 b1 b2 c1 c2) (Zcn ((a2 0 (hne i1 c1) (Nat.lt_of_lt_of_le (Nat.zero_lt_succ 2) b1)).trans (a1 0 ne1 (Nat.zero_lt_succ 2)))) hal.symm zC (fun i3 H3 g3 _ _=> ?_))
   refine Zbx rfl rfl ?_
   refine Zbw rfl rfl (opv (fun _=>rfl) rfl rfl ?_)
   refine ZAI ?_
   refine Zas ?_
   iterate 2 refine Zad ?_
   refine Zaq ?_
   refine⟨i+1,hlt,by show r-(i+1)<r-i;omega, ?_⟩
   show Ent 0 _ H3 _ [SM.row (.l .s) (tmT (i+1) (n+1) M) true]
   rw[hnext]
   exact Zx1 g3 rfl ⟨rfl,ZfL,rfl,ZfL,rfl,ZbQ Nat.zero_lt_one,rfl,ZfL,rfl,ZfL,congrArg (fun x=>some (SV.v (.i .i64) x)) (Zd7 (by omega)),ZfL,trivial⟩
 ·refine Zk0 (k:=8) (ct:= .l .s) (Nat.zero_le _) rfl (fun i V hb h=> ?_) rfl
  simp only[vSA,Zbj,hb]at h⊢
  exact h
theorem ZpS {f:Nat→Bool} {i:Nat} (h:f i=false):Zep f (i+1)=Zep f i:=by
 rw[Zep]
 cases Zep f i with
 |some a=>rfl
 |none=>rw[h];rfl
theorem ZuB {f:Nat→Bool} {i:Nat} (h:f i=true) (h0:Zep f i=none):Zep f (i+1)=some i:=by rw[Zep,h0,h];rfl
theorem Ztb {f:Nat→Bool} {i a:Nat} (h0:Zep f i=some a):Zep f (i+1)=some a:=by rw[Zep,h0]
theorem Zwm {f:Nat→Bool} {i a:Nat} (h:Zep f i=some a): ∀ {r:Nat},i≤r→Zep f r=some a
 |r,hr=>by
  obtain⟨d,rfl⟩: ∃d,r=i+d:=⟨r-i,by omega⟩
  clear hr
  induction d with
  |zero=>exact h
  |succ d ih=>exact Ztb ih
def vSZ (r i:Nat):TM:=[(11, .ref 1 0 0 none),(53, .ref 0 0 r none),(54,nt r),(55,nt i)]
theorem ZB9 (q:Rat):(!(ZaX q==[48]))=decide (q≠0):=by rw[Zmb];simp
set_option maxHeartbeats 16000000 in
theorem ZCt (r:Nat) (M:Mx) (hr:r≤1000):LoopOK Tryz.prog Zan 0 ⟨27,0,209⟩ (Zbz Tryz.f27 10) (vSZ r 0) [.row (.l .s) (tmT r 1 M) true, .row .s [] true]
 (fun e tm hp=>(e= .exit 2∧Zep (fun i=>decide (M i 0≠0)) r=none∧Ent 0 tm hp [(11, .ref 1 0 0 none)] [.row (.l .s) (tmT r 1 M) true, .row .s [] true])∨(e= .ret∧(∃a,Zep (fun i=>decide (M i 0≠0)) r=some a)∧Ent 0 tm hp [(6, .nils),(7, .v .b false)] [])):=by
 refine Zat Zaa rfl (vSZ r) (fun _=> [.row (.l .s) (tmT r 1 M) true, .row .s [] true]) (fun i=>i≤r∧Zep (fun i=>decide (M i 0≠0)) i=none) (fun i=>r-i) ?_ 0 ⟨Nat.zero_le _,rfl⟩ ZaU
 rintro i ⟨hi,hf⟩
 cases h1:decide ((i:Int)<(r:Int))with
 |false=>
  have he:i=r:=by have:=of_decide_eq_false h1;omega
  subst he
  refine Zas ?_
  refine Zad ?_
  refine Zaq ?_
  refine brF h1 ?_
  exact .inl ⟨rfl,hf,Zap ⟨rfl,trivial⟩⟩
 |true=>
  have hlt:i<r:=by have:=of_decide_eq_true h1;omega
  have ci:=cin hlt
  have hat:(tmT r 1 M)[0+(i:Int).toNat]? =some (tvT 1 (M i)):=by rw[Int.toNat_natCast,Nat.zero_add];exact Znn hlt
  have gx:(tvT 1 (M i))[(0:Int).toNat]? =some (ZaX (M i 0)):=Zm7 Nat.zero_lt_one
  have hq:=ZB9 (M i 0)
  obtain⟨row,erow⟩: ∃x,tvT 1 (M i)=x:=⟨_,rfl⟩
  obtain⟨x,ex⟩: ∃x,ZaX (M i 0)=x:=⟨_,rfl⟩
  rw[erow]at hat gx
  rw[ex]at gx hq
  refine Zas ?_
  refine Zad ?_
  refine Zaq ?_
  refine brT h1 ?_
  refine Zas ?_
  refine ZhR rfl (fun _=>rfl) ci rfl rfl ?_
  refine Zmj rfl (fun _=>rfl) hat rfl rfl ?_
  refine Zad ?_
  refine Zaq ?_
  cases h2:(!(x==[48]))with
  |true=>
   have hi0:(fun i=>decide (M i 0≠0)) i=true:=by show decide (M i 0≠0)=true;rw[←hq,h2]
   refine Zas ?_
   refine Zad ?_
   refine ZcM rfl (fun _=>rfl) (Int.le_refl 0) gx rfl rfl ?_
   iterate 2 refine Zad ?_
   refine Zaq ?_
   refine brT h2 ?_
   refine Zas ?_
   iterate 2 refine Zad ?_
   refine Zaq ?_
   refine Zc0 ?_
   repeat (first|refine ZdT ?_|refine ZdX ?_|refine ZcX ?_)
   exact .inr ⟨rfl,⟨i,Zwm (ZuB hi0 hf) hlt⟩,ZiR ⟨rfl,rfl,rfl,rfl,trivial⟩⟩
  |false=>
   have hi0:(fun i=>decide (M i 0≠0)) i=false:=by show decide (M i 0≠0)=false;rw[←hq,h2]
   refine Zas ?_
   refine Zad ?_
   refine ZcM rfl (fun _=>rfl) (Int.le_refl 0) gx rfl rfl ?_
   iterate 2 refine Zad ?_
   refine Zaq ?_
   refine brF h2 ?_
   refine Zas ?_
   iterate 2 refine Zad ?_
   refine Zaq ?_
   refine⟨i+1,⟨hlt,by rw[ZpS hi0];exact hf⟩,by show r-(i+1)<r-i;omega, ?_⟩
   exact Zap ⟨rfl,rfl,rfl,congrArg (fun x=>some (SV.v (.i .i64) x)) (Zd7 (by omega)),trivial⟩
def atI:Option Nat→Int
 |none=> -1
 |some a=>(a:Int)
def vSB (n r:Nat) (M:Mx) (i:Nat):TM:=[(2,nt (n+1)),(8, .ref 0 0 r none),(11, .ref 1 0 (n+1) none),(14, .v (.i .i64) (atI (Zep (fun i=>decide (M i n≠0)) i))),(65, .ref 0 0 r none),(66,nt r),(67,nt i)]
def hpB (n r:Nat) (M:Mx):List SM:=[.row (.l .s) (tmT r (n+2) M) true, .row .s (List.replicate (n+1) []) true]
theorem ZyQ (n:Nat) (hn:n≤1000):IntKind.i64.wrap (((n+1:Nat):Int)-1)=(n:Int):=by
 rw[show((n+1:Nat):Int)-1=((n:Nat):Int)by omega]
 exact Zah (by omega) (by omega)
set_option maxHeartbeats 16000000 in
theorem ZCx (n r:Nat) (M:Mx) (hn:n≤1000) (hr:r≤1000):LoopOK Tryz.prog Zan 0 ⟨27,0,209⟩ (Zbz Tryz.f27 18) (vSB n r M 0) (hpB n r M)
 (fun e tm hp=>e= .exit 4∧Ent 0 tm hp [(2,nt (n+1)),(8, .ref 0 0 r none),(11, .ref 1 0 (n+1) none),(14, .v (.i .i64) (atI (Zep (fun i=>decide (M i n≠0)) r)))] (hpB n r M)):=by
 refine Zat Zaa rfl (vSB n r M) (fun _=>hpB n r M) (fun i=>i≤r) (fun i=>r-i) ?_ 0 (Nat.zero_le _) ZaU
 intro i hi
 cases h1:decide ((i:Int)<(r:Int))with
 |false=>
  have he:i=r:=by have:=of_decide_eq_false h1;omega
  subst he
  refine Zas ?_
  refine Zad ?_
  refine Zaq ?_
  refine brF h1 ?_
  exact⟨rfl,Zap ⟨rfl,rfl,rfl,rfl,trivial⟩⟩
 |true=>
  have hlt:i<r:=by have:=of_decide_eq_true h1;omega
  have ci:=cin hlt
  have hw:=ZyQ n hn
  have hat:(tmT r (n+2) M)[0+(i:Int).toNat]? =some (tvT (n+2) (M i)):=by rw[Int.toNat_natCast,Nat.zero_add];exact Znn hlt
  have hz:(0:Int)≤IntKind.i64.wrap (((n+1:Nat):Int)-1):=by rw[hw];omega
  have gx:(tvT (n+2) (M i))[(IntKind.i64.wrap (((n+1:Nat):Int)-1)).toNat]? =some (ZaX (M i n)):=by rw[hw,Int.toNat_natCast];exact Zm7 (by omega)
  have hq:=ZB9 (M i n)
  obtain⟨row,erow⟩: ∃x,tvT (n+2) (M i)=x:=⟨_,rfl⟩
  obtain⟨x,ex⟩: ∃x,ZaX (M i n)=x:=⟨_,rfl⟩
  obtain⟨f,ef⟩: ∃f:Nat→Bool,(fun i=>decide (M i n≠0))=f:=⟨_,rfl⟩
  have hfi:f i=decide (M i n≠0):=by rw[←ef]
  rw[erow]at hat gx
  rw[ex]at gx hq
  rw[←hq]at hfi
  have done_: ∀tm:TM,Zbj 2 tm=some (nt (n+1))→Zbj 8 tm=some (.ref 0 0 r none)→Zbj 11 tm=some (.ref 1 0 (n+1) none)→Zbj 14 tm=some (.v (.i .i64) (atI (Zep f (i+1))))→Zbj 65 tm=some (.ref 0 0 r none)→Zbj 66 tm=some (nt r)→Zbj 67 tm=some (.v (.i .i64) (IntKind.i64.wrap ((i:Int)+1)))→ ∃a',a'≤r∧r-a'<r-i∧Ent 0 tm (hpB n r M) (vSB n r M a') (hpB n r M):=fun tm q1 q2 q3 q4 q5 q6 q7=>
   ⟨i+1,hlt,by omega,Zap ⟨q1,q2,q3,by rw[q4,←ef],q5,q6,by rw[q7,Zd7 (by omega)],trivial⟩⟩
  refine Zas ?_
  refine Zad ?_
  refine Zaq ?_
  refine brT h1 ?_
  refine Zas ?_
  refine Zad ?_
  refine ZhR rfl (fun _=>rfl) ci rfl rfl ?_
  refine Zmj rfl (fun _=>rfl) hat rfl rfl ?_
  iterate 2 refine Zad ?_
  refine Zaq ?_
  cases h2:(!(x==[48]))with
  |false=>
   rw[h2]at hfi
   refine Zas ?_
   iterate 3 refine Zad ?_
   refine ZcM rfl (fun _=>rfl) hz gx rfl rfl ?_
   iterate 3 refine Zad ?_
   refine ZaL h2 ?_
   refine ZaL h2 ?_
   refine ZaW h2 ?_
   refine Zaq ?_
   refine brF rfl ?_
   refine Zas ?_
   iterate 2 refine Zad ?_
   refine Zaq ?_
   exact done_ _ rfl rfl rfl (by rw[ZpS hfi,←ef];rfl) rfl rfl rfl
  |true=>
   rw[h2]at hfi
   cases h3:Zep f i with
   |none=>
    have h4:decide (atI (Zep (fun i=>decide (M i n≠0)) i)<(0:Int))=true:=by rw[ef,h3];rfl
    refine Zas ?_
    iterate 3 refine Zad ?_
    refine ZcM rfl (fun _=>rfl) hz gx rfl rfl ?_
    iterate 3 refine Zad ?_
    refine Zae h2 ?_
    refine Zae h2 ?_
    refine ZaY h2 ?_
    refine Zaq ?_
    refine brT h4 ?_
    refine Zas ?_
    iterate 2 refine Zad ?_
    refine Zaq ?_
    refine Zas ?_
    iterate 2 refine Zad ?_
    refine Zaq ?_
    exact done_ _ rfl rfl rfl (by rw[ZuB hfi h3];rfl) rfl rfl rfl
   |some a=>
    have h4:decide (atI (Zep (fun i=>decide (M i n≠0)) i)<(0:Int))=false:=by rw[ef,h3,decide_eq_false_iff_not];show ¬ (a:Int)<0;omega
    refine Zas ?_
    iterate 3 refine Zad ?_
    refine ZcM rfl (fun _=>rfl) hz gx rfl rfl ?_
    iterate 3 refine Zad ?_
    refine Zae h2 ?_
    refine Zae h2 ?_
    refine ZaY h2 ?_
    refine Zaq ?_
    refine brF h4 ?_
    refine Zas ?_
    iterate 2 refine Zad ?_
    refine Zaq ?_
    exact done_ _ rfl rfl rfl (by rw[Ztb h3,←h3,←ef];rfl) rfl rfl rfl
end Go.Proofs.YtdnodlkdndfplaaGreatDoor
