/-
 lin.Det.
-/
import Derived.Test.YtdnodlkdndfplaaGreatDoorVB
set_option linter.constructorNameAsVariable false
set_option linter.unusedSimpArgs false
set_option linter.unusedVariables false
namespace Go.Proofs.YtdnodlkdndfplaaGreatDoor
open Go.Am Go.Tx Dv Go.Lib La
set_option maxRecDepth 100000
def vO (n k:Nat):TM:=[(0, .ref 0 0 n none),(2, .ptr (n+1) 0 0),(3, .ptr (n+2) 0 0),(13,nt n),(14,nt k)]
def fwN (N:Mx) (k q:Nat):Mx:=fun i j=>if i<k then N i j else if i=k then N q j else swR N k q i j-swR N k q i k/N q k*N q j
set_option maxHeartbeats 32000000 in
theorem ZAg (n K X B:Nat) (M:Mx) (L:Int) (hn:n≤1000) (hK:K≤30000000) (hI:Ints n n M L B) (hB:1≤B) (hX:(n+1)*(B*bd n B)≤X) (hq: ∀q,Quo X q→szQ q K):
 PureOK Tryz.prog Zaw 73 [.v (.l (.l qct)) (Zcm n n M)] (fun V=>V=QR (det n M)):=by
 refine Zqs (fn:=Tryz.f73) (code:=Zdv Tryz.f73) Zal (by kernel_rfl) rfl Tryz.func73 (by kernel_rfl) (Nat.le_of_ble_eq_true (by kernel_rfl)) ?_
 show CodeOK Tryz.prog Zaw 0 cxD (Zdv Tryz.f73) [(0, .v (.l (.l qct)) (Zcm n n M))] [] (Zu1 tys Tryz.f73.results.toList fun V hp=>Zgb hp 40 V fun V=>V=QR (det n M))
 have hrow: ∀x∈Zcm n n M,x.length=n:=fun x hx=>by
  obtain⟨i,_,rfl⟩:=List.mem_map.1 hx
  exact Zce
 have hCopy:=Zzt (Zcm n n M) [cZ] (by rw[ZaQ];exact hn) (fun x hx=>by rw[hrow x hx];exact hn) (fun x hx e=>by
  have h1:=hrow x hx
  rw[e]at h1
  have:n=0:=h1.symm
  subst this
  exact absurd hx List.not_mem_nil)
 have hel0:(Zcm n n M).length=n:=ZaQ
 have hW:=ZqX 1 (by decide) (by decide)
 have res: ∀ {tm:TM} {hp:List SM} {cs:List SV} (q:Rat),Zcu 2 tm=some (.ptr (n+1) 0 0)→nth hp (n+1)=some (.cell cs true)→cs=Za5 (QR q)→q=det n M→Zu1 tys Tryz.f73.results.toList (fun V hp=>Zgb hp 40 V fun V=>V=QR (det n M)) .ret tm hp:=by
  intro tm hp cs q h1 h2 h3 h4
  subst h3 h4
  have hx:ZiC tys 76 hp (.ptr (n+1) 0 0) (fun V=>Zgb hp 40 (ZxX [V]) fun V=>V=QR (det n M)):=ZjD (V:=QR (det n M)) h2 rfl rfl rfl
  show(match Zcu 2 tm with
   |some V=>ZiC tys 76 hp V fun V=>Zgb hp 40 (ZxX [V]) fun V=>V=QR (det n M)
   |none=>False)
  rw[h1]
  exact hx
 refine ZaV (Zbs Zal ?_)
 repeat (first|refine Zag ?_|refine Zae ?_|refine Zad ?_)
 first|refine Zab (Zaa (id:=0) rfl ?_)|refine Zab (Zab (Zaa (id:=0) rfl ?_))|refine Zaa (id:=0) rfl ?_|refine Zab (Zac rfl (Zab (Zaa (id:=0) rfl ?_)))|refine Zab (Zac rfl (Zab (Zab (Zaa (id:=0) rfl ?_))))|refine Zac rfl (Zab (Zab (Zaa (id:=0) rfl ?_)))|refine Zac rfl (Zab (Zaa (id:=0) rfl ?_))|refine Zab (Zac rfl (Zaa (id:=0) rfl ?_))|refine Zac rfl (Zaa (id:=0) rfl ?_)
 refine Ztw rfl (fun _=>rfl) rfl rfl ?_
 refine Zah ?_
 repeat (first|refine Zae ?_|refine Zad ?_)
 refine ZaV (Zbs Zal ?_)
 repeat (first|refine Zag ?_|refine Zae ?_|refine Zad ?_)
 first|refine Zab (Zaa (id:=1) rfl ?_)|refine Zab (Zab (Zaa (id:=1) rfl ?_))|refine Zaa (id:=1) rfl ?_|refine Zab (Zac rfl (Zab (Zaa (id:=1) rfl ?_)))|refine Zab (Zac rfl (Zab (Zab (Zaa (id:=1) rfl ?_))))|refine Zac rfl (Zab (Zab (Zaa (id:=1) rfl ?_)))|refine Zac rfl (Zab (Zaa (id:=1) rfl ?_))|refine Zab (Zac rfl (Zaa (id:=1) rfl ?_))|refine Zac rfl (Zaa (id:=1) rfl ?_)
 refine Zaf rfl (fun _=>rfl) rfl rfl ?_
 refine Zau rfl ((hCopy.mono ?_))
 rintro _ _ ⟨rfl,rfl⟩
 refine Zam rfl rfl ?_
 refine Zaf rfl (fun _=>rfl) rfl rfl ?_
 refine Zah ?_
 repeat (first|refine Zae ?_|refine Zad ?_)
 refine CodeOK.ent (tm':=[(0, .ref 0 0 n none),(2, .ptr (n+1) 0 0)]) (hp':=hpM n n M [cZ]) ?_ (by
  refine ZwU rfl ⟨?_,ZtA (by omega), ?_,Zs3 (by omega),trivial⟩
  ·show some (SV.ref 1 0 (Zcm n n M).length none)=some (SV.ref (if 0=n+1 then 0 else 0+1) 0 n none)
   rw[hel0,if_neg (by omega)]
  ·show some (SV.ptr 0 0 0)=some (SV.ptr (if n+1=n+1 then 0 else n+1+1) 0 0)
   rw[if_pos rfl])
 have hl1:(hpM n n M [cZ]).length=n+2:=Zd4
 have hpush1: ∀c:SM,nth (hpM n n M ([cZ]++ [c])) (hpM n n M [cZ]).length=some c:=fun c=>by rw[hl1];exact ZeY (e:=1)
 have hset1: ∀x y:SM,(hpM n n M ([cZ]++ [x])).set (hpM n n M [cZ]).length y=hpM n n M [cZ,y]:=fun x y=>by rw[hl1];exact ZfF (e:=1)
 refine ZaV (Zbs Zal ?_)
 repeat (first|refine Zag ?_|refine Zae ?_|refine Zad ?_)
 first|refine Zab (Zaa (id:=2) rfl ?_)|refine Zab (Zab (Zaa (id:=2) rfl ?_))|refine Zaa (id:=2) rfl ?_|refine Zab (Zac rfl (Zab (Zaa (id:=2) rfl ?_)))|refine Zab (Zac rfl (Zab (Zab (Zaa (id:=2) rfl ?_))))|refine Zac rfl (Zab (Zab (Zaa (id:=2) rfl ?_)))|refine Zac rfl (Zab (Zaa (id:=2) rfl ?_))|refine Zab (Zac rfl (Zaa (id:=2) rfl ?_))|refine Zac rfl (Zaa (id:=2) rfl ?_)
 refine Zau rfl ((hW).mono ?_)
 rintro _ rfl
 refine Zam rfl rfl ?_
 refine Ztw rfl (fun _=>rfl) rfl rfl ?_
 refine ZvZ Zj0 ?_
 refine Zau rfl (Zdn rfl rfl rfl (hpush1 _) rfl rfl rfl rfl ?_)
 refine Zcd rfl ?_
 refine Zah ?_
 repeat (first|refine Zae ?_|refine Zad ?_)
 refine ZaV (ZaV (Zbs Zal ?_))
 repeat (first|refine Zag ?_|refine Zae ?_|refine Zad ?_)
 first|refine Zab (Zaa (id:=3) rfl ?_)|refine Zab (Zab (Zaa (id:=3) rfl ?_))|refine Zaa (id:=3) rfl ?_|refine Zab (Zac rfl (Zab (Zaa (id:=3) rfl ?_)))|refine Zab (Zac rfl (Zab (Zab (Zaa (id:=3) rfl ?_))))|refine Zac rfl (Zab (Zab (Zaa (id:=3) rfl ?_)))|refine Zac rfl (Zab (Zaa (id:=3) rfl ?_))|refine Zab (Zac rfl (Zaa (id:=3) rfl ?_))|refine Zac rfl (Zaa (id:=3) rfl ?_)
 refine Zaf rfl (fun _=>rfl) rfl rfl ?_
 refine Zaf rfl (fun _=>rfl) rfl rfl ?_
 refine Zaf rfl (fun _=>rfl) rfl rfl ?_
 refine Zah ?_
 repeat (first|refine Zae ?_|refine Zad ?_)
 refine ZfI rfl (Zkl ?_)
 refine ZuO rfl (fun(t:Nat×Rat×Mx)=>vO n t.1) (fun t=>hpM n n t.2.2 [cZ,cQ t.2.1]) (fun t=>Fwd n M X t.1 t.2.2 t.2.1) (fun t=>n-t.1) ?_ (0,1,M) (Fwd.start fun _ _ _ _=>rfl) (by
  refine Ent.eqs (hset1 _ _) (ZaO ⟨rfl,rfl,congrArg (fun x=>some (SV.ptr x 0 0)) hl1,rfl,rfl,trivial⟩))
 rintro⟨k,d,N⟩ hE
 simp only at hE⊢
 have hkn:=hE.le
 have sN: ∀i j,i<n→j<n→szQ (N i j) K:=fun i j hi hj=>hq _ (hE.size hI hB hX hi hj)
 have sd:szQ d K:=hq _ (hE.sizeD hI hB hX)
 have hcd:nth (hpM n n N [cZ,cQ d]) (n+2)=some (cQ d):=ZeY (e:=1)
 have hcz:nth (hpM n n N [cZ,cQ d]) (n+1)=some cZ:=ZeY (e:=0)
 have hsetZ: ∀y:SM,(hpM n n N [cZ,cQ d]).set (n+1) y=hpM n n N [y,cQ d]:=fun y=>ZfF (e:=0)
 cases h1:decide ((k:Int)<(n:Int))with
 |false=>
  have he:k=n:=by have:=of_decide_eq_false h1;omega
  refine ZaV (Zbs Zal ?_)
  repeat (first|refine Zag ?_|refine Zae ?_|refine Zad ?_)
  first|refine Zab (Zaa (id:=4) rfl ?_)|refine Zab (Zab (Zaa (id:=4) rfl ?_))|refine Zaa (id:=4) rfl ?_|refine Zab (Zac rfl (Zab (Zaa (id:=4) rfl ?_)))|refine Zab (Zac rfl (Zab (Zab (Zaa (id:=4) rfl ?_))))|refine Zac rfl (Zab (Zab (Zaa (id:=4) rfl ?_)))|refine Zac rfl (Zab (Zaa (id:=4) rfl ?_))|refine Zab (Zac rfl (Zaa (id:=4) rfl ?_))|refine Zac rfl (Zaa (id:=4) rfl ?_)
  refine Zaf rfl (fun _=>rfl) rfl rfl ?_
  refine Zah ?_
  repeat (first|refine Zae ?_|refine Zad ?_)
  refine ZaV (Zbs Zal ?_)
  refine And.intro (fun h=>by first|(cases h;done)|exact(nf h h1).elim) (fun _=> ?_)
  subst he
  refine CodeOK.ent (tm':=vO k k) (hp':=hpM k k N [cZ,cQ d]) ?_ (ZaO ⟨rfl,rfl,rfl,rfl,rfl,trivial⟩)
  refine ZaV (Zbs Zal ?_)
  repeat (first|refine Zag ?_|refine Zae ?_|refine Zad ?_)
  first|refine Zab (Zaa (id:=25) rfl ?_)|refine Zab (Zab (Zaa (id:=25) rfl ?_))|refine Zaa (id:=25) rfl ?_|refine Zab (Zac rfl (Zab (Zaa (id:=25) rfl ?_)))|refine Zab (Zac rfl (Zab (Zab (Zaa (id:=25) rfl ?_))))|refine Zac rfl (Zab (Zab (Zaa (id:=25) rfl ?_)))|refine Zac rfl (Zab (Zaa (id:=25) rfl ?_))|refine Zab (Zac rfl (Zaa (id:=25) rfl ?_))|refine Zac rfl (Zaa (id:=25) rfl ?_)
  refine Zau rfl (ZfO (V:=QR d) rfl rfl hcd rfl rfl ?_)
  refine Zam rfl rfl ?_
  refine Zau rfl (Zdn rfl rfl rfl hcz rfl rfl rfl rfl ?_)
  refine Zcd rfl ?_
  refine Zah ?_
  repeat (first|refine Zae ?_|refine Zad ?_)
  refine Zbs Zal ?_
  refine Zsg ?_
  exact res d rfl (show nth ((hpM k k N [cZ,cQ d]).set (k+1) _) (k+1)=some _ from by rw[hsetZ];exact ZeY (e:=0)) rfl hE.last.symm
 |true=>
  have hlt:k<n:=by have:=of_decide_eq_true h1;omega
  refine ZaV (Zbs Zal ?_)
  repeat (first|refine Zag ?_|refine Zae ?_|refine Zad ?_)
  first|refine Zab (Zaa (id:=4) rfl ?_)|refine Zab (Zab (Zaa (id:=4) rfl ?_))|refine Zaa (id:=4) rfl ?_|refine Zab (Zac rfl (Zab (Zaa (id:=4) rfl ?_)))|refine Zab (Zac rfl (Zab (Zab (Zaa (id:=4) rfl ?_))))|refine Zac rfl (Zab (Zab (Zaa (id:=4) rfl ?_)))|refine Zac rfl (Zab (Zaa (id:=4) rfl ?_))|refine Zab (Zac rfl (Zaa (id:=4) rfl ?_))|refine Zac rfl (Zaa (id:=4) rfl ?_)
  refine Zaf rfl (fun _=>rfl) rfl rfl ?_
  refine Zah ?_
  repeat (first|refine Zae ?_|refine Zad ?_)
  refine ZaV (Zbs Zal ?_)
  refine And.intro (fun _=> ?_) (fun h=>by first|(cases h;done)|exact(nf h1 h).elim)
  refine ZaV (ZfI rfl ?_)
  refine ZaV (Zbs Zal ?_)
  repeat (first|refine Zag ?_|refine Zae ?_|refine Zad ?_)
  first|refine Zab (Zaa (id:=5) rfl ?_)|refine Zab (Zab (Zaa (id:=5) rfl ?_))|refine Zaa (id:=5) rfl ?_|refine Zab (Zac rfl (Zab (Zaa (id:=5) rfl ?_)))|refine Zab (Zac rfl (Zab (Zab (Zaa (id:=5) rfl ?_))))|refine Zac rfl (Zab (Zab (Zaa (id:=5) rfl ?_)))|refine Zac rfl (Zab (Zaa (id:=5) rfl ?_))|refine Zab (Zac rfl (Zaa (id:=5) rfl ?_))|refine Zac rfl (Zaa (id:=5) rfl ?_)
  refine Zaf rfl (fun _=>rfl) rfl rfl ?_
  refine Zaf rfl (fun _=>rfl) rfl rfl ?_
  refine Zah ?_
  repeat (first|refine Zae ?_|refine Zad ?_)
  refine ZaV (Zbs Zal ?_)
  repeat (first|refine Zag ?_|refine Zae ?_|refine Zad ?_)
  first|refine Zab (Zaa (id:=6) rfl ?_)|refine Zab (Zab (Zaa (id:=6) rfl ?_))|refine Zaa (id:=6) rfl ?_|refine Zab (Zac rfl (Zab (Zaa (id:=6) rfl ?_)))|refine Zab (Zac rfl (Zab (Zab (Zaa (id:=6) rfl ?_))))|refine Zac rfl (Zab (Zab (Zaa (id:=6) rfl ?_)))|refine Zac rfl (Zab (Zaa (id:=6) rfl ?_))|refine Zab (Zac rfl (Zaa (id:=6) rfl ?_))|refine Zac rfl (Zaa (id:=6) rfl ?_)
  refine Zaf rfl (fun _=>rfl) rfl rfl ?_
  refine Zaf rfl (fun _=>rfl) rfl rfl ?_
  refine Zah ?_
  repeat (first|refine Zae ?_|refine Zad ?_)
  refine ZaV (ZfI rfl (Zkl ?_))
  refine((Zzv n k N [cZ,cQ d] hn hlt).ent ?_).mono ?_
  ·exact ZaO ⟨rfl,rfl,rfl,rfl,rfl,rfl,rfl,trivial⟩
  rintro _ _ _ ⟨rfl,q,q1,q2,q3,q4,rfl,rfl⟩
  cases h3:decide ((q:Int)=(n:Int))with
  |true=>
   have hqn:q=n:=by have:=of_decide_eq_true h3;omega
   have hW0:=ZqX 0 (by decide) (by decide)
   refine ZaV (ZaV (Zbs Zal ?_))
   repeat (first|refine Zag ?_|refine Zae ?_|refine Zad ?_)
   first|refine Zab (Zaa (id:=9) rfl ?_)|refine Zab (Zab (Zaa (id:=9) rfl ?_))|refine Zaa (id:=9) rfl ?_|refine Zab (Zac rfl (Zab (Zaa (id:=9) rfl ?_)))|refine Zab (Zac rfl (Zab (Zab (Zaa (id:=9) rfl ?_))))|refine Zac rfl (Zab (Zab (Zaa (id:=9) rfl ?_)))|refine Zac rfl (Zab (Zaa (id:=9) rfl ?_))|refine Zab (Zac rfl (Zaa (id:=9) rfl ?_))|refine Zac rfl (Zaa (id:=9) rfl ?_)
   refine Zaf rfl (fun _=>rfl) rfl rfl ?_
   refine Zaf rfl (fun _=>rfl) rfl rfl ?_
   refine Zaf rfl (fun _=>rfl) rfl rfl ?_
   refine Zaf rfl (fun _=>rfl) rfl rfl ?_
   refine Zah ?_
   repeat (first|refine Zae ?_|refine Zad ?_)
   refine Zbs Zal ?_
   refine And.intro (fun _=> ?_) (fun h=>by first|(cases h;done)|exact(nf h3 h).elim)
   repeat (first|refine Zag ?_|refine Zae ?_|refine Zad ?_)
   first|refine Zab (Zaa (id:=10) rfl ?_)|refine Zab (Zab (Zaa (id:=10) rfl ?_))|refine Zaa (id:=10) rfl ?_|refine Zab (Zac rfl (Zab (Zaa (id:=10) rfl ?_)))|refine Zab (Zac rfl (Zab (Zab (Zaa (id:=10) rfl ?_))))|refine Zac rfl (Zab (Zab (Zaa (id:=10) rfl ?_)))|refine Zac rfl (Zab (Zaa (id:=10) rfl ?_))|refine Zab (Zac rfl (Zaa (id:=10) rfl ?_))|refine Zac rfl (Zaa (id:=10) rfl ?_)
   refine Zau rfl ((hW0).mono ?_)
   rintro _ rfl
   refine Zam rfl rfl ?_
   refine Zau rfl (Zdn rfl rfl rfl hcz rfl rfl rfl rfl ?_)
   refine Zcd rfl ?_
   refine Zah ?_
   repeat (first|refine Zae ?_|refine Zad ?_)
   refine Zsg ?_
   repeat (first|refine Zvg ?_|refine Zuw ?_|refine ZsB ?_)
   exact res 0 rfl (show nth ((hpM n n N [cZ,cQ d]).set (n+1) _) (n+1)=some _ from by rw[hsetZ];exact ZeY (e:=0)) rfl (hE.none hlt fun i g1 g2=>q3 i g1 (by omega)).symm
  |false=>
   have hqn:q<n:=by have:=of_decide_eq_false h3;omega
   have hd:=q4 hqn
   have hE':Fwd n M X (k+1) (fwN N k q) ((if q=k then d else-d)*N q k):=hE.step hI hB hX q1 hqn hd (fun i j _ _=>rfl) rfl
   have sd':=hq _ (hE'.sizeD hI hB hX)
   refine ZaV (ZaV (Zbs Zal ?_))
   repeat (first|refine Zag ?_|refine Zae ?_|refine Zad ?_)
   first|refine Zab (Zaa (id:=9) rfl ?_)|refine Zab (Zab (Zaa (id:=9) rfl ?_))|refine Zaa (id:=9) rfl ?_|refine Zab (Zac rfl (Zab (Zaa (id:=9) rfl ?_)))|refine Zab (Zac rfl (Zab (Zab (Zaa (id:=9) rfl ?_))))|refine Zac rfl (Zab (Zab (Zaa (id:=9) rfl ?_)))|refine Zac rfl (Zab (Zaa (id:=9) rfl ?_))|refine Zab (Zac rfl (Zaa (id:=9) rfl ?_))|refine Zac rfl (Zaa (id:=9) rfl ?_)
   refine Zaf rfl (fun _=>rfl) rfl rfl ?_
   refine Zaf rfl (fun _=>rfl) rfl rfl ?_
   refine Zaf rfl (fun _=>rfl) rfl rfl ?_
   refine Zaf rfl (fun _=>rfl) rfl rfl ?_
   refine Zah ?_
   repeat (first|refine Zae ?_|refine Zad ?_)
   refine Zbs Zal ?_
   refine And.intro (fun h=>by first|(cases h;done)|exact(nf h h3).elim) (fun _=> ?_)
   have ck:=cin hlt
   have cq:=cin hqn
   refine ZaV (CodeOK.mono (k:=fun e tm hp=>e= .normal∧ ∃ (f:Mx) (e':Rat),(∀j,f k j=N q j)∧(∀i j,i<k→f i j=N i j)∧(∀i j,k<i→f i j=swR N k q i j)∧e'=(if q=k then d else-d)∧ZzB tm (vF1 n k q)∧hp=hpM n n f [cZ,cQ e']) ?_ ?_)
   ·cases h4:decide (q=k)with
    |true=>
     have hqk:q=k:=of_decide_eq_true h4
     have h5:(!decide ((q:Int)=(k:Int)))=false:=by rw[Bool.not_eq_false',decide_eq_true_eq,hqk]
     refine ZaV (Zbs Zal ?_)
     repeat (first|refine Zag ?_|refine Zae ?_|refine Zad ?_)
     first|refine Zab (Zaa (id:=11) rfl ?_)|refine Zab (Zab (Zaa (id:=11) rfl ?_))|refine Zaa (id:=11) rfl ?_|refine Zab (Zac rfl (Zab (Zaa (id:=11) rfl ?_)))|refine Zab (Zac rfl (Zab (Zab (Zaa (id:=11) rfl ?_))))|refine Zac rfl (Zab (Zab (Zaa (id:=11) rfl ?_)))|refine Zac rfl (Zab (Zaa (id:=11) rfl ?_))|refine Zab (Zac rfl (Zaa (id:=11) rfl ?_))|refine Zac rfl (Zaa (id:=11) rfl ?_)
     refine Zaf rfl (fun _=>rfl) rfl rfl ?_
     refine Zaf rfl (fun _=>rfl) rfl rfl ?_
     refine Zaf rfl (fun _=>rfl) rfl rfl ?_
     refine Zah ?_
     repeat (first|refine Zae ?_|refine Zad ?_)
     refine Zbs Zal ?_
     refine And.intro (fun h=>by first|(cases h;done)|exact(nf h h5).elim) (fun _=> ?_)
     refine⟨rfl,N,d,fun j=>by rw[hqk],fun _ _ _=>rfl,fun i j hi=> ?_,(if_pos hqk).symm,⟨rfl,rfl,rfl,rfl,rfl,rfl,rfl,trivial⟩,rfl⟩
     simp only[swR]
     rw[if_neg (by omega),if_neg (by omega)]
    |false=>
     have hqk:q≠k:=of_decide_eq_false h4
     have h5:(!decide ((q:Int)=(k:Int)))=true:=by rw[Bool.not_eq_true',decide_eq_false_iff_not];omega
     have ek:0+(k:Int).toNat=k:=by rw[Int.toNat_natCast,Nat.zero_add]
     have eq:0+(q:Int).toNat=q:=by rw[Int.toNat_natCast,Nat.zero_add]
     have hA:nth (hpM n n N [cZ,cQ d]) 0=some (.many (.l qct) (Za4 1 (Zcm n n N)) true):=rfl
     have helq:=Zee (W:=n) (f:=N) (p:=1) hqn
     have helk:=Zee (W:=n) (f:=N) (p:=1) hlt
     have hlq: ∀V:SV,0+(q:Int).toNat<(Za4 1 (Zcm n n N)).length:=fun _=>by rw[Za9,ZaQ];omega
     have hlk: ∀V:SV,0+(k:Int).toNat<((Za4 1 (Zcm n n N)).set (0+(q:Int).toNat) V).length:=fun _=>by rw[List.length_set,Za9,ZaQ];omega
     refine ZaV (Zbs Zal ?_)
     repeat (first|refine Zag ?_|refine Zae ?_|refine Zad ?_)
     first|refine Zab (Zaa (id:=11) rfl ?_)|refine Zab (Zab (Zaa (id:=11) rfl ?_))|refine Zaa (id:=11) rfl ?_|refine Zab (Zac rfl (Zab (Zaa (id:=11) rfl ?_)))|refine Zab (Zac rfl (Zab (Zab (Zaa (id:=11) rfl ?_))))|refine Zac rfl (Zab (Zab (Zaa (id:=11) rfl ?_)))|refine Zac rfl (Zab (Zaa (id:=11) rfl ?_))|refine Zab (Zac rfl (Zaa (id:=11) rfl ?_))|refine Zac rfl (Zaa (id:=11) rfl ?_)
     refine Zaf rfl (fun _=>rfl) rfl rfl ?_
     refine Zaf rfl (fun _=>rfl) rfl rfl ?_
     refine Zaf rfl (fun _=>rfl) rfl rfl ?_
     refine Zah ?_
     repeat (first|refine Zae ?_|refine Zad ?_)
     refine Zvz (t:= !decide ((q:Int)=(k:Int))) rfl (fun _=> ?_) (fun h=>(nf h5 h).elim)
     refine ZaV (Zbs Zal ?_)
     repeat (first|refine Zag ?_|refine Zae ?_|refine Zad ?_)
     first|refine Zab (ZbB (id:=12) rfl rfl ?_)|refine Zab (Zab (ZbB (id:=12) rfl rfl ?_))|refine ZbB (id:=12) rfl rfl ?_|refine Zab (Zac rfl (Zab (ZbB (id:=12) rfl rfl ?_)))|refine Zab (Zac rfl (Zab (Zab (ZbB (id:=12) rfl rfl ?_))))|refine Zac rfl (Zab (Zab (ZbB (id:=12) rfl rfl ?_)))|refine Zac rfl (Zab (ZbB (id:=12) rfl rfl ?_))|refine Zab (Zac rfl (ZbB (id:=12) rfl rfl ?_))|refine Zac rfl (ZbB (id:=12) rfl rfl ?_)
     refine Zd2 rfl rfl (opv (fun _=>rfl) rfl rfl ?_)
     refine Zd2 rfl rfl (opv (fun _=>rfl) rfl rfl ?_)
     refine ZlX rfl rfl rfl rfl rfl ?_
     refine ZlX rfl rfl rfl rfl rfl ?_
     refine Zd2 rfl rfl (opv (fun _=>rfl) rfl rfl ?_)
     refine Zd2 rfl rfl (opv (fun _=>rfl) rfl rfl ?_)
     refine Zd2 rfl rfl (ZaZ rfl rfl rfl rfl rfl hA rfl ck ?_)
     refine ZdK rfl rfl ?_
     refine Zd2 rfl rfl (Zbj rfl rfl hA helk rfl ?_)
     refine ZdK rfl rfl ?_
     refine Zd2 rfl rfl (opv (fun _=>rfl) rfl rfl ?_)
     refine Zd2 rfl rfl (opv (fun _=>rfl) rfl rfl ?_)
     refine Zd2 rfl rfl (ZaZ rfl rfl rfl rfl rfl hA rfl cq ?_)
     refine ZdK rfl rfl ?_
     refine Zd2 rfl rfl (Zbj rfl rfl hA helq rfl ?_)
     refine ZdK rfl rfl ?_
     refine Zd2 rfl rfl (ZaZ rfl rfl rfl rfl rfl hA rfl cq ?_)
     refine ZdK rfl rfl ?_
     refine ZsK rfl rfl (ZiB rfl rfl rfl hA rfl rfl rfl (hlq .nils) ?_)
     refine Zcd rfl ?_
     refine Zd2 rfl rfl (ZaZ rfl rfl rfl rfl rfl rfl rfl ck ?_)
     refine ZdK rfl rfl ?_
     refine ZsK rfl rfl (ZiB rfl rfl rfl rfl rfl rfl rfl (hlk _) ?_)
     refine Zcd rfl ?_
     refine Ztf ?_
     repeat (first|refine Zae ?_|refine Zad ?_)
     refine CodeOK.ent (tm':=vF1 n k q) (hp':=hpM n n (swR N k q) [cZ,cQ d]) ?_ (by
      have hxk:k<(Zcm n n N).length:=by rw[ZaQ];exact hlt
      have hxq:q<(Zcm n n N).length:=by rw[ZaQ];exact hqn
      rw[ek,eq]
      refine ZtV (xs:=Zcm n n N) (ys:=Zcm n n (swR N k q)) (a:=q) (b:=k) (la:=n) (lb:=n) hxq hxk (by rw[Zew hxq,Zce]) (by rw[Zew hxk,Zce]) (by rw[ZaQ,ZaQ]) (fun j h1 h2=> ?_) (Nat.zero_le _) (fun m hm=> ?_) ?_
      ·rw[Zew h1,Zew h2]
       refine Zjj fun b _=> ?_
       simp only[swR,swI]
       by_cases e1:j=k
       ·rw[if_pos e1,if_neg (by omega),if_pos e1]
       ·by_cases e2:j=q
        ·rw[if_neg e1,if_pos e2,if_pos e2]
        ·rw[if_neg e1,if_neg e2,if_neg e2,if_neg e1]
      ·rcases List.mem_cons.1 hm with rfl|hm
       ·rfl
       ·rw[List.mem_singleton.1 hm];rfl
      ·have hlen:(Zcm n n N).length=n:=ZaQ
       refine⟨rfl,fun id h=> .inl (by simpa[Zd3]using h),rfl,fun id h=> .inr ?_,rfl,fun id h=> .inr ?_,rfl,fun id h=>absurd h List.not_mem_nil,rfl,fun id h=>absurd h List.not_mem_nil,rfl,fun id h=>absurd h List.not_mem_nil,rfl,fun id h=>absurd h List.not_mem_nil,trivial⟩
       ·have hid:id=n+1:=by simpa[Zd3]using h
        subst hid
        rw[hlen]
        exact⟨Nat.lt_succ_self n,by show n+1<n+1+2;omega⟩
       ·have hid:id=n+2:=by simpa[Zd3]using h
        subst hid
        rw[hlen]
        exact⟨by omega,by show n+2<n+1+2;omega⟩)
     have hcd1:nth (hpM n n (swR N k q) [cZ,cQ d]) (n+2)=some (cQ d):=ZeY (e:=1)
     have hN:=ZrJ d (k:=K) (by omega) sd
     refine Zbs Zal ?_
     repeat (first|refine Zag ?_|refine Zae ?_|refine Zad ?_)
     first|refine Zab (Zaa (id:=13) rfl ?_)|refine Zab (Zab (Zaa (id:=13) rfl ?_))|refine Zaa (id:=13) rfl ?_|refine Zab (Zac rfl (Zab (Zaa (id:=13) rfl ?_)))|refine Zab (Zac rfl (Zab (Zab (Zaa (id:=13) rfl ?_))))|refine Zac rfl (Zab (Zab (Zaa (id:=13) rfl ?_)))|refine Zac rfl (Zab (Zaa (id:=13) rfl ?_))|refine Zab (Zac rfl (Zaa (id:=13) rfl ?_))|refine Zac rfl (Zaa (id:=13) rfl ?_)
     refine Zau rfl (ZfO (V:=QR d) rfl rfl hcd1 rfl rfl ?_)
     refine Zam rfl rfl ?_
     refine Zau rfl ((hN).mono ?_)
     rintro _ rfl
     refine Zam rfl rfl ?_
     refine Zau rfl (Zdn rfl rfl rfl hcd1 rfl rfl rfl rfl ?_)
     refine Zcd rfl ?_
     refine Zah ?_
     repeat (first|refine Zae ?_|refine Zad ?_)
     refine⟨rfl,swR N k q,-d,fun j=>if_pos rfl,fun i j hi=> ?_,fun _ _ _=>rfl,(if_neg hqk).symm,⟨rfl,rfl,rfl,rfl,rfl,rfl,rfl,trivial⟩, ?_⟩
     ·simp only[swR]
      rw[if_neg (by omega),if_neg (by omega)]
     ·exact ZfF (e:=1)
   ·rintro _ tm _ ⟨rfl,f,e,f1,f2,f3,he,htm,rfl⟩
    rw[←he]at hE' sd'
    have se:szQ e K:=by
     rw[he];split
     ·exact sd
     ·exact ZvJ sd
    have fkk:f k k=N q k:=f1 k
    have sf: ∀a j,a<n→j<n→szQ (f a j) K:=fun a j ha hj=>by
     by_cases h:a<k
     ·rw[f2 a j h];exact sN a j ha hj
     ·by_cases h':a=k
      ·rw[h',f1];exact sN q j hqn hj
      ·rw[f3 a j (by omega)]
       simp only[swR]
       split
       ·exact sN q j hqn hj
       ·split
        ·exact sN k j hlt hj
        ·exact sN a j ha hj
    have hcd2:nth (hpM n n f [cZ,cQ e]) (n+2)=some (cQ e):=ZeY (e:=1)
    have hA:nth (hpM n n f [cZ,cQ e]) 0=some (.many (.l qct) (Za4 1 (Zcm n n f)) true):=rfl
    have helk:=Zee (W:=n) (f:=f) (p:=1) hlt
    have hrowk:=Ze7 (W:=n) (f:=f) (ex:=[cZ,cQ e]) hlt
    have hcellk:=Zjf (u:=f k) hlt
    rw[fkk]at hcellk
    have hMul:=Zwc e (N q k) (k:=K) (by omega) se (sN q k hqn hlt)
    refine CodeOK.ent (tm':=vF1 n k q) (hp':=hpM n n f [cZ,cQ e]) ?_ (ZaO htm)
    refine ZaV (Zbs Zal ?_)
    repeat (first|refine Zag ?_|refine Zae ?_|refine Zad ?_)
    first|refine Zab (Zaa (id:=14) rfl ?_)|refine Zab (Zab (Zaa (id:=14) rfl ?_))|refine Zaa (id:=14) rfl ?_|refine Zab (Zac rfl (Zab (Zaa (id:=14) rfl ?_)))|refine Zab (Zac rfl (Zab (Zab (Zaa (id:=14) rfl ?_))))|refine Zac rfl (Zab (Zab (Zaa (id:=14) rfl ?_)))|refine Zac rfl (Zab (Zaa (id:=14) rfl ?_))|refine Zab (Zac rfl (Zaa (id:=14) rfl ?_))|refine Zac rfl (Zaa (id:=14) rfl ?_)
    refine Zau rfl (ZfO (V:=QR e) rfl rfl hcd2 rfl rfl ?_)
    refine Zam rfl rfl ?_
    refine Zaf rfl (fun _=>rfl) rfl rfl ?_
    refine Zaf rfl (fun _=>rfl) rfl rfl ?_
    refine Zau rfl (ZaZ rfl rfl rfl rfl rfl hA rfl ck ?_)
    refine Zam rfl rfl ?_
    refine Zau rfl (Zbj rfl rfl hA helk rfl ?_)
    refine Zam rfl rfl ?_
    refine Zaf rfl (fun _=>rfl) rfl rfl ?_
    refine Zau rfl (Zcc rfl rfl rfl rfl rfl hrowk rfl ck ?_)
    refine Zam rfl rfl ?_
    refine Zau rfl (ZcD (V:=QR (N q k)) rfl rfl hrowk hcellk rfl ?_)
    refine Zam rfl rfl ?_
    refine Zau rfl ((hMul).mono ?_)
    rintro _ rfl
    refine Zam rfl rfl ?_
    refine Zau rfl (Zdn rfl rfl rfl hcd2 rfl rfl rfl rfl ?_)
    refine Zcd rfl ?_
    refine Zah ?_
    repeat (first|refine Zae ?_|refine Zad ?_)
    have hset2: ∀y:SM,(hpM n n f [cZ,cQ e]).set (n+2) y=hpM n n f [cZ,y]:=fun y=>ZfF (e:=1)
    refine ZaV (Zbs Zal ?_)
    repeat (first|refine Zag ?_|refine Zae ?_|refine Zad ?_)
    first|refine Zab (Zaa (id:=15) rfl ?_)|refine Zab (Zab (Zaa (id:=15) rfl ?_))|refine Zaa (id:=15) rfl ?_|refine Zab (Zac rfl (Zab (Zaa (id:=15) rfl ?_)))|refine Zab (Zac rfl (Zab (Zab (Zaa (id:=15) rfl ?_))))|refine Zac rfl (Zab (Zab (Zaa (id:=15) rfl ?_)))|refine Zac rfl (Zab (Zaa (id:=15) rfl ?_))|refine Zab (Zac rfl (Zaa (id:=15) rfl ?_))|refine Zac rfl (Zaa (id:=15) rfl ?_)
    refine Zaf rfl (fun _=>rfl) rfl rfl ?_
    refine Zaf rfl (fun _=>rfl) rfl rfl ?_
    refine Zaf rfl (fun _=>rfl) rfl rfl ?_
    refine Zah ?_
    repeat (first|refine Zae ?_|refine Zad ?_)
    refine ZfI rfl (Zkl ?_)
    refine((Zyh n k K f (fwN N k q) (e*N q k) hn hlt hK sf (by rw[fkk];exact hd) (fun i j hi hj=> ?_) (fun i j hi hj=> ?_) (fun i j hki hi hkj hj=> ?_)).ent ?_).mono ?_
    ·by_cases h:i<k
     ·rw[f2 i j h];exact if_pos h
     ·by_cases h':i=k
      ·rw[h',f1]
       show(if k<k then _ else if k=k then _ else _)=_
       rw[if_neg (Nat.lt_irrefl k),if_pos rfl]
      ·rw[f3 i j (by omega)]
       show(if i<k then _ else if i=k then _ else _)=_
       rw[if_neg h,if_neg h',hE.low q j q1 hqn hj];grind
    ·by_cases h:i<k
     ·rw[f2 i j h];exact if_pos h
     ·have h':i=k:=by omega
      rw[h',f1]
      show(if k<k then _ else if k=k then _ else _)=_
      rw[if_neg (Nat.lt_irrefl k),if_pos rfl]
    ·rw[f3 i j hki,f3 i k hki,fkk,f1 j]
     show(if i<k then _ else if i=k then _ else _)=_
     rw[if_neg (by omega),if_neg (by omega)]
    ·exact Ent.eqs (hset2 _) (ZaO ⟨rfl,rfl,rfl,rfl,congrArg (fun x=>some (SV.v (.i .i64) x)) (Zp8 (by omega)),rfl,rfl,trivial⟩)
    rintro _ _ _ ⟨rfl,rfl,rfl⟩
    refine Zbs Zal ?_
    repeat (first|refine Zag ?_|refine Zae ?_|refine Zad ?_)
    first|refine Zab (Zaa (id:=24) rfl ?_)|refine Zab (Zab (Zaa (id:=24) rfl ?_))|refine Zaa (id:=24) rfl ?_|refine Zab (Zac rfl (Zab (Zaa (id:=24) rfl ?_)))|refine Zab (Zac rfl (Zab (Zab (Zaa (id:=24) rfl ?_))))|refine Zac rfl (Zab (Zab (Zaa (id:=24) rfl ?_)))|refine Zac rfl (Zab (Zaa (id:=24) rfl ?_))|refine Zab (Zac rfl (Zaa (id:=24) rfl ?_))|refine Zac rfl (Zaa (id:=24) rfl ?_)
    refine Zaf rfl (fun _=>rfl) rfl rfl ?_
    refine Zaf rfl (fun _=>rfl) rfl rfl ?_
    refine Zah ?_
    repeat (first|refine Zae ?_|refine Zad ?_)
    refine⟨(k+1,e*N q k,fwN N k q),hE',by show n-(k+1)<n-k;omega, ?_⟩
    exact ZaO ⟨rfl,rfl,rfl,rfl,congrArg (fun x=>some (SV.v (.i .i64) x)) (Zp8 (by omega)),trivial⟩
end Go.Proofs.YtdnodlkdndfplaaGreatDoor
