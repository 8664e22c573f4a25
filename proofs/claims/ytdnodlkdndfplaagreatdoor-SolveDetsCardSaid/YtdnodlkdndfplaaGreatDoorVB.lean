/-
 lin.Det.
-/
import Derived.Test.YtdnodlkdndfplaaGreatDoorVA
set_option linter.constructorNameAsVariable false
set_option linter.unusedSimpArgs false
set_option linter.unusedVariables false
namespace Go.Proofs.YtdnodlkdndfplaaGreatDoor
open Go.Am Go.Tx Dv Go.Lib La
set_option maxRecDepth 100000
theorem Zsj {n d:Int} {k:Nat} (hd:d≠0) (h1:ln n≤k) (h2:ln d≤k):szQ (Rat.divInt n d) k:=by
 rcases Int.lt_or_le d 0 with h|h
 ·rw[←Rat.neg_divInt_neg]
  exact ZfQ (by omega) (Nat.le_trans (Zfj (by rw[Int.natAbs_neg];exact Nat.le_refl _)) h1) (Nat.le_trans (Zfj (by rw[Int.natAbs_neg];exact Nat.le_refl _)) h2)
 ·exact ZfQ (by omega) h1 h2
theorem Zze {p q:Rat} {k m:Nat} (hp:szQ p k) (hq:szQ q m) (h0:q≠0):szQ (p/q) (k+m):=by
 rw[←Zpt]
 obtain⟨p1,p2⟩:=hp
 obtain⟨q1,q2⟩:=hq
 have h1:=ZdZ p.num q.den
 have h3:=ZdZ (p.den:Int) q.num
 have hn:q.num≠0:=fun h=>h0 (Rat.num_eq_zero.1 h)
 exact Zsj (Int.mul_ne_zero (by have:=Zc5 p;omega) hn) (by omega) (by omega)
abbrev cZ:SM:= .cell (tys 76).zero true
def vF2 (n k i:Nat):TM:=[(0, .ref 0 0 n none),(2, .ptr (n+1) 0 0),(3, .ptr (n+2) 0 0),(4,nt k),(6,nt i),(13,nt n),(14,nt k)]
set_option maxHeartbeats 16000000 in
theorem Zyh (n k K:Nat) (f g:Nat→Nat→Rat) (d:Rat) (hn:n≤1000) (hk:k<n) (hK:K≤30000000) (sf: ∀a j,a<n→j<n→szQ (f a j) K) (hp:f k k≠0)
 (hlow: ∀i j,i<n→j<k→g i j=f i j) (hgm: ∀i j,i≤k→j<n→g i j=f i j) (hg: ∀i j,k<i→i<n→k≤j→j<n→g i j=f i j-f i k/f k k*f k j):
 LoopOK Tryz.prog Zaw 0 cxD (ZcX Tryz.f73 16) (vF2 n k (k+1)) (hpM n n f [cZ,cQ d])
 (fun e tm hp=>e= .exit 4∧tm=vF2 n k n∧hp=hpM n n g [cZ,cQ d]):=by
 have hstart:hpM n n f [cZ,cQ d]=hpM n n (fC f g (k+1) 0) [cZ,cQ d]:=Zdu fun a b ha hb=>by
  unfold fC
  by_cases h:a<k+1
  ·rw[if_pos (.inl h),hgm a b (by omega) hb]
  ·rw[if_neg (by omega)]
 have hend:hpM n n (fC f g n 0) [cZ,cQ d]=hpM n n g [cZ,cQ d]:=Zdu fun a b ha _=>if_pos (.inl ha)
 refine LoopOK.through (k:=fun e tm hp=>e= .exit 4∧Ent 0 tm hp (vF2 n k n) (hpM n n (fC f g n 0) [cZ,cQ d])) ?_ (by
  rintro e tm hp ⟨rfl,h5⟩
  exact⟨_,_,h5,rfl,rfl,hend⟩)
 refine Zaz Zal rfl (vF2 n k) (fun i=>hpM n n (fC f g i 0) [cZ,cQ d]) (fun i=>k+1≤i∧i≤n) (fun i=>n-i) ?_ (k+1) ⟨Nat.le_refl _,hk⟩ (Ent.eqs hstart ZbC)
 rintro i ⟨hki,hi⟩
 cases hc:decide ((i:Int)<(n:Int))with
 |false=>
  have hin:i=n:=by have:=of_decide_eq_false hc;omega
  repeat (first|refine Zag ?_|refine Zae ?_|refine Zad ?_)
  first|refine Zab (Zaa (id:=16) rfl ?_)|refine Zab (Zab (Zaa (id:=16) rfl ?_))|refine Zaa (id:=16) rfl ?_|refine Zab (Zac rfl (Zab (Zaa (id:=16) rfl ?_)))|refine Zab (Zac rfl (Zab (Zab (Zaa (id:=16) rfl ?_))))|refine Zac rfl (Zab (Zab (Zaa (id:=16) rfl ?_)))|refine Zac rfl (Zab (Zaa (id:=16) rfl ?_))|refine Zab (Zac rfl (Zaa (id:=16) rfl ?_))|refine Zac rfl (Zaa (id:=16) rfl ?_)
  refine Zaf rfl (fun _=>rfl) rfl rfl ?_
  refine Zaf rfl (fun _=>rfl) rfl rfl ?_
  refine Zaf rfl (fun _=>rfl) rfl rfl ?_
  refine Zaf rfl (fun _=>rfl) rfl rfl ?_
  refine Zah ?_
  repeat (first|refine Zae ?_|refine Zad ?_)
  refine And.intro (fun h=>by first|(cases h;done)|exact(nf h hc).elim) (fun _=> ?_)
  subst hin
  exact⟨rfl,ZaO ⟨rfl,rfl,rfl,rfl,rfl,rfl,rfl,trivial⟩⟩
 |true=>
  have hlt:i<n:=by have:=of_decide_eq_true hc;omega
  have same:(∀j,j<n→g i j=f i j)→hpM n n (fC f g i 0) [cZ,cQ d]=hpM n n (fC f g (i+1) 0) [cZ,cQ d]:=fun h=>Zdu fun a b _ hb=>by
   unfold fC
   by_cases h1:a<i
   ·rw[if_pos (.inl h1),if_pos (.inl (by omega))]
   ·rw[if_neg (by omega)]
    by_cases h2:a=i
    ·rw[if_pos (.inl (by omega)),h2,h b hb]
    ·rw[if_neg (by omega)]
  have hdiv:szQ (f i k/f k k) (2*K):=by
   have:=Zze (sf i k hlt hk) (sf k k hk hk) hp
   exact ZnE (by omega) this
  have hloop:=Zx9 n k i K f g (f i k/f k k) cZ (cQ d) hn hk hlt (by omega) hK sf hdiv (fun j hj=>hlow i j hlt hj) (fun j hj=>hgm k j (Nat.le_refl _) hj) (fun j h1 h2=>hg i j (by omega) hlt h1 h2)
  obtain⟨F,eF⟩: ∃x,fC f g i 0=x:=⟨_,rfl⟩
  have hv:F i k=f i k:=by rw[←eF];exact if_neg (by omega)
  have hvk:F k k=f k k:=by
   rw[←eF]
   show(if _ then _ else _)=_
   split
   ·exact hgm k k (Nat.le_refl _) hk
   ·rfl
  rw[eF]at same hloop⊢
  have hA:nth (hpM n n F [cZ,cQ d]) 0=some (.many (.l qct) (Za4 1 (Zcm n n F)) true):=rfl
  have ci:=cin hlt
  have ck:=cin hk
  have hel:=Zee (W:=n) (f:=F) (p:=1) hlt
  have helk:=Zee (W:=n) (f:=F) (p:=1) hk
  have hrow:=Ze7 (W:=n) (f:=F) (ex:=[cZ,cQ d]) hlt
  have hrowk:=Ze7 (W:=n) (f:=F) (ex:=[cZ,cQ d]) hk
  have hcell:=Zjf (u:=F i) hk
  have hcellk:=Zjf (u:=F k) hk
  rw[hv]at hcell
  rw[hvk]at hcellk
  have hS:=ZrO (f i k)
  have hD:=ZyX (f i k) (f k k) (k:=K) (by omega) (sf i k hlt hk) (sf k k hk hk) hp
  have hgi:=fun j h1 h2=>hg i j (by omega) hlt h1 h2
  have hgl:=fun j hj=>hlow i j hlt hj
  obtain⟨c,ec⟩: ∃x,f i k=x:=⟨_,rfl⟩
  obtain⟨p,ep⟩: ∃x,f k k=x:=⟨_,rfl⟩
  rw[ec]at hcell hS hgi hloop hD
  rw[ep]at hcellk hgi hloop hD
  repeat (first|refine Zag ?_|refine Zae ?_|refine Zad ?_)
  first|refine Zab (Zaa (id:=16) rfl ?_)|refine Zab (Zab (Zaa (id:=16) rfl ?_))|refine Zaa (id:=16) rfl ?_|refine Zab (Zac rfl (Zab (Zaa (id:=16) rfl ?_)))|refine Zab (Zac rfl (Zab (Zab (Zaa (id:=16) rfl ?_))))|refine Zac rfl (Zab (Zab (Zaa (id:=16) rfl ?_)))|refine Zac rfl (Zab (Zaa (id:=16) rfl ?_))|refine Zab (Zac rfl (Zaa (id:=16) rfl ?_))|refine Zac rfl (Zaa (id:=16) rfl ?_)
  refine Zaf rfl (fun _=>rfl) rfl rfl ?_
  refine Zaf rfl (fun _=>rfl) rfl rfl ?_
  refine Zaf rfl (fun _=>rfl) rfl rfl ?_
  refine Zaf rfl (fun _=>rfl) rfl rfl ?_
  refine Zah ?_
  repeat (first|refine Zae ?_|refine Zad ?_)
  refine And.intro (fun _=> ?_) (fun h=>by first|(cases h;done)|exact(nf hc h).elim)
  cases hz:decide (c.num.sign=0)with
  |true=>
   have c0:=ZAq hz
   repeat (first|refine Zag ?_|refine Zae ?_|refine Zad ?_)
   first|refine Zab (Zaa (id:=18) rfl ?_)|refine Zab (Zab (Zaa (id:=18) rfl ?_))|refine Zaa (id:=18) rfl ?_|refine Zab (Zac rfl (Zab (Zaa (id:=18) rfl ?_)))|refine Zab (Zac rfl (Zab (Zab (Zaa (id:=18) rfl ?_))))|refine Zac rfl (Zab (Zab (Zaa (id:=18) rfl ?_)))|refine Zac rfl (Zab (Zaa (id:=18) rfl ?_))|refine Zab (Zac rfl (Zaa (id:=18) rfl ?_))|refine Zac rfl (Zaa (id:=18) rfl ?_)
   refine Zaf rfl (fun _=>rfl) rfl rfl ?_
   refine Zaf rfl (fun _=>rfl) rfl rfl ?_
   refine Zau rfl (ZaZ rfl rfl rfl rfl rfl hA rfl ci ?_)
   refine Zam rfl rfl ?_
   refine Zau rfl (Zbj rfl rfl hA hel rfl ?_)
   refine Zam rfl rfl ?_
   refine Zaf rfl (fun _=>rfl) rfl rfl ?_
   refine Zau rfl (Zcc rfl rfl rfl rfl rfl hrow rfl ck ?_)
   refine Zam rfl rfl ?_
   refine Zau rfl (ZcD (V:=QR c) rfl rfl hrow hcell rfl ?_)
   refine Zam rfl rfl ?_
   refine Zau rfl ((hS).mono ?_)
   rintro _ rfl
   refine Zam rfl rfl ?_
   refine Zaf rfl (fun _=>rfl) rfl rfl ?_
   refine Zah ?_
   repeat (first|refine Zae ?_|refine Zad ?_)
   refine And.intro (fun _=> ?_) (fun h=>by first|(cases h;done)|exact(nf hz h).elim)
   refine Zpc ?_
   repeat (first|refine Zag ?_|refine Zae ?_|refine Zad ?_)
   first|refine Zab (Zaa (id:=17) rfl ?_)|refine Zab (Zab (Zaa (id:=17) rfl ?_))|refine Zaa (id:=17) rfl ?_|refine Zab (Zac rfl (Zab (Zaa (id:=17) rfl ?_)))|refine Zab (Zac rfl (Zab (Zab (Zaa (id:=17) rfl ?_))))|refine Zac rfl (Zab (Zab (Zaa (id:=17) rfl ?_)))|refine Zac rfl (Zab (Zaa (id:=17) rfl ?_))|refine Zab (Zac rfl (Zaa (id:=17) rfl ?_))|refine Zac rfl (Zaa (id:=17) rfl ?_)
   refine Zaf rfl (fun _=>rfl) rfl rfl ?_
   refine Zaf rfl (fun _=>rfl) rfl rfl ?_
   refine Zaf rfl (fun _=>rfl) rfl rfl ?_
   refine Zah ?_
   repeat (first|refine Zae ?_|refine Zad ?_)
   refine⟨i+1,⟨by omega,hlt⟩,by show n-(i+1)<n-i;omega, ?_⟩
   refine Ent.eqs (same fun j hj=> ?_) (ZaO ⟨rfl,rfl,rfl,rfl,congrArg (fun x=>some (SV.v (.i .i64) x)) (Zp8 (by omega)),rfl,rfl,trivial⟩)
   by_cases hjk:j<k
   ·exact hgl j hjk
   ·rw[hgi j (by omega) hj,c0];grind
  |false=>
   have hpush: ∀c:SM,nth (hpM n n F ([cZ,cQ d]++ [c])) (hpM n n F [cZ,cQ d]).length=some c:=fun c=>by rw[Zd4];exact ZeY (e:=2)
   have hl3:(hpM n n F [cZ,cQ d]).length=n+3:=Zd4
   have hset: ∀x y:SM,(hpM n n F ([cZ,cQ d]++ [x])).set (hpM n n F [cZ,cQ d]).length y=hpM n n F [cZ,cQ d,y]:=fun x y=>by rw[Zd4];exact ZfF (e:=2)
   repeat (first|refine Zag ?_|refine Zae ?_|refine Zad ?_)
   first|refine Zab (Zaa (id:=18) rfl ?_)|refine Zab (Zab (Zaa (id:=18) rfl ?_))|refine Zaa (id:=18) rfl ?_|refine Zab (Zac rfl (Zab (Zaa (id:=18) rfl ?_)))|refine Zab (Zac rfl (Zab (Zab (Zaa (id:=18) rfl ?_))))|refine Zac rfl (Zab (Zab (Zaa (id:=18) rfl ?_)))|refine Zac rfl (Zab (Zaa (id:=18) rfl ?_))|refine Zab (Zac rfl (Zaa (id:=18) rfl ?_))|refine Zac rfl (Zaa (id:=18) rfl ?_)
   refine Zaf rfl (fun _=>rfl) rfl rfl ?_
   refine Zaf rfl (fun _=>rfl) rfl rfl ?_
   refine Zau rfl (ZaZ rfl rfl rfl rfl rfl hA rfl ci ?_)
   refine Zam rfl rfl ?_
   refine Zau rfl (Zbj rfl rfl hA hel rfl ?_)
   refine Zam rfl rfl ?_
   refine Zaf rfl (fun _=>rfl) rfl rfl ?_
   refine Zau rfl (Zcc rfl rfl rfl rfl rfl hrow rfl ck ?_)
   refine Zam rfl rfl ?_
   refine Zau rfl (ZcD (V:=QR c) rfl rfl hrow hcell rfl ?_)
   refine Zam rfl rfl ?_
   refine Zau rfl ((hS).mono ?_)
   rintro _ rfl
   refine Zam rfl rfl ?_
   refine Zaf rfl (fun _=>rfl) rfl rfl ?_
   refine Zah ?_
   repeat (first|refine Zae ?_|refine Zad ?_)
   refine And.intro (fun h=>by first|(cases h;done)|exact(nf h hz).elim) (fun _=> ?_)
   repeat (first|refine Zag ?_|refine Zae ?_|refine Zad ?_)
   first|refine Zab (Zaa (id:=19) rfl ?_)|refine Zab (Zab (Zaa (id:=19) rfl ?_))|refine Zaa (id:=19) rfl ?_|refine Zab (Zac rfl (Zab (Zaa (id:=19) rfl ?_)))|refine Zab (Zac rfl (Zab (Zab (Zaa (id:=19) rfl ?_))))|refine Zac rfl (Zab (Zab (Zaa (id:=19) rfl ?_)))|refine Zac rfl (Zab (Zaa (id:=19) rfl ?_))|refine Zab (Zac rfl (Zaa (id:=19) rfl ?_))|refine Zac rfl (Zaa (id:=19) rfl ?_)
   refine Zaf rfl (fun _=>rfl) rfl rfl ?_
   refine Zaf rfl (fun _=>rfl) rfl rfl ?_
   refine Zau rfl (ZaZ rfl rfl rfl rfl rfl hA rfl ci ?_)
   refine Zam rfl rfl ?_
   refine Zau rfl (Zbj rfl rfl hA hel rfl ?_)
   refine Zam rfl rfl ?_
   refine Zaf rfl (fun _=>rfl) rfl rfl ?_
   refine Zau rfl (Zcc rfl rfl rfl rfl rfl hrow rfl ck ?_)
   refine Zam rfl rfl ?_
   refine Zau rfl (ZcD (V:=QR c) rfl rfl hrow hcell rfl ?_)
   refine Zam rfl rfl ?_
   refine Zaf rfl (fun _=>rfl) rfl rfl ?_
   refine Zaf rfl (fun _=>rfl) rfl rfl ?_
   refine Zau rfl (ZaZ rfl rfl rfl rfl rfl hA rfl ck ?_)
   refine Zam rfl rfl ?_
   refine Zau rfl (Zbj rfl rfl hA helk rfl ?_)
   refine Zam rfl rfl ?_
   refine Zaf rfl (fun _=>rfl) rfl rfl ?_
   refine Zau rfl (Zcc rfl rfl rfl rfl rfl hrowk rfl ck ?_)
   refine Zam rfl rfl ?_
   refine Zau rfl (ZcD (V:=QR p) rfl rfl hrowk hcellk rfl ?_)
   refine Zam rfl rfl ?_
   refine Zau rfl ((hD).mono ?_)
   rintro _ rfl
   refine Zam rfl rfl ?_
   refine Ztw rfl (fun _=>rfl) rfl rfl ?_
   refine ZvZ Zj0 ?_
   refine Zau rfl (Zdn rfl rfl rfl (hpush _) rfl rfl rfl rfl ?_)
   refine Zcd rfl ?_
   refine Zah ?_
   repeat (first|refine Zae ?_|refine Zad ?_)
   repeat (first|refine Zag ?_|refine Zae ?_|refine Zad ?_)
   first|refine Zab (Zaa (id:=20) rfl ?_)|refine Zab (Zab (Zaa (id:=20) rfl ?_))|refine Zaa (id:=20) rfl ?_|refine Zab (Zac rfl (Zab (Zaa (id:=20) rfl ?_)))|refine Zab (Zac rfl (Zab (Zab (Zaa (id:=20) rfl ?_))))|refine Zac rfl (Zab (Zab (Zaa (id:=20) rfl ?_)))|refine Zac rfl (Zab (Zaa (id:=20) rfl ?_))|refine Zab (Zac rfl (Zaa (id:=20) rfl ?_))|refine Zac rfl (Zaa (id:=20) rfl ?_)
   refine Zaf rfl (fun _=>rfl) rfl rfl ?_
   refine Zaf rfl (fun _=>rfl) rfl rfl ?_
   refine Zah ?_
   repeat (first|refine Zae ?_|refine Zad ?_)
   refine(hloop.ent ?_).mono ?_
   ·exact Ent.eqs (hset _ _) (ZaO ⟨rfl,rfl,rfl,rfl,rfl,congrArg (fun x=>some (SV.ptr x 0 0)) hl3,rfl,rfl,rfl,trivial⟩)
   rintro _ _ _ ⟨rfl,rfl,rfl⟩
   show wp _ _ _ _ _ _ _ _ _
   repeat (first|refine Zag ?_|refine Zae ?_|refine Zad ?_)
   first|refine Zab (Zaa (id:=17) rfl ?_)|refine Zab (Zab (Zaa (id:=17) rfl ?_))|refine Zaa (id:=17) rfl ?_|refine Zab (Zac rfl (Zab (Zaa (id:=17) rfl ?_)))|refine Zab (Zac rfl (Zab (Zab (Zaa (id:=17) rfl ?_))))|refine Zac rfl (Zab (Zab (Zaa (id:=17) rfl ?_)))|refine Zac rfl (Zab (Zaa (id:=17) rfl ?_))|refine Zab (Zac rfl (Zaa (id:=17) rfl ?_))|refine Zac rfl (Zaa (id:=17) rfl ?_)
   refine Zaf rfl (fun _=>rfl) rfl rfl ?_
   refine Zaf rfl (fun _=>rfl) rfl rfl ?_
   refine Zaf rfl (fun _=>rfl) rfl rfl ?_
   refine Zah ?_
   repeat (first|refine Zae ?_|refine Zad ?_)
   refine⟨i+1,⟨by omega,hlt⟩,by show n-(i+1)<n-i;omega, ?_⟩
   refine Zxi (ex:=[cZ,cQ d]) (Nat.zero_le _) (fun x hx=> ?_) ⟨rfl,ZtA (by omega),rfl,Zs3 (by show n+1<n+1+2;omega),rfl,Zs3 (by show n+2<n+1+2;omega),rfl,ZuG,congrArg (fun x=>some (SV.v (.i .i64) x)) (Zp8 (by omega)),ZuG,rfl,ZuG,rfl,ZuG,trivial⟩
   rcases List.mem_cons.1 hx with rfl|hx
   ·rfl
   ·rw[List.mem_singleton.1 hx];rfl
end Go.Proofs.YtdnodlkdndfplaaGreatDoor
