/-
 solve.Det; the law SolveDets.
-/
import Derived.Test.YtdnodlkdndfplaaGreatDoorV9
import Derived.Test.YtdnodlkdndfplaaGreatDoorVC
import Derived.Test.YtdnodlkdndfplaaGreatDoorP5
set_option linter.constructorNameAsVariable false
set_option linter.unusedSimpArgs false
set_option linter.unusedVariables false
namespace Go.Proofs.YtdnodlkdndfplaaGreatDoor
open Go.Am Go.Tx Dv Go.Lib La
set_option maxRecDepth 100000
def sqE (m:List (List (List UInt8))):Int:=match decide (Zi5 m=0)with
 |false=>Zi5 m
 |true=>match decide ((m.length:Int)=((wid m:Nat):Int))with
  |true=>0
  |false=>3
def okM (m:List (List (List UInt8))):Prop:= ∀v∈m,∀a∈v,a.length≤9223372036854775806
set_option maxHeartbeats 8000000 in
theorem Zu8 (m:List (List (List UInt8))) (hs:okM m):PureOK Tryz.prog Zaw 72 [.v (.l (.l .s)) m] (fun V=>V= .v (.i .i64) (sqE m)):=by
 refine Zak Zal Tryz.func72 ?_
 have hC:=ZuT m hs
 repeat (first|refine Zag ?_|refine Zae ?_|refine Zad ?_)
 first|refine Zab (Zaa (id:=0) rfl ?_)|refine Zab (Zab (Zaa (id:=0) rfl ?_))|refine Zaa (id:=0) rfl ?_|refine Zab (Zac rfl (Zab (Zaa (id:=0) rfl ?_)))|refine Zab (Zac rfl (Zab (Zab (Zaa (id:=0) rfl ?_))))|refine Zac rfl (Zab (Zab (Zaa (id:=0) rfl ?_)))|refine Zac rfl (Zab (Zaa (id:=0) rfl ?_))|refine Zab (Zac rfl (Zaa (id:=0) rfl ?_))|refine Zac rfl (Zaa (id:=0) rfl ?_)
 refine Zaf rfl (fun _=>rfl) rfl rfl ?_
 refine Zah ?_
 repeat (first|refine Zae ?_|refine Zad ?_)
 repeat (first|refine Zag ?_|refine Zae ?_|refine Zad ?_)
 first|refine Zab (Zaa (id:=1) rfl ?_)|refine Zab (Zab (Zaa (id:=1) rfl ?_))|refine Zaa (id:=1) rfl ?_|refine Zab (Zac rfl (Zab (Zaa (id:=1) rfl ?_)))|refine Zab (Zac rfl (Zab (Zab (Zaa (id:=1) rfl ?_))))|refine Zac rfl (Zab (Zab (Zaa (id:=1) rfl ?_)))|refine Zac rfl (Zab (Zaa (id:=1) rfl ?_))|refine Zab (Zac rfl (Zaa (id:=1) rfl ?_))|refine Zac rfl (Zaa (id:=1) rfl ?_)
 refine Zaf rfl (fun _=>rfl) rfl rfl ?_
 refine Zau rfl ((hC).mono ?_)
 rintro _ rfl
 refine Zam rfl rfl ?_
 refine Zaf rfl (fun _=>rfl) rfl rfl ?_
 refine Zah ?_
 repeat (first|refine Zae ?_|refine Zad ?_)
 cases h0:decide (Zi5 m=0)with
 |false=>
  have h1:(!decide (Zi5 m=0))=true:=by rw[h0];rfl
  repeat (first|refine Zag ?_|refine Zae ?_|refine Zad ?_)
  first|refine Zab (Zaa (id:=2) rfl ?_)|refine Zab (Zab (Zaa (id:=2) rfl ?_))|refine Zaa (id:=2) rfl ?_|refine Zab (Zac rfl (Zab (Zaa (id:=2) rfl ?_)))|refine Zab (Zac rfl (Zab (Zab (Zaa (id:=2) rfl ?_))))|refine Zac rfl (Zab (Zab (Zaa (id:=2) rfl ?_)))|refine Zac rfl (Zab (Zaa (id:=2) rfl ?_))|refine Zab (Zac rfl (Zaa (id:=2) rfl ?_))|refine Zac rfl (Zaa (id:=2) rfl ?_)
  refine Zaf rfl (fun _=>rfl) rfl rfl ?_
  refine Zaf rfl (fun _=>rfl) rfl rfl ?_
  refine Zah ?_
  repeat (first|refine Zae ?_|refine Zad ?_)
  refine And.intro (fun _=> ?_) (fun h=>by first|(cases h;done)|exact(nf h1 h).elim)
  repeat (first|refine Zag ?_|refine Zae ?_|refine Zad ?_)
  first|refine Zab (Zaa (id:=3) rfl ?_)|refine Zab (Zab (Zaa (id:=3) rfl ?_))|refine Zaa (id:=3) rfl ?_|refine Zab (Zac rfl (Zab (Zaa (id:=3) rfl ?_)))|refine Zab (Zac rfl (Zab (Zab (Zaa (id:=3) rfl ?_))))|refine Zac rfl (Zab (Zab (Zaa (id:=3) rfl ?_)))|refine Zac rfl (Zab (Zaa (id:=3) rfl ?_))|refine Zab (Zac rfl (Zaa (id:=3) rfl ?_))|refine Zac rfl (Zaa (id:=3) rfl ?_)
  refine Zaf rfl (fun _=>rfl) rfl rfl ?_
  refine Zaf rfl (fun _=>rfl) rfl rfl ?_
  refine Zah ?_
  repeat (first|refine Zae ?_|refine Zad ?_)
  have e:sqE m=Zi5 m:=by rw[sqE,h0]
  exact congrArg (fun x=>SV.v (.i .i64) x) e.symm
 |true=>
  have h1:(!decide (Zi5 m=0))=false:=by rw[h0];rfl
  repeat (first|refine Zag ?_|refine Zae ?_|refine Zad ?_)
  first|refine Zab (Zaa (id:=2) rfl ?_)|refine Zab (Zab (Zaa (id:=2) rfl ?_))|refine Zaa (id:=2) rfl ?_|refine Zab (Zac rfl (Zab (Zaa (id:=2) rfl ?_)))|refine Zab (Zac rfl (Zab (Zab (Zaa (id:=2) rfl ?_))))|refine Zac rfl (Zab (Zab (Zaa (id:=2) rfl ?_)))|refine Zac rfl (Zab (Zaa (id:=2) rfl ?_))|refine Zab (Zac rfl (Zaa (id:=2) rfl ?_))|refine Zac rfl (Zaa (id:=2) rfl ?_)
  refine Zaf rfl (fun _=>rfl) rfl rfl ?_
  refine Zaf rfl (fun _=>rfl) rfl rfl ?_
  refine Zah ?_
  repeat (first|refine Zae ?_|refine Zad ?_)
  refine And.intro (fun h=>by first|(cases h;done)|exact(nf h h1).elim) (fun _=> ?_)
  cases m with
  |nil=>
   repeat (first|refine Zag ?_|refine Zae ?_|refine Zad ?_)
   first|refine Zab (Zaa (id:=4) rfl ?_)|refine Zab (Zab (Zaa (id:=4) rfl ?_))|refine Zaa (id:=4) rfl ?_|refine Zab (Zac rfl (Zab (Zaa (id:=4) rfl ?_)))|refine Zab (Zac rfl (Zab (Zab (Zaa (id:=4) rfl ?_))))|refine Zac rfl (Zab (Zab (Zaa (id:=4) rfl ?_)))|refine Zac rfl (Zab (Zaa (id:=4) rfl ?_))|refine Zab (Zac rfl (Zaa (id:=4) rfl ?_))|refine Zac rfl (Zaa (id:=4) rfl ?_)
   refine Zaf rfl (fun _=>rfl) rfl rfl ?_
   refine Zaf rfl (fun _=>rfl) rfl rfl ?_
   refine Zaf rfl (fun _=>rfl) rfl rfl ?_
   refine Zaf rfl (fun _=>rfl) rfl rfl ?_
   refine Zai rfl rfl rfl rfl rfl rfl ?_
   refine Zai rfl rfl rfl rfl rfl rfl ?_
   refine Zai rfl rfl rfl rfl rfl rfl ?_
   refine Zai rfl rfl rfl rfl rfl rfl ?_
   refine Zai rfl rfl rfl rfl rfl rfl ?_
   refine Zai rfl rfl rfl rfl rfl rfl ?_
   refine Zai rfl rfl rfl rfl rfl rfl ?_
   refine ZaC rfl rfl rfl rfl rfl rfl rfl ?_
   refine Zah ?_
   repeat (first|refine Zae ?_|refine Zad ?_)
   refine And.intro (fun h=>nomatch h) (fun _=> ?_)
   repeat (first|refine Zag ?_|refine Zae ?_|refine Zad ?_)
   first|refine Zab (Zaa (id:=6) rfl ?_)|refine Zab (Zab (Zaa (id:=6) rfl ?_))|refine Zaa (id:=6) rfl ?_|refine Zab (Zac rfl (Zab (Zaa (id:=6) rfl ?_)))|refine Zab (Zac rfl (Zab (Zab (Zaa (id:=6) rfl ?_))))|refine Zac rfl (Zab (Zab (Zaa (id:=6) rfl ?_)))|refine Zac rfl (Zab (Zaa (id:=6) rfl ?_))|refine Zab (Zac rfl (Zaa (id:=6) rfl ?_))|refine Zac rfl (Zaa (id:=6) rfl ?_)
   refine Zaf rfl (fun _=>rfl) rfl rfl ?_
   refine Zah ?_
   repeat (first|refine Zae ?_|refine Zad ?_)
   have e:sqE []=0:=by rw[sqE,h0];rfl
   exact congrArg (fun x=>SV.v (.i .i64) x) e.symm
  |cons r m=>
   have h2:decide (((r::m).length:Int)>(0:Int))=true:=by rw[decide_eq_true_eq,List.length_cons];omega
   have g0:(r::m)[(0:Int).toNat]? =some r:=rfl
   have hw:wid (r::m)=r.length:=rfl
   cases h3:decide ((((r::m).length:Nat):Int)=((wid (r::m):Nat):Int))with
   |true=>
    have h4:(!decide ((r.length:Int)=((r::m).length:Int)))=false:=by
     rw[Bool.not_eq_false',decide_eq_true_eq];have:=of_decide_eq_true h3;rw[hw]at this;exact this.symm
    repeat (first|refine Zag ?_|refine Zae ?_|refine Zad ?_)
    first|refine Zab (Zaa (id:=4) rfl ?_)|refine Zab (Zab (Zaa (id:=4) rfl ?_))|refine Zaa (id:=4) rfl ?_|refine Zab (Zac rfl (Zab (Zaa (id:=4) rfl ?_)))|refine Zab (Zac rfl (Zab (Zab (Zaa (id:=4) rfl ?_))))|refine Zac rfl (Zab (Zab (Zaa (id:=4) rfl ?_)))|refine Zac rfl (Zab (Zaa (id:=4) rfl ?_))|refine Zab (Zac rfl (Zaa (id:=4) rfl ?_))|refine Zac rfl (Zaa (id:=4) rfl ?_)
    refine Zaf rfl (fun _=>rfl) rfl rfl ?_
    refine Zaf rfl (fun _=>rfl) rfl rfl ?_
    refine Zaf rfl (fun _=>rfl) rfl rfl ?_
    refine Zaf rfl (fun _=>rfl) rfl rfl ?_
    refine Zaj rfl rfl rfl h2 (fun _=>rfl) rfl rfl ?_
    refine Zf0 rfl rfl rfl h2 (fun _=>rfl) (Int.le_refl 0) g0 rfl rfl ?_
    refine Zaj rfl rfl rfl h2 (fun _=>rfl) rfl rfl ?_
    refine Zaj rfl rfl rfl h2 (fun _=>rfl) rfl rfl ?_
    refine Zaj rfl rfl rfl h2 (fun _=>rfl) rfl rfl ?_
    refine Zaj rfl rfl rfl h2 (fun _=>rfl) rfl rfl ?_
    refine Zaj rfl rfl rfl h2 (fun _=>rfl) rfl rfl ?_
    refine ZaJ rfl rfl rfl h2 rfl rfl rfl ?_
    refine Zah ?_
    repeat (first|refine Zae ?_|refine Zad ?_)
    refine And.intro (fun h=>by first|(cases h;done)|exact(nf h h4).elim) (fun _=> ?_)
    repeat (first|refine Zag ?_|refine Zae ?_|refine Zad ?_)
    first|refine Zab (Zaa (id:=6) rfl ?_)|refine Zab (Zab (Zaa (id:=6) rfl ?_))|refine Zaa (id:=6) rfl ?_|refine Zab (Zac rfl (Zab (Zaa (id:=6) rfl ?_)))|refine Zab (Zac rfl (Zab (Zab (Zaa (id:=6) rfl ?_))))|refine Zac rfl (Zab (Zab (Zaa (id:=6) rfl ?_)))|refine Zac rfl (Zab (Zaa (id:=6) rfl ?_))|refine Zab (Zac rfl (Zaa (id:=6) rfl ?_))|refine Zac rfl (Zaa (id:=6) rfl ?_)
    refine Zaf rfl (fun _=>rfl) rfl rfl ?_
    refine Zah ?_
    repeat (first|refine Zae ?_|refine Zad ?_)
    have e:sqE (r::m)=0:=by rw[sqE,h0];simp only[h3]
    exact congrArg (fun x=>SV.v (.i .i64) x) e.symm
   |false=>
    have h4:(!decide ((r.length:Int)=((r::m).length:Int)))=true:=by
     rw[Bool.not_eq_true',decide_eq_false_iff_not];have:=of_decide_eq_false h3;rw[hw]at this;exact fun e=>this e.symm
    repeat (first|refine Zag ?_|refine Zae ?_|refine Zad ?_)
    first|refine Zab (Zaa (id:=4) rfl ?_)|refine Zab (Zab (Zaa (id:=4) rfl ?_))|refine Zaa (id:=4) rfl ?_|refine Zab (Zac rfl (Zab (Zaa (id:=4) rfl ?_)))|refine Zab (Zac rfl (Zab (Zab (Zaa (id:=4) rfl ?_))))|refine Zac rfl (Zab (Zab (Zaa (id:=4) rfl ?_)))|refine Zac rfl (Zab (Zaa (id:=4) rfl ?_))|refine Zab (Zac rfl (Zaa (id:=4) rfl ?_))|refine Zac rfl (Zaa (id:=4) rfl ?_)
    refine Zaf rfl (fun _=>rfl) rfl rfl ?_
    refine Zaf rfl (fun _=>rfl) rfl rfl ?_
    refine Zaf rfl (fun _=>rfl) rfl rfl ?_
    refine Zaf rfl (fun _=>rfl) rfl rfl ?_
    refine Zaj rfl rfl rfl h2 (fun _=>rfl) rfl rfl ?_
    refine Zf0 rfl rfl rfl h2 (fun _=>rfl) (Int.le_refl 0) g0 rfl rfl ?_
    refine Zaj rfl rfl rfl h2 (fun _=>rfl) rfl rfl ?_
    refine Zaj rfl rfl rfl h2 (fun _=>rfl) rfl rfl ?_
    refine Zaj rfl rfl rfl h2 (fun _=>rfl) rfl rfl ?_
    refine Zaj rfl rfl rfl h2 (fun _=>rfl) rfl rfl ?_
    refine Zaj rfl rfl rfl h2 (fun _=>rfl) rfl rfl ?_
    refine ZaJ rfl rfl rfl h2 rfl rfl rfl ?_
    refine Zah ?_
    repeat (first|refine Zae ?_|refine Zad ?_)
    refine And.intro (fun _=> ?_) (fun h=>by first|(cases h;done)|exact(nf h4 h).elim)
    repeat (first|refine Zag ?_|refine Zae ?_|refine Zad ?_)
    first|refine Zab (Zaa (id:=5) rfl ?_)|refine Zab (Zab (Zaa (id:=5) rfl ?_))|refine Zaa (id:=5) rfl ?_|refine Zab (Zac rfl (Zab (Zaa (id:=5) rfl ?_)))|refine Zab (Zac rfl (Zab (Zab (Zaa (id:=5) rfl ?_))))|refine Zac rfl (Zab (Zab (Zaa (id:=5) rfl ?_)))|refine Zac rfl (Zab (Zaa (id:=5) rfl ?_))|refine Zab (Zac rfl (Zaa (id:=5) rfl ?_))|refine Zac rfl (Zaa (id:=5) rfl ?_)
    refine Zaf rfl (fun _=>rfl) rfl rfl ?_
    refine Zah ?_
    repeat (first|refine Zae ?_|refine Zad ?_)
    have e:sqE (r::m)=3:=by rw[sqE,h0];simp only[h3]
    exact congrArg (fun x=>SV.v (.i .i64) x) e.symm
theorem Zwm {m:List (List (List UInt8))} (h:sqE m=0): ∃pss,Mat m pss∧ZyK pss=pss.length∧Zi5 m=0:=by
 rw[sqE]at h
 cases h0:decide (Zi5 m=0)with
 |false=>rw[h0]at h;exact absurd h (of_decide_eq_false h0)
 |true=>
  have h1:=of_decide_eq_true h0
  rw[h0]at h
  simp only at h
  obtain⟨pss,hM⟩:=Zq8 h1
  cases h2:decide ((m.length:Int)=((wid m:Nat):Int))with
  |false=>rw[h2]at h;cases h
  |true=>
   have h3:=of_decide_eq_true h2
   rw[hM.txt,ZqP,ZhG,List.length_map]at h3
   exact⟨pss,hM,by omega,h1⟩
theorem ZAA (pss:List (List Rat)) (hl:pss.length≤40) (hr: ∀ps∈pss,ps.length=pss.length) (hf: ∀ps∈pss,∀p∈ps,Zhr p=true):PureOK Tryz.prog Zaw 73 [.v (.l (.l qct)) (ZtG pss)] (fun V=>V=QR (det pss.length (mxQ pss))):=by
 rw[Zyd hr]
 obtain⟨n,en⟩: ∃n,pss.length=n:=⟨_,rfl⟩
 rw[en]at hl hr⊢
 have hm: ∀i j,i<n→j<n→Zhr (mxQ pss i j)=true:=fun i j hi hj=>by
  obtain⟨ps,h1,h2⟩:=Zn1 (i:=i) hr (by omega) hj
  exact hf ps h1 _ h2
 obtain⟨L,hI⟩:=Zsb n n 6667 (mxQ pss) fun i j hi hj=>Zt8 (hm i j hi hj)
 have h1:n*n≤40*40:=Nat.mul_le_mul hl hl
 have h2:6667*(n*n+1)+6≤10673873:=by omega
 have h3:=Nat.mul_le_mul h2 (show n+1≤41 by omega)
 exact ZAg n 20000000 (2^((6667*(n*n+1)+6)*(n+1))) _ (mxQ pss) L (by omega) (by decide) hI (Nat.pow_pos (by decide)) (ZuE (Nat.le_refl _) (by omega)) fun q hq=>by
  obtain⟨a,b,q1,q2,q3,q4⟩:=hq
  exact Zyy q2 q1 q3 q4 (Nat.le_refl _) (by omega)
def ZAz (m:List (List (List UInt8))) (d:List UInt8) (e:Int):Prop:=
 (decide (sqE m=0)=false∧d=[]∧e=sqE m)∨(sqE m=0∧ ∃pss,Mat m pss∧ZyK pss=pss.length∧(d,e)=Zx0 (det pss.length (mxQ pss)))
def ZzD (m:List (List (List UInt8))) (V:SV):Prop:= ∃d e,V=rs (d,e)∧ZAz m d e
set_option maxHeartbeats 8000000 in
theorem Zzm (m:List (List (List UInt8))) (hs:okM m):PureOK Tryz.prog Zaw 23 [.v (.l (.l .s)) m] (ZzD m):=by
 refine Zak Zal Tryz.func23 ?_
 have hC:=Zu8 m hs
 repeat (first|refine Zag ?_|refine Zae ?_|refine Zad ?_)
 first|refine Zab (Zaa (id:=0) rfl ?_)|refine Zab (Zab (Zaa (id:=0) rfl ?_))|refine Zaa (id:=0) rfl ?_|refine Zab (Zac rfl (Zab (Zaa (id:=0) rfl ?_)))|refine Zab (Zac rfl (Zab (Zab (Zaa (id:=0) rfl ?_))))|refine Zac rfl (Zab (Zab (Zaa (id:=0) rfl ?_)))|refine Zac rfl (Zab (Zaa (id:=0) rfl ?_))|refine Zab (Zac rfl (Zaa (id:=0) rfl ?_))|refine Zac rfl (Zaa (id:=0) rfl ?_)
 refine Zaf rfl (fun _=>rfl) rfl rfl ?_
 refine Zaf rfl (fun _=>rfl) rfl rfl ?_
 refine Zah ?_
 repeat (first|refine Zae ?_|refine Zad ?_)
 repeat (first|refine Zag ?_|refine Zae ?_|refine Zad ?_)
 first|refine Zab (Zaa (id:=1) rfl ?_)|refine Zab (Zab (Zaa (id:=1) rfl ?_))|refine Zaa (id:=1) rfl ?_|refine Zab (Zac rfl (Zab (Zaa (id:=1) rfl ?_)))|refine Zab (Zac rfl (Zab (Zab (Zaa (id:=1) rfl ?_))))|refine Zac rfl (Zab (Zab (Zaa (id:=1) rfl ?_)))|refine Zac rfl (Zab (Zaa (id:=1) rfl ?_))|refine Zab (Zac rfl (Zaa (id:=1) rfl ?_))|refine Zac rfl (Zaa (id:=1) rfl ?_)
 refine Zaf rfl (fun _=>rfl) rfl rfl ?_
 refine Zau rfl ((hC).mono ?_)
 rintro _ rfl
 refine Zam rfl rfl ?_
 refine Zaf rfl (fun _=>rfl) rfl rfl ?_
 refine Zah ?_
 repeat (first|refine Zae ?_|refine Zad ?_)
 cases h0:decide (sqE m=0)with
 |false=>
  have h1:(!decide (sqE m=0))=true:=by rw[h0];rfl
  repeat (first|refine Zag ?_|refine Zae ?_|refine Zad ?_)
  first|refine Zab (Zaa (id:=2) rfl ?_)|refine Zab (Zab (Zaa (id:=2) rfl ?_))|refine Zaa (id:=2) rfl ?_|refine Zab (Zac rfl (Zab (Zaa (id:=2) rfl ?_)))|refine Zab (Zac rfl (Zab (Zab (Zaa (id:=2) rfl ?_))))|refine Zac rfl (Zab (Zab (Zaa (id:=2) rfl ?_)))|refine Zac rfl (Zab (Zaa (id:=2) rfl ?_))|refine Zab (Zac rfl (Zaa (id:=2) rfl ?_))|refine Zac rfl (Zaa (id:=2) rfl ?_)
  refine Zaf rfl (fun _=>rfl) rfl rfl ?_
  refine Zaf rfl (fun _=>rfl) rfl rfl ?_
  refine Zah ?_
  repeat (first|refine Zae ?_|refine Zad ?_)
  refine And.intro (fun _=> ?_) (fun h=>by first|(cases h;done)|exact(nf h1 h).elim)
  repeat (first|refine Zag ?_|refine Zae ?_|refine Zad ?_)
  first|refine Zab (Zaa (id:=3) rfl ?_)|refine Zab (Zab (Zaa (id:=3) rfl ?_))|refine Zaa (id:=3) rfl ?_|refine Zab (Zac rfl (Zab (Zaa (id:=3) rfl ?_)))|refine Zab (Zac rfl (Zab (Zab (Zaa (id:=3) rfl ?_))))|refine Zac rfl (Zab (Zab (Zaa (id:=3) rfl ?_)))|refine Zac rfl (Zab (Zaa (id:=3) rfl ?_))|refine Zab (Zac rfl (Zaa (id:=3) rfl ?_))|refine Zac rfl (Zaa (id:=3) rfl ?_)
  refine Zaf rfl (fun _=>rfl) rfl rfl ?_
  refine Zaf rfl (fun _=>rfl) rfl rfl ?_
  refine Zaf rfl (fun _=>rfl) rfl rfl ?_
  refine Zah ?_
  repeat (first|refine Zae ?_|refine Zad ?_)
  exact(⟨_,_,rfl, .inl ⟨h0,rfl,rfl⟩⟩:ZzD m (rs ([],sqE m)))
 |true=>
  have h1:(!decide (sqE m=0))=false:=by rw[h0];rfl
  obtain⟨pss,hM,hw,_⟩:=Zwm (of_decide_eq_true h0)
  have hr: ∀ps∈pss,ps.length=pss.length:=fun ps h=>(hM.row ps h).trans hw
  have hV:=Zt5 pss (by have:=hM.len;omega) (fun ps h=>by have:=hr ps h;have:=hM.len;omega) hM.fit
  rw[←hM.txt]at hV
  have hD:=ZAA pss hM.len hr hM.fit
  obtain⟨q,eq⟩: ∃x,det pss.length (mxQ pss)=x:=⟨_,rfl⟩
  rw[eq]at hD
  have hT:=ZxA q
  repeat (first|refine Zag ?_|refine Zae ?_|refine Zad ?_)
  first|refine Zab (Zaa (id:=2) rfl ?_)|refine Zab (Zab (Zaa (id:=2) rfl ?_))|refine Zaa (id:=2) rfl ?_|refine Zab (Zac rfl (Zab (Zaa (id:=2) rfl ?_)))|refine Zab (Zac rfl (Zab (Zab (Zaa (id:=2) rfl ?_))))|refine Zac rfl (Zab (Zab (Zaa (id:=2) rfl ?_)))|refine Zac rfl (Zab (Zaa (id:=2) rfl ?_))|refine Zab (Zac rfl (Zaa (id:=2) rfl ?_))|refine Zac rfl (Zaa (id:=2) rfl ?_)
  refine Zaf rfl (fun _=>rfl) rfl rfl ?_
  refine Zaf rfl (fun _=>rfl) rfl rfl ?_
  refine Zah ?_
  repeat (first|refine Zae ?_|refine Zad ?_)
  refine And.intro (fun h=>by first|(cases h;done)|exact(nf h h1).elim) (fun _=> ?_)
  cases hf:Zhr q with
  |true=>
   have hT':=hT.mono (Q':=fun V=>V= .tup [.v .s (Zbv q), .v .b true]) (by
    rintro _ ⟨X,rfl,h⟩
    rw[h hf,hf])
   repeat (first|refine Zag ?_|refine Zae ?_|refine Zad ?_)
   first|refine Zab (Zaa (id:=4) rfl ?_)|refine Zab (Zab (Zaa (id:=4) rfl ?_))|refine Zaa (id:=4) rfl ?_|refine Zab (Zac rfl (Zab (Zaa (id:=4) rfl ?_)))|refine Zab (Zac rfl (Zab (Zab (Zaa (id:=4) rfl ?_))))|refine Zac rfl (Zab (Zab (Zaa (id:=4) rfl ?_)))|refine Zac rfl (Zab (Zaa (id:=4) rfl ?_))|refine Zab (Zac rfl (Zaa (id:=4) rfl ?_))|refine Zac rfl (Zaa (id:=4) rfl ?_)
   refine Zaf rfl (fun _=>rfl) rfl rfl ?_
   refine Zau rfl ((hV).mono ?_)
   rintro _ rfl
   refine Zam rfl rfl ?_
   refine Zau rfl ((hD).mono ?_)
   rintro _ rfl
   refine Zam rfl rfl ?_
   refine Zau rfl ((hT').mono ?_)
   rintro _ rfl
   refine Zam rfl rfl ?_
   refine Zaf rfl (fun _=>rfl) rfl rfl ?_
   refine Zaf rfl (fun _=>rfl) rfl rfl ?_
   refine Zaf rfl (fun _=>rfl) rfl rfl ?_
   refine Zaf rfl (fun _=>rfl) rfl rfl ?_
   refine Zaf rfl (fun _=>rfl) rfl rfl ?_
   refine Zah ?_
   repeat (first|refine Zae ?_|refine Zad ?_)
   repeat (first|refine Zag ?_|refine Zae ?_|refine Zad ?_)
   first|refine Zab (Zaa (id:=5) rfl ?_)|refine Zab (Zab (Zaa (id:=5) rfl ?_))|refine Zaa (id:=5) rfl ?_|refine Zab (Zac rfl (Zab (Zaa (id:=5) rfl ?_)))|refine Zab (Zac rfl (Zab (Zab (Zaa (id:=5) rfl ?_))))|refine Zac rfl (Zab (Zab (Zaa (id:=5) rfl ?_)))|refine Zac rfl (Zab (Zaa (id:=5) rfl ?_))|refine Zab (Zac rfl (Zaa (id:=5) rfl ?_))|refine Zac rfl (Zaa (id:=5) rfl ?_)
   refine Zaf rfl (fun _=>rfl) rfl rfl ?_
   refine Zaf rfl (fun _=>rfl) rfl rfl ?_
   refine Zah ?_
   repeat (first|refine Zae ?_|refine Zad ?_)
   refine And.intro (fun h=>nomatch h) (fun _=> ?_)
   repeat (first|refine Zag ?_|refine Zae ?_|refine Zad ?_)
   first|refine Zab (Zaa (id:=7) rfl ?_)|refine Zab (Zab (Zaa (id:=7) rfl ?_))|refine Zaa (id:=7) rfl ?_|refine Zab (Zac rfl (Zab (Zaa (id:=7) rfl ?_)))|refine Zab (Zac rfl (Zab (Zab (Zaa (id:=7) rfl ?_))))|refine Zac rfl (Zab (Zab (Zaa (id:=7) rfl ?_)))|refine Zac rfl (Zab (Zaa (id:=7) rfl ?_))|refine Zab (Zac rfl (Zaa (id:=7) rfl ?_))|refine Zac rfl (Zaa (id:=7) rfl ?_)
   refine Zaf rfl (fun _=>rfl) rfl rfl ?_
   refine Zaf rfl (fun _=>rfl) rfl rfl ?_
   refine Zaf rfl (fun _=>rfl) rfl rfl ?_
   refine Zah ?_
   repeat (first|refine Zae ?_|refine Zad ?_)
   have e:Zx0 q=(Zbv q,0):=Zpu hf
   exact(⟨_,_,rfl, .inr ⟨of_decide_eq_true h0,pss,hM,hw,by rw[eq,e]⟩⟩:ZzD m (rs (Zbv q,0)))
  |false=>
   repeat (first|refine Zag ?_|refine Zae ?_|refine Zad ?_)
   first|refine Zab (Zaa (id:=4) rfl ?_)|refine Zab (Zab (Zaa (id:=4) rfl ?_))|refine Zaa (id:=4) rfl ?_|refine Zab (Zac rfl (Zab (Zaa (id:=4) rfl ?_)))|refine Zab (Zac rfl (Zab (Zab (Zaa (id:=4) rfl ?_))))|refine Zac rfl (Zab (Zab (Zaa (id:=4) rfl ?_)))|refine Zac rfl (Zab (Zaa (id:=4) rfl ?_))|refine Zab (Zac rfl (Zaa (id:=4) rfl ?_))|refine Zac rfl (Zaa (id:=4) rfl ?_)
   refine Zaf rfl (fun _=>rfl) rfl rfl ?_
   refine Zau rfl ((hV).mono ?_)
   rintro _ rfl
   refine Zam rfl rfl ?_
   refine Zau rfl ((hD).mono ?_)
   rintro _ rfl
   refine Zam rfl rfl ?_
   refine Zau rfl ((hT).mono ?_)
   rintro _ ⟨X,rfl,_⟩
   refine Zam rfl rfl ?_
   refine Zaf rfl (fun _=>rfl) rfl rfl ?_
   refine Zaf rfl (fun _=>rfl) rfl rfl ?_
   refine Zaf rfl (fun _=>rfl) rfl rfl ?_
   refine Zaf rfl (fun _=>rfl) rfl rfl ?_
   refine Zaf rfl (fun _=>rfl) rfl rfl ?_
   refine Zah ?_
   repeat (first|refine Zae ?_|refine Zad ?_)
   have hf':(!Zhr q)=true:=by rw[hf];rfl
   repeat (first|refine Zag ?_|refine Zae ?_|refine Zad ?_)
   first|refine Zab (Zaa (id:=5) rfl ?_)|refine Zab (Zab (Zaa (id:=5) rfl ?_))|refine Zaa (id:=5) rfl ?_|refine Zab (Zac rfl (Zab (Zaa (id:=5) rfl ?_)))|refine Zab (Zac rfl (Zab (Zab (Zaa (id:=5) rfl ?_))))|refine Zac rfl (Zab (Zab (Zaa (id:=5) rfl ?_)))|refine Zac rfl (Zab (Zaa (id:=5) rfl ?_))|refine Zab (Zac rfl (Zaa (id:=5) rfl ?_))|refine Zac rfl (Zaa (id:=5) rfl ?_)
   refine Zaf rfl (fun _=>rfl) rfl rfl ?_
   refine Zaf rfl (fun _=>rfl) rfl rfl ?_
   refine Zah ?_
   repeat (first|refine Zae ?_|refine Zad ?_)
   refine And.intro (fun _=> ?_) (fun h=>by first|(cases h;done)|exact(nf hf' h).elim)
   repeat (first|refine Zag ?_|refine Zae ?_|refine Zad ?_)
   first|refine Zab (Zaa (id:=6) rfl ?_)|refine Zab (Zab (Zaa (id:=6) rfl ?_))|refine Zaa (id:=6) rfl ?_|refine Zab (Zac rfl (Zab (Zaa (id:=6) rfl ?_)))|refine Zab (Zac rfl (Zab (Zab (Zaa (id:=6) rfl ?_))))|refine Zac rfl (Zab (Zab (Zaa (id:=6) rfl ?_)))|refine Zac rfl (Zab (Zaa (id:=6) rfl ?_))|refine Zab (Zac rfl (Zaa (id:=6) rfl ?_))|refine Zac rfl (Zaa (id:=6) rfl ?_)
   refine Zaf rfl (fun _=>rfl) rfl rfl ?_
   refine Zaf rfl (fun _=>rfl) rfl rfl ?_
   refine Zah ?_
   repeat (first|refine Zae ?_|refine Zad ?_)
   have e:Zx0 q=([],2):=by rw[Zx0,hf]
   exact(⟨_,_,rfl, .inr ⟨of_decide_eq_true h0,pss,hM,hw,by rw[eq,e]⟩⟩:ZzD m (rs ([],2)))
theorem Ztb {n d:Int} {k:Nat} (hd:d≠0) (h1:dl n.natAbs≤k) (h2:dl d.natAbs≤k):dz (Rat.divInt n d) k:=by
 have pos: ∀ {n d:Int},0<d→dl n.natAbs≤k→dl d.natAbs≤k→dz (Rat.divInt n d) k:=fun{n d} h h1 h2=>by
  obtain⟨m,rfl⟩: ∃m:Nat,d=m:=⟨d.toNat,by omega⟩
  rw[Int.natAbs_natCast]at h2
  exact Zj9 (by omega) h1 h2
 rcases Int.lt_or_le d 0 with h|h
 ·rw[←Rat.neg_divInt_neg]
  exact pos (by omega) (by rw[Int.natAbs_neg];exact h1) (by rw[Int.natAbs_neg];exact h2)
 ·exact pos (by omega) h1 h2
theorem RxDoorVD1pw {a b m n:Nat} (k:Nat) (h:a^m≤b^n) {x:Nat} (hx:x≤m*k) (ha:0<a) {y:Nat} (hy:n*k=y):a^x≤b^y:=by
 subst hy
 refine Nat.le_trans (Nat.pow_le_pow_right ha hx) ?_
 rw[Nat.pow_mul,Nat.pow_mul]
 exact Nat.pow_le_pow_left h k
theorem RxDoorVD1tl {k m:Nat} (h:k<m):10^k<10^m:=Nat.pow_lt_pow_right (by decide) h
theorem Zxf {q:Rat} {X:Nat} (h:Quo X q) (hX:X≤2^5232):Zhr q=true:=by
 obtain⟨a,b,h1,h2,h3,h4⟩:=h
 have hp: ∀y:Nat,y≤X→dl y≤1745:=fun y hy=>by
  refine ZlL (by decide) ?_
  exact Nat.lt_of_le_of_lt (Nat.le_trans hy hX) (Nat.lt_of_le_of_lt (RxDoorVD1pw (a:=2) (b:=10) (x:=5232) (y:=1744) (m:=3) (n:=1) 1744 (by decide) (by decide) (by decide) rfl) (RxDoorVD1tl (k:=1744) (m:=1745) (by decide)))
 refine Zy0 (k:=1745) (by decide) ?_
 rw[h2,←Rat.divInt_eq_div]
 exact Ztb h1 (hp _ h3) (hp _ h4)
theorem Zwu {q:Rat} (h:dz q 12):q.den≤2^40∧q.num.natAbs≤2^40:=by
 have hp: ∀k,k≤12→10^k≤2^40:=fun k hk=>Nat.le_trans (Nat.pow_le_pow_right (by decide) hk) (by decide)
 exact⟨Nat.le_trans (Nat.le_of_lt (ZkM _)) (hp _ h.2),Nat.le_trans (Nat.le_of_lt (ZkM _)) (hp _ h.1)⟩
theorem RxDoorVD2two {x y:Nat} (h:x≤y):2^x≤2^y:=Nat.pow_le_pow_right (by decide) h
theorem RxDoorVD2six {x y:Nat} (h:6+x≤y):64*2^x≤2^y:=by
 rw[show 64=2^6 by decide,← Nat.pow_add]
 exact RxDoorVD2two h
theorem RxDoorVD2tp {a x w y:Nat} (h:a≤2^x) (h2:x*w≤y):a^w≤2^y:=by
 refine Nat.le_trans (Nat.pow_le_pow_left h w) ?_
 rw[← Nat.pow_mul]
 exact RxDoorVD2two h2
theorem ZwD {n:Nat} {M:Mx} (hn:n≤5) (h: ∀i j,i<n→j<n→dz (M i j) 12):Zhr (det n M)=true:=by
 obtain⟨L,hI⟩:=Zsb n n 40 M fun i j hi hj=>Zwu (h i j hi hj)
 have hq:=Zso (k:=n) (ρ:=fun u=>u) (κ:=fun u=>u) hI (Nat.pow_pos (by decide)) (Nat.le_refl n) (fun u h=>h) (fun t h=>h)
 refine Zxf hq ?_
 have h1:n*n≤5*5:=Nat.mul_le_mul hn hn
 have h2:40*(n*n+1)≤1040:=by omega
 exact Nat.le_trans (Zsq n (by omega)) (RxDoorVD2tp (x:=1046) (y:=5232) (RxDoorVD2six (y:=1046) (by omega)) (by omega))
theorem ZwE (n:Nat) (hn:n≤1000) (m:List (List (List UInt8))):PureOK Tryz.prog Zaw 17 [.v (.i .i64) (n:Int), .v (.l (.l (.l .s))) (sub [m] 0 1)] (fun V=>V= .v .b (ZiL (n:Int) [m])):=
 ZyH (n:Int) [m] (show 1≤1000 by decide) fun x _ h1=>⟨by omega,fun v _ h2=>by omega⟩
set_option maxHeartbeats 16000000 in
theorem Znb (m:List (List (List UInt8))) (hs:okM m):PureOK Tryz.prog Zaw 5 [.v (.l (.l .s)) m] (fun V=>V= .v .b true):=by
 refine Zak Zal Tryz.func5 ?_
 have hF:=Zm1
 have hS:=Zzm m hs
 have hE:=Zky m hs
 have hW:=Zub m
 repeat (first|refine Zag ?_|refine Zae ?_|refine Zad ?_)
 first|refine Zab (Zaa (id:=0) rfl ?_)|refine Zab (Zab (Zaa (id:=0) rfl ?_))|refine Zaa (id:=0) rfl ?_|refine Zab (Zac rfl (Zab (Zaa (id:=0) rfl ?_)))|refine Zab (Zac rfl (Zab (Zab (Zaa (id:=0) rfl ?_))))|refine Zac rfl (Zab (Zab (Zaa (id:=0) rfl ?_)))|refine Zac rfl (Zab (Zaa (id:=0) rfl ?_))|refine Zab (Zac rfl (Zaa (id:=0) rfl ?_))|refine Zac rfl (Zaa (id:=0) rfl ?_)
 refine Zaf rfl (fun _=>rfl) rfl rfl ?_
 refine Zah ?_
 repeat (first|refine Zae ?_|refine Zad ?_)
 repeat (first|refine Zag ?_|refine Zae ?_|refine Zad ?_)
 first|refine Zab (Zaa (id:=1) rfl ?_)|refine Zab (Zab (Zaa (id:=1) rfl ?_))|refine Zaa (id:=1) rfl ?_|refine Zab (Zac rfl (Zab (Zaa (id:=1) rfl ?_)))|refine Zab (Zac rfl (Zab (Zab (Zaa (id:=1) rfl ?_))))|refine Zac rfl (Zab (Zab (Zaa (id:=1) rfl ?_)))|refine Zac rfl (Zab (Zaa (id:=1) rfl ?_))|refine Zab (Zac rfl (Zaa (id:=1) rfl ?_))|refine Zac rfl (Zaa (id:=1) rfl ?_)
 refine Zau rfl ((hF).mono ?_)
 rintro _ rfl
 refine Zam rfl rfl ?_
 refine Zaf rfl (fun _=>rfl) rfl rfl ?_
 refine Zah ?_
 repeat (first|refine Zae ?_|refine Zad ?_)
 refine And.intro (fun h=>nomatch h) (fun _=> ?_)
 repeat (first|refine Zag ?_|refine Zae ?_|refine Zad ?_)
 first|refine Zab (Zaa (id:=3) rfl ?_)|refine Zab (Zab (Zaa (id:=3) rfl ?_))|refine Zaa (id:=3) rfl ?_|refine Zab (Zac rfl (Zab (Zaa (id:=3) rfl ?_)))|refine Zab (Zac rfl (Zab (Zab (Zaa (id:=3) rfl ?_))))|refine Zac rfl (Zab (Zab (Zaa (id:=3) rfl ?_)))|refine Zac rfl (Zab (Zaa (id:=3) rfl ?_))|refine Zab (Zac rfl (Zaa (id:=3) rfl ?_))|refine Zac rfl (Zaa (id:=3) rfl ?_)
 refine Zaf rfl (fun _=>rfl) rfl rfl ?_
 refine Zau rfl ((hS).mono ?_)
 rintro _ ⟨d,e,rfl,hD⟩
 refine Zam rfl rfl ?_
 refine Zaf rfl (fun _=>rfl) rfl rfl ?_
 refine Zaf rfl (fun _=>rfl) rfl rfl ?_
 refine Zaf rfl (fun _=>rfl) rfl rfl ?_
 refine Zaf rfl (fun _=>rfl) rfl rfl ?_
 refine Zaf rfl (fun _=>rfl) rfl rfl ?_
 refine Zah ?_
 repeat (first|refine Zae ?_|refine Zad ?_)
 repeat (first|refine Zag ?_|refine Zae ?_|refine Zad ?_)
 first|refine Zab (Zaa (id:=4) rfl ?_)|refine Zab (Zab (Zaa (id:=4) rfl ?_))|refine Zaa (id:=4) rfl ?_|refine Zab (Zac rfl (Zab (Zaa (id:=4) rfl ?_)))|refine Zab (Zac rfl (Zab (Zab (Zaa (id:=4) rfl ?_))))|refine Zac rfl (Zab (Zab (Zaa (id:=4) rfl ?_)))|refine Zac rfl (Zab (Zaa (id:=4) rfl ?_))|refine Zab (Zac rfl (Zaa (id:=4) rfl ?_))|refine Zac rfl (Zaa (id:=4) rfl ?_)
 refine Zaf rfl (fun _=>rfl) rfl rfl ?_
 refine Zau rfl ((hE).mono ?_)
 rintro _ rfl
 refine Zam rfl rfl ?_
 refine Zaf rfl (fun _=>rfl) rfl rfl ?_
 refine Zah ?_
 repeat (first|refine Zae ?_|refine Zad ?_)
 have wrong: ∀w:Int,sqE m=w→decide (w=0)=false→d=[]∧e=w:=fun w h1 h2=>by
  rcases hD with⟨_,h3,h4⟩|⟨h3,_⟩
  ·exact⟨h3,by rw[h4,h1]⟩
  ·rw[h1]at h3;exact absurd h3 (of_decide_eq_false h2)
 cases h0:decide (Zi5 m=0)with
 |false=>
  have h1:(!decide (Zi5 m=0))=true:=by rw[h0];rfl
  obtain⟨rfl,rfl⟩:=wrong (Zi5 m) (by rw[sqE,h0]) h0
  have h2:decide (Zi5 m=Zi5 m)=true:=decide_eq_true rfl
  repeat (first|refine Zag ?_|refine Zae ?_|refine Zad ?_)
  first|refine Zab (Zaa (id:=5) rfl ?_)|refine Zab (Zab (Zaa (id:=5) rfl ?_))|refine Zaa (id:=5) rfl ?_|refine Zab (Zac rfl (Zab (Zaa (id:=5) rfl ?_)))|refine Zab (Zac rfl (Zab (Zab (Zaa (id:=5) rfl ?_))))|refine Zac rfl (Zab (Zab (Zaa (id:=5) rfl ?_)))|refine Zac rfl (Zab (Zaa (id:=5) rfl ?_))|refine Zab (Zac rfl (Zaa (id:=5) rfl ?_))|refine Zac rfl (Zaa (id:=5) rfl ?_)
  refine Zaf rfl (fun _=>rfl) rfl rfl ?_
  refine Zaf rfl (fun _=>rfl) rfl rfl ?_
  refine Zaf rfl (fun _=>rfl) rfl rfl ?_
  refine Zai rfl rfl rfl h0 rfl rfl ?_
  refine Zai rfl rfl rfl h0 rfl rfl ?_
  refine Zai rfl rfl rfl h0 rfl rfl ?_
  refine Zai rfl rfl rfl h0 rfl rfl ?_
  refine Zai rfl rfl rfl h0 rfl rfl ?_
  refine ZaC rfl rfl rfl h0 rfl rfl rfl ?_
  refine Zah ?_
  repeat (first|refine Zae ?_|refine Zad ?_)
  refine And.intro (fun h=>nomatch h) (fun _=> ?_)
  repeat (first|refine Zag ?_|refine Zae ?_|refine Zad ?_)
  first|refine Zab (Zaa (id:=7) rfl ?_)|refine Zab (Zab (Zaa (id:=7) rfl ?_))|refine Zaa (id:=7) rfl ?_|refine Zab (Zac rfl (Zab (Zaa (id:=7) rfl ?_)))|refine Zab (Zac rfl (Zab (Zab (Zaa (id:=7) rfl ?_))))|refine Zac rfl (Zab (Zab (Zaa (id:=7) rfl ?_)))|refine Zac rfl (Zab (Zaa (id:=7) rfl ?_))|refine Zab (Zac rfl (Zaa (id:=7) rfl ?_))|refine Zac rfl (Zaa (id:=7) rfl ?_)
  refine Zaf rfl (fun _=>rfl) rfl rfl ?_
  refine Zaf rfl (fun _=>rfl) rfl rfl ?_
  refine Zah ?_
  repeat (first|refine Zae ?_|refine Zad ?_)
  refine And.intro (fun _=> ?_) (fun h=>by first|(cases h;done)|exact(nf h1 h).elim)
  repeat (first|refine Zag ?_|refine Zae ?_|refine Zad ?_)
  first|refine Zab (Zaa (id:=8) rfl ?_)|refine Zab (Zab (Zaa (id:=8) rfl ?_))|refine Zaa (id:=8) rfl ?_|refine Zab (Zac rfl (Zab (Zaa (id:=8) rfl ?_)))|refine Zab (Zac rfl (Zab (Zab (Zaa (id:=8) rfl ?_))))|refine Zac rfl (Zab (Zab (Zaa (id:=8) rfl ?_)))|refine Zac rfl (Zab (Zaa (id:=8) rfl ?_))|refine Zab (Zac rfl (Zaa (id:=8) rfl ?_))|refine Zac rfl (Zaa (id:=8) rfl ?_)
  refine Zaf rfl (fun _=>rfl) rfl rfl ?_
  refine Zaf rfl (fun _=>rfl) rfl rfl ?_
  refine Zaf rfl (fun _=>rfl) rfl rfl ?_
  refine Zaf rfl (fun _=>rfl) rfl rfl ?_
  refine Zaj rfl rfl rfl h2 (fun _=>rfl) rfl rfl ?_
  refine Zaj rfl rfl rfl h2 (fun _=>rfl) rfl rfl ?_
  refine ZaJ rfl rfl rfl h2 rfl rfl rfl ?_
  refine Zaf rfl (fun _=>rfl) rfl rfl ?_
  refine Zah ?_
  repeat (first|refine Zae ?_|refine Zad ?_)
  rfl
 |true=>
  have hWm:=hW
  cases h3:decide ((m.length:Int)=((wid m:Nat):Int))with
  |false=>
   have h4:(!decide ((m.length:Int)=((wid m:Nat):Int)))=true:=by rw[h3];rfl
   obtain⟨rfl,rfl⟩:=wrong 3 (by rw[sqE,h0];simp only[h3]) rfl
   repeat (first|refine Zag ?_|refine Zae ?_|refine Zad ?_)
   first|refine Zab (Zaa (id:=5) rfl ?_)|refine Zab (Zab (Zaa (id:=5) rfl ?_))|refine Zaa (id:=5) rfl ?_|refine Zab (Zac rfl (Zab (Zaa (id:=5) rfl ?_)))|refine Zab (Zac rfl (Zab (Zab (Zaa (id:=5) rfl ?_))))|refine Zac rfl (Zab (Zab (Zaa (id:=5) rfl ?_)))|refine Zac rfl (Zab (Zaa (id:=5) rfl ?_))|refine Zab (Zac rfl (Zaa (id:=5) rfl ?_))|refine Zac rfl (Zaa (id:=5) rfl ?_)
   refine Zaf rfl (fun _=>rfl) rfl rfl ?_
   refine Zaf rfl (fun _=>rfl) rfl rfl ?_
   refine Zaf rfl (fun _=>rfl) rfl rfl ?_
   refine Zaj rfl rfl rfl h0 (fun _=>rfl) rfl rfl ?_
   refine Zaj rfl rfl rfl h0 (fun _=>rfl) rfl rfl ?_
   refine Zaj rfl rfl rfl h0 (fun _=>rfl) rfl rfl ?_
   refine Za6 rfl rfl rfl h0 ((hWm).mono ?_)
   rintro _ rfl
   refine Zam rfl rfl ?_
   refine Zaj rfl rfl rfl h0 (fun _=>rfl) rfl rfl ?_
   refine ZaJ rfl rfl rfl h0 rfl rfl rfl ?_
   refine Zah ?_
   repeat (first|refine Zae ?_|refine Zad ?_)
   refine And.intro (fun _=> ?_) (fun h=>by first|(cases h;done)|exact(nf h4 h).elim)
   repeat (first|refine Zag ?_|refine Zae ?_|refine Zad ?_)
   first|refine Zab (Zaa (id:=6) rfl ?_)|refine Zab (Zab (Zaa (id:=6) rfl ?_))|refine Zaa (id:=6) rfl ?_|refine Zab (Zac rfl (Zab (Zaa (id:=6) rfl ?_)))|refine Zab (Zac rfl (Zab (Zab (Zaa (id:=6) rfl ?_))))|refine Zac rfl (Zab (Zab (Zaa (id:=6) rfl ?_)))|refine Zac rfl (Zab (Zaa (id:=6) rfl ?_))|refine Zab (Zac rfl (Zaa (id:=6) rfl ?_))|refine Zac rfl (Zaa (id:=6) rfl ?_)
   refine Zaf rfl (fun _=>rfl) rfl rfl ?_
   refine Zah ?_
   repeat (first|refine Zae ?_|refine Zad ?_)
   repeat (first|refine Zag ?_|refine Zae ?_|refine Zad ?_)
   first|refine Zab (Zaa (id:=7) rfl ?_)|refine Zab (Zab (Zaa (id:=7) rfl ?_))|refine Zaa (id:=7) rfl ?_|refine Zab (Zac rfl (Zab (Zaa (id:=7) rfl ?_)))|refine Zab (Zac rfl (Zab (Zab (Zaa (id:=7) rfl ?_))))|refine Zac rfl (Zab (Zab (Zaa (id:=7) rfl ?_)))|refine Zac rfl (Zab (Zaa (id:=7) rfl ?_))|refine Zab (Zac rfl (Zaa (id:=7) rfl ?_))|refine Zac rfl (Zaa (id:=7) rfl ?_)
   refine Zaf rfl (fun _=>rfl) rfl rfl ?_
   refine Zaf rfl (fun _=>rfl) rfl rfl ?_
   refine Zah ?_
   repeat (first|refine Zae ?_|refine Zad ?_)
   refine And.intro (fun _=> ?_) (fun h=>nomatch h)
   repeat (first|refine Zag ?_|refine Zae ?_|refine Zad ?_)
   first|refine Zab (Zaa (id:=8) rfl ?_)|refine Zab (Zab (Zaa (id:=8) rfl ?_))|refine Zaa (id:=8) rfl ?_|refine Zab (Zac rfl (Zab (Zaa (id:=8) rfl ?_)))|refine Zab (Zac rfl (Zab (Zab (Zaa (id:=8) rfl ?_))))|refine Zac rfl (Zab (Zab (Zaa (id:=8) rfl ?_)))|refine Zac rfl (Zab (Zaa (id:=8) rfl ?_))|refine Zab (Zac rfl (Zaa (id:=8) rfl ?_))|refine Zac rfl (Zaa (id:=8) rfl ?_)
   refine Zaf rfl (fun _=>rfl) rfl rfl ?_
   refine Zaf rfl (fun _=>rfl) rfl rfl ?_
   refine Zaf rfl (fun _=>rfl) rfl rfl ?_
   refine Zaf rfl (fun _=>rfl) rfl rfl ?_
   refine Zaj rfl rfl rfl rfl (fun _=>rfl) rfl rfl ?_
   refine Zaj rfl rfl rfl rfl (fun _=>rfl) rfl rfl ?_
   refine ZaJ rfl rfl rfl rfl rfl rfl rfl ?_
   refine Zaf rfl (fun _=>rfl) rfl rfl ?_
   refine Zah ?_
   repeat (first|refine Zae ?_|refine Zad ?_)
   rfl
  |true=>
   have h4:(!decide ((m.length:Int)=((wid m:Nat):Int)))=false:=by rw[h3];rfl
   have hz:sqE m=0:=by rw[sqE,h0];simp only[h3]
   have h5:(!decide (Zi5 m=0))=false:=by rw[h0];rfl
   have hV:=ZwE 5 (by decide) m
   repeat (first|refine Zag ?_|refine Zae ?_|refine Zad ?_)
   first|refine Zab (Zaa (id:=5) rfl ?_)|refine Zab (Zab (Zaa (id:=5) rfl ?_))|refine Zaa (id:=5) rfl ?_|refine Zab (Zac rfl (Zab (Zaa (id:=5) rfl ?_)))|refine Zab (Zac rfl (Zab (Zab (Zaa (id:=5) rfl ?_))))|refine Zac rfl (Zab (Zab (Zaa (id:=5) rfl ?_)))|refine Zac rfl (Zab (Zaa (id:=5) rfl ?_))|refine Zab (Zac rfl (Zaa (id:=5) rfl ?_))|refine Zac rfl (Zaa (id:=5) rfl ?_)
   refine Zaf rfl (fun _=>rfl) rfl rfl ?_
   refine Zaf rfl (fun _=>rfl) rfl rfl ?_
   refine Zaf rfl (fun _=>rfl) rfl rfl ?_
   refine Zaj rfl rfl rfl h0 (fun _=>rfl) rfl rfl ?_
   refine Zaj rfl rfl rfl h0 (fun _=>rfl) rfl rfl ?_
   refine Zaj rfl rfl rfl h0 (fun _=>rfl) rfl rfl ?_
   refine Za6 rfl rfl rfl h0 ((hWm).mono ?_)
   rintro _ rfl
   refine Zam rfl rfl ?_
   refine Zaj rfl rfl rfl h0 (fun _=>rfl) rfl rfl ?_
   refine ZaJ rfl rfl rfl h0 rfl rfl rfl ?_
   refine Zah ?_
   repeat (first|refine Zae ?_|refine Zad ?_)
   refine And.intro (fun h=>by first|(cases h;done)|exact(nf h h4).elim) (fun _=> ?_)
   repeat (first|refine Zag ?_|refine Zae ?_|refine Zad ?_)
   first|refine Zab (Zaa (id:=7) rfl ?_)|refine Zab (Zab (Zaa (id:=7) rfl ?_))|refine Zaa (id:=7) rfl ?_|refine Zab (Zac rfl (Zab (Zaa (id:=7) rfl ?_)))|refine Zab (Zac rfl (Zab (Zab (Zaa (id:=7) rfl ?_))))|refine Zac rfl (Zab (Zab (Zaa (id:=7) rfl ?_)))|refine Zac rfl (Zab (Zaa (id:=7) rfl ?_))|refine Zab (Zac rfl (Zaa (id:=7) rfl ?_))|refine Zac rfl (Zaa (id:=7) rfl ?_)
   refine Zaf rfl (fun _=>rfl) rfl rfl ?_
   refine Zaf rfl (fun _=>rfl) rfl rfl ?_
   refine Zah ?_
   repeat (first|refine Zae ?_|refine Zad ?_)
   refine And.intro (fun h=>by first|(cases h;done)|exact(nf h h5).elim) (fun _=> ?_)
   cases hv:ZiL 5 [m]with
   |true=>
    repeat (first|refine Zag ?_|refine Zae ?_|refine Zad ?_)
    first|refine Zab (Zaa (id:=9) rfl ?_)|refine Zab (Zab (Zaa (id:=9) rfl ?_))|refine Zaa (id:=9) rfl ?_|refine Zab (Zac rfl (Zab (Zaa (id:=9) rfl ?_)))|refine Zab (Zac rfl (Zab (Zab (Zaa (id:=9) rfl ?_))))|refine Zac rfl (Zab (Zab (Zaa (id:=9) rfl ?_)))|refine Zac rfl (Zab (Zaa (id:=9) rfl ?_))|refine Zab (Zac rfl (Zaa (id:=9) rfl ?_))|refine Zac rfl (Zaa (id:=9) rfl ?_)
    refine Zaf rfl (fun _=>rfl) rfl rfl ?_
    refine Ztw rfl (fun _=>rfl) rfl rfl ?_
    refine Zau rfl (And.intro (show 0+1≤1 by decide) ((hV).mono ?_))
    rintro _ rfl
    refine Zam rfl rfl ?_
    refine Zaf rfl (fun _=>rfl) rfl rfl ?_
    refine Zai rfl rfl rfl hv rfl rfl ?_
    refine Zai rfl rfl rfl hv rfl rfl ?_
    refine Zai rfl rfl rfl hv rfl rfl ?_
    refine Zay rfl rfl rfl rfl rfl ?_
    refine Zay rfl rfl rfl rfl rfl ?_
    refine Zay rfl rfl rfl rfl rfl ?_
    refine Zay rfl rfl rfl rfl rfl ?_
    refine Zai rfl rfl rfl hv rfl rfl ?_
    refine ZaJ rfl rfl rfl hv rfl rfl rfl ?_
    refine Zaf rfl (fun _=>rfl) rfl rfl ?_
    refine Zah ?_
    repeat (first|refine Zae ?_|refine Zad ?_)
    rfl
   |false=>
    rcases hD with⟨h6,_⟩|⟨_,pss,hM,hw,hR⟩
    ·rw[hz]at h6;cases h6
    ·obtain⟨s1,s2,s3⟩:=ZuZ (n:=5) (pss:=pss) hv (by rw[←hM.txt];exact List.mem_cons_self)
     have hr: ∀ps∈pss,ps.length=pss.length:=fun ps h=>(hM.row ps h).trans hw
     have hfit:Zhr (det pss.length (mxQ pss))=true:=ZwD s1 fun i j hi hj=>by
      obtain⟨ps,g1,g2⟩:=Zn1 (i:=i) hr hi hj
      exact s3 ps g1 _ g2
     have hRD:=Zwf pss.length pss (by omega) rfl hr s3
     rw[←hM.txt]at hRD
     rw[Zpu hfit]at hR
     cases hR
     have hq:(Zbv (det pss.length (mxQ pss))==Zbv (det pss.length (mxQ pss)))=true:=by simp
     repeat (first|refine Zag ?_|refine Zae ?_|refine Zad ?_)
     first|refine Zab (Zaa (id:=9) rfl ?_)|refine Zab (Zab (Zaa (id:=9) rfl ?_))|refine Zaa (id:=9) rfl ?_|refine Zab (Zac rfl (Zab (Zaa (id:=9) rfl ?_)))|refine Zab (Zac rfl (Zab (Zab (Zaa (id:=9) rfl ?_))))|refine Zac rfl (Zab (Zab (Zaa (id:=9) rfl ?_)))|refine Zac rfl (Zab (Zaa (id:=9) rfl ?_))|refine Zab (Zac rfl (Zaa (id:=9) rfl ?_))|refine Zac rfl (Zaa (id:=9) rfl ?_)
     refine Zaf rfl (fun _=>rfl) rfl rfl ?_
     refine Ztw rfl (fun _=>rfl) rfl rfl ?_
     refine Zau rfl (And.intro (show 0+1≤1 by decide) ((hV).mono ?_))
     rintro _ rfl
     refine Zam rfl rfl ?_
     refine Zaf rfl (fun _=>rfl) rfl rfl ?_
     refine Zaj rfl rfl rfl hv (fun _=>rfl) rfl rfl ?_
     refine Zaj rfl rfl rfl hv (fun _=>rfl) rfl rfl ?_
     refine Zaj rfl rfl rfl hv (fun _=>rfl) rfl rfl ?_
     refine Zaj rfl rfl rfl rfl (fun _=>rfl) rfl rfl ?_
     refine Zaj rfl rfl rfl rfl (fun _=>rfl) rfl rfl ?_
     refine Za6 rfl rfl rfl rfl ((hRD).mono ?_)
     rintro _ rfl
     refine Zam rfl rfl ?_
     refine Zaj rfl rfl rfl rfl (fun _=>rfl) rfl rfl ?_
     refine ZcI rfl rfl rfl hv rfl rfl rfl rfl rfl rfl ?_
     refine ZaC rfl rfl rfl hv rfl rfl rfl ?_
     refine Zaf rfl (fun _=>rfl) rfl rfl ?_
     refine Zah ?_
     repeat (first|refine Zae ?_|refine Zad ?_)
     exact congrArg (fun x=>SV.v .b x) hq
end Go.Proofs.YtdnodlkdndfplaaGreatDoor
