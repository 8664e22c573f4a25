/-
 The law TopEnergy: the last loop, the whole.
-/
import Derived.Test.YtkhpbclcfldhmaaGreatDoorTe
set_option linter.constructorNameAsVariable false
set_option linter.unusedSimpArgs false
set_option linter.unusedVariables false
namespace Go.Proofs.YtkhpbclcfldhmaaGreatDoor
open Go.Am Go.Tx Ne Dv Go.Lib
set_option maxRecDepth 100000
def exc (l:List W5):Int:=(l.map fun a=>a.2.2.1-a.2.2.2.1).sum
theorem Zu3: ∀l:List W5,exc l=sup l-(dmd l).sum
 | []=>rfl
 |a::r=>by
  have h:=Zu3 r
  rw[exc,sup,dmd]at h⊢
  rw[List.map_cons,List.sum_cons,List.map_cons,List.sum_cons,List.map_cons,List.sum_cons,h]
  omega
theorem Ztn {l:List W5} {i:Nat} {x:W5} (h:l[i]? =some x):exc (l.take (i+1))=exc (l.take i)+(x.2.2.1-x.2.2.2.1):=by
 rw[exc,ZdV h,List.map_append,List.sum_append,exc]
 simp
theorem ZzS:(!(ZcH (Rat.divInt (105-100) 10)==[49,47,50]))=false:=by
 have h1:(Rat.divInt (105-100) 10).num=1:=by decide+kernel
 have h2:(Rat.divInt (105-100) 10).den=2:=by decide+kernel
 have e:ZcH (Rat.divInt (105-100) 10)=[49,47,50]:=by
  rw[ZcH,h1,h2,ZdB]
  have d1:decDigits (1:Int).natAbs=[49]:=decDigits_one (by decide)
  have d2:decDigits 2=[50]:=decDigits_one (by decide)
  rw[d1,d2]
  rfl
 rw[e]
 rfl
theorem ZwF (t n:Int) (h:(t+n).natAbs<1000000000):ZtF ((t:Rat)+(n:Rat))=(ZcH ((t+n:Int):Rat),0):=by
 have e:(t:Rat)+(n:Rat)=((t+n:Int):Rat):=(Rat.intCast_add t n).symm
 rw[e]
 exact Zps (Zd2 h)
theorem Zqp (t:Int):Rat.divInt t 1=(t:Rat):=by
 obtain⟨e1,e2⟩:=Zez (n:=t) (d:=1) (by decide)
 rw[Int.gcd_one,Int.natCast_one,Int.ediv_one]at e1 e2
 exact Rat.ext e1 (by show(Rat.divInt t 1).den=1;omega)
def zL3 (s d t:Int) (N k:Nat):TM:=[(14, .v IC s),(15, .v IC d),(22, .v .s (ZcH (t:Rat))),(172, .ref 0 0 N none),(173,nt N),(174,nt k)]
set_option maxHeartbeats 16000000 in
theorem ZnH (n:Ne.Net) (pw ine:List Int) (hz0:Zdw n):PureOK Tryz.prog Zao 3 [.agg (ZgL n), .v (.l IC) pw, .v (.l IC) ine] (fun V=>V= .v .b true):=by
 refine Zae Zah Tryz.func3 ?_
 have hS0:=Zpa 10 105 100 (by decide) (by decide) (by decide)
 have hU:(0:Int)≤(if(4:Int)<(n.gens.length:Int)then(4:Int)else(n.gens.length:Int))∧(if(4:Int)<(n.gens.length:Int)then(4:Int)else(n.gens.length:Int))≤((n.gens.length:Nat):Int):=by split<;>omega
 have hV:(0:Int)≤(if(4:Int)<(n.loads.length:Int)then(4:Int)else(n.loads.length:Int))∧(if(4:Int)<(n.loads.length:Int)then(4:Int)else(n.loads.length:Int))≤((n.loads.length:Nat):Int):=by split<;>omega
 refine Zag ?_
 refine Zbq ?_
 refine Zab ?_
 refine Zaf ?_
 refine Zag ?_
 refine Zab ?_
 refine Zad rfl ((hS0).mono ?_)
 rintro _ rfl
 refine Zaa rfl rfl ?_
 iterate 3 refine Zab ?_
 refine Zbq ?_
 refine Zad rfl (Zax rfl rfl rfl rfl rfl rfl rfl rfl ?_)
 refine Zau rfl ?_
 refine Zab ?_
 refine Zaf ?_
 refine Zag ?_
 iterate 3 refine Zab ?_
 refine Zac rfl ?_
 refine Zam rfl rfl rfl rfl (fun _=>rfl) rfl rfl rfl ?_
 refine Zac rfl ?_
 refine Zat rfl ?_
 refine Zaf ?_
 refine brF ZzS ?_
 refine Zz0 ?_
 refine Zg4 rfl rfl (opv (fun _=>rfl) rfl rfl ?_)
 refine Zg4 rfl rfl (opc (fun _=>rfl) rfl rfl rfl ?_)
 refine Zg4 rfl rfl (opv (fun _=>rfl) rfl rfl ?_)
 refine Zg4 rfl rfl (opc (fun _=>rfl) rfl rfl rfl ?_)
 refine Zg4 rfl rfl (opv (fun _=>rfl) rfl rfl ?_)
 refine Zg4 rfl rfl (opv (fun _=>rfl) rfl rfl ?_)
 refine Zg4 rfl rfl (opc (fun _=>rfl) hU rfl rfl ?_)
 refine Zg4 rfl rfl (opv (fun _=>rfl) rfl rfl ?_)
 refine Zg4 rfl rfl (opc (fun _=>rfl) rfl rfl rfl ?_)
 refine Zg4 rfl rfl (opv (fun _=>rfl) rfl rfl ?_)
 refine Zg4 rfl rfl (opc (fun _=>rfl) rfl rfl rfl ?_)
 refine Zve rfl rfl rfl (opv (fun _=>rfl) rfl rfl ?_)
 refine Zve rfl rfl rfl (opv (fun _=>rfl) rfl rfl ?_)
 refine ZxE rfl rfl rfl (opc (fun _=>rfl) hV rfl rfl ?_)
 refine Zg4 rfl rfl (opv (fun _=>rfl) rfl rfl ?_)
 refine Zxy rfl rfl (Zax rfl rfl rfl rfl rfl rfl rfl rfl ?_)
 refine Zau rfl ?_
 refine Zg4 rfl rfl (opv (fun _=>rfl) rfl rfl ?_)
 refine Zxy rfl rfl (Zax rfl rfl rfl rfl rfl rfl rfl rfl ?_)
 refine Zau rfl ?_
 refine ZzQ ?_
 have hz:=ZpK hz0
 obtain⟨m,hm⟩: ∃m,ZiX n=m:=⟨_,rfl⟩
 cases h0:decide (ZgW (ZiX n)=0)with
 |false=>
  have hn:(!decide (ZgW (ZiX n)=0))=true:=by rw[h0];rfl
  have hO:=Zzq (ZiX n) hz hn
  have hP:=Ztg (ZiX n) hz hn
  have ht:decide (ZgW (ZiX n)=ZgW (ZiX n))=true:=decide_eq_true rfl
  refine Zag ?_
  refine Zak rfl (fun _=>rfl) rfl rfl rfl ?_
  refine Zad rfl ((hO).mono ?_)
  rintro _ rfl
  refine Zaa rfl rfl ?_
  iterate 5 refine Zab ?_
  refine Zaf ?_
  refine Zag ?_
  refine Zak rfl (fun _=>rfl) rfl rfl rfl ?_
  refine Zad rfl ((hP).mono ?_)
  rintro _ rfl
  refine Zaa rfl rfl ?_
  iterate 5 refine Zab ?_
  refine Zaf ?_
  refine Zag ?_
  iterate 2 refine Zab ?_
  refine Zaf ?_
  refine brT hn ?_
  refine Zag ?_
  iterate 4 refine Zab ?_
  refine Zac ht ?_
  refine Zac ht ?_
  refine Zac ht ?_
  refine ZaK ht ?_
  refine Zab ?_
  refine Zaf ?_
  rfl
 |true=>
  have e0:=of_decide_eq_true h0
  have hf:=Zno e0
  have hO:=Zzb (ZiX n) hz e0
  have hP:=Zuf (ZiX n) hz e0
  obtain⟨b1,_⟩:=Zbl hf
  have hmm:=(Zd5 (ZiX n)).2
  have hnn:=(Ziw (ZiX n)).2
  have hpl:(!decide (((ZbF (ZiX n)).length:Int)=((ZiX n).nodes.length:Int)))=false:=by rw[Zie];simp
  refine Zag ?_
  refine Zak rfl (fun _=>rfl) rfl rfl rfl ?_
  refine Zad rfl ((hO).mono ?_)
  rintro _ ⟨S,rfl,hS⟩
  refine Zaa rfl rfl ?_
  iterate 5 refine Zab ?_
  refine Zaf ?_
  refine Zag ?_
  refine Zak rfl (fun _=>rfl) rfl rfl rfl ?_
  refine Zad rfl ((hP).mono ?_)
  rintro _ rfl
  refine Zaa rfl rfl ?_
  iterate 5 refine Zab ?_
  refine Zaf ?_
  refine Zag ?_
  iterate 2 refine Zab ?_
  refine Zaf ?_
  refine brF rfl ?_
  refine Zag ?_
  iterate 3 refine Zab ?_
  refine Zac rfl ?_
  refine Zac rfl ?_
  refine Zac rfl ?_
  refine Zam rfl rfl rfl rfl (fun _=>rfl) rfl rfl rfl ?_
  refine Zac rfl ?_
  refine Zac rfl ?_
  refine Zat rfl ?_
  refine Zaf ?_
  refine brF hpl ?_
  have hmk:(0:Int)≤(S.length:Int)∧(S.length:Int)≤(S.length:Int)∧(48:Int)*(S.length:Int)≤281474976710656∧(S.length:Int)<9223372036854775808:=by rw[hS.1];omega
  have k1:=Zy5 (ZiX n) hf S hS pw ine
  obtain⟨s1,s2,s3⟩:=hS
  refine Zag ?_
  iterate 2 refine Zab ?_
  refine Zad rfl (And.intro hmk ?_)
  refine Zaa rfl rfl ?_
  refine Zab ?_
  refine Zaf ?_
  refine Zag ?_
  iterate 2 refine Zab ?_
  refine Zaf ?_
  refine Zag ?_
  iterate 3 refine Zab ?_
  refine Zaf ?_
  refine(k1.ent ?_).through ?_
  ·exact ZaI [0,2] ⟨rfl,rfl,congrArg (fun z=>some (SM.row WC (List.replicate z zW) true)) ((Int.toNat_natCast _).trans s1),rfl,trivial⟩ (by decide) ⟨rfl,ZaA,rfl,ZaA,rfl,ZaZ (by show 0<2;omega),rfl,ZaA,congrArg (fun z=>some (SV.ref 2 0 z none)) ((Int.toNat_natCast _).trans s1),ZaY (by show 1<2;omega),rfl,ZaA,rfl,ZaA,rfl,ZaA,congrArg (fun z:Nat=>some (nt z)) s1,ZaA,rfl,ZaA,trivial⟩
  rintro _ tm hp ⟨rfl,A0,a1,a2,a3,hE⟩
  refine⟨_,_,hE, ?_⟩
  show wp _ _ _ _ _ _ _ _ _
  have k2:=ZyX (ZiX n) hf pw (dS S) _ A0 a1 a2 a3
  refine Zag ?_
  refine Zab ?_
  refine Zak rfl (fun _=>rfl) rfl rfl rfl ?_
  iterate 2 refine Zab ?_
  refine Zaf ?_
  refine(k2.ent (Zaq ⟨rfl,rfl,rfl,rfl,rfl,rfl,rfl,rfl,rfl,trivial⟩)).through ?_
  rintro _ tm hp ⟨rfl,A,c1,c2,c3,c4,c5,hE⟩
  refine⟨_,_,hE, ?_⟩
  show wp _ _ _ _ _ _ _ _ _
  have exA:exc A=sup A-dS S:=by rw[Zu3,c3,dS]
  refine Zag ?_
  refine Zab ?_
  refine Zaf ?_
  refine Zag ?_
  iterate 3 refine Zab ?_
  refine Zaf ?_
  refine Zaz Zah rfl (fun(a:Nat×Int)=>zL3 (sup A) (dS S) a.2 (ZbG (ZiX n)) a.1) (fun _=> [.row WC A true]) (fun a=>a.1≤ZbG (ZiX n)∧a.2=exc (A.take a.1)∧ -2000000*(a.1:Int)≤a.2∧a.2≤2000000*(a.1:Int)) (fun a=>ZbG (ZiX n)-a.1) ?_ (0,0) ⟨Nat.zero_le _,rfl,Int.le_refl _,Int.le_refl _⟩ ?_
  case refine_2=>exact ZaI [1] ⟨rfl,rfl,trivial⟩ (by decide) ⟨rfl,ZaA,rfl,ZaA,congrArg (fun z=>some (SV.v .s z)) Zer.symm,ZaA,rfl,ZaY (by show 0<1;omega),rfl,ZaA,rfl,ZaA,trivial⟩
  rintro⟨k,t⟩ ⟨hk,ht,ht0,ht1⟩
  simp only at hk ht ht0 ht1
  cases h1:decide ((k:Int)<(ZbG (ZiX n):Int))with
  |false=>
   have e:A.take k=A:=List.take_of_length_le (by have:=of_decide_eq_false h1;omega)
   rw[e,exA]at ht
   have hw:IntKind.i64.wrap (sup A-dS S)=t:=by rw[←ht];exact Zar (by omega) (by omega)
   have hQ:=Zzp t 1 (by omega) (by omega) (by decide) (by decide)
   have eo:ofR t 1=(ZcH (t:Rat),0):=by
    have e1:Rat.divInt t 1=(t:Rat):=Zqp t
    rw[ofR]
    show ZtF (Rat.divInt t 1)=_
    rw[e1]
    exact Zps (Zd2 (by omega))
   rw[eo]at hQ
   rw[←hw]at hQ
   have hs:(ZcH (t:Rat)==ZcH ((IntKind.i64.wrap (sup A-dS S):Int):Rat))=true:=by rw[hw];exact beq_self_eq_true _
   refine Zag ?_
   refine Zab ?_
   refine Zaf ?_
   refine brF h1 ?_
   show wp _ _ _ _ _ _ _ _ _
   refine Zag ?_
   iterate 3 refine Zab ?_
   refine Zad rfl ((hQ).mono ?_)
   rintro _ rfl
   refine Zaa rfl rfl ?_
   iterate 5 refine Zab ?_
   refine Zaf ?_
   refine Zag ?_
   iterate 3 refine Zab ?_
   refine Zac rfl ?_
   refine Zac rfl ?_
   refine Zac rfl ?_
   refine ZaK rfl ?_
   refine Zab ?_
   refine Zaf ?_
   exact congrArg (fun z=>SV.v .b z) hs
  |true=>
   have hlt:k<ZbG (ZiX n):=by have:=of_decide_eq_true h1;omega
   have hka:k<A.length:=by omega
   have hc:=cin hlt
   have gA:=List.getElem?_eq_getElem hka
   have hy0:=c2 _ (List.getElem_mem hka)
   obtain⟨⟨I,Z,Su,De,fr⟩,hy⟩: ∃y,A[k]=y:=⟨_,rfl⟩
   rw[hy]at hy0 gA
   obtain⟨y1,y2,y3,y4,y5⟩:=hy0
   simp only at y1 y2 y3 y4 y5
   subst y2
   subst y5
   have gs:A[0+(k:Int).toNat]? =some (I,0,Su,De,[48]):=by rw[Int.toNat_natCast,Nat.zero_add];exact gA
   have w1:=congrArg (fun x=>some (SV.v (.i .i64) x)) (Zc6 (k:=k) (by omega))
   refine Zag ?_
   refine Zab ?_
   refine Zaf ?_
   refine brT h1 ?_
   refine Zag ?_
   refine Zad rfl (ZaM rfl rfl rfl rfl rfl rfl rfl hc ?_)
   refine Zaa rfl rfl ?_
   refine Zad rfl (Zbb rfl rfl rfl gs rfl ?_)
   refine Zaa rfl rfl ?_
   refine Zbq ?_
   refine Zad rfl (Zax rfl rfl rfl rfl rfl rfl rfl rfl ?_)
   refine Zau rfl ?_
   refine Zaf ?_
   cases h2:decide (100000<De)with
   |true=>
    have hB:=of_decide_eq_true h2
    have hSt:=ZtE I Su De (by omega) (by omega) hB
    have r48:ZbK [48]=0:=by rw[←Zer];exact Zcj Zdh
    have eM:ZpT De=4:=by rw[ZpT,h2]
    have hC:=Zgm I Su De [48] (by omega) (by omega) y4.1 r48 (by decide)
    rw[eM]at hC
    refine Zag ?_
    refine Zak rfl (fun _=>rfl) rfl rfl rfl ?_
    refine Zad rfl ((hSt).mono ?_)
    rintro _ rfl
    refine Zaa rfl rfl ?_
    iterate 3 refine Zab ?_
    refine Zbq ?_
    refine Zad rfl (Zax rfl rfl rfl rfl rfl rfl rfl rfl ?_)
    refine Zau rfl ?_
    refine Zab ?_
    refine Zaf ?_
    refine Zag ?_
    iterate 2 refine Zab ?_
    refine Zaf ?_
    refine brT rfl ?_
    refine Zag ?_
    refine Zak rfl (fun _=>rfl) rfl rfl rfl ?_
    refine Zad rfl ((hC).mono ?_)
    rintro _ rfl
    refine Zaa rfl rfl ?_
    iterate 3 refine Zab ?_
    refine Zaf ?_
    refine Za9 ?_
    repeat (first|refine ZaT ?_|refine ZaS ?_|refine ZaH ?_)
    rfl
   |false=>
    have hB:=of_decide_eq_false h2
    have hSt:=Zpa I Su De (by omega) (by omega) (by omega)
    have hMo:=ZvE I Su De (by omega) (by omega) (by omega)
    have hA:=Zvz (t:Rat) ((Su-De:Int):Rat) (Zd2 (by omega)) (Zd2 (by omega))
    rw[ZwF t (Su-De) (by omega)]at hA
    refine Zag ?_
    refine Zak rfl (fun _=>rfl) rfl rfl rfl ?_
    refine Zad rfl ((hSt).mono ?_)
    rintro _ rfl
    refine Zaa rfl rfl ?_
    iterate 3 refine Zab ?_
    refine Zbq ?_
    refine Zad rfl (Zax rfl rfl rfl rfl rfl rfl rfl rfl ?_)
    refine Zau rfl ?_
    refine Zab ?_
    refine Zaf ?_
    refine Zag ?_
    iterate 2 refine Zab ?_
    refine Zaf ?_
    refine brF rfl ?_
    refine Zag ?_
    refine Zak rfl (fun _=>rfl) rfl rfl rfl ?_
    refine Zad rfl ((hMo).mono ?_)
    rintro _ rfl
    refine Zaa rfl rfl ?_
    iterate 5 refine Zab ?_
    refine Zaf ?_
    refine Zag ?_
    iterate 2 refine Zab ?_
    refine Zaf ?_
    refine brF rfl ?_
    refine Zag ?_
    iterate 2 refine Zab ?_
    refine Zad rfl ((hA).mono ?_)
    rintro _ rfl
    refine Zaa rfl rfl ?_
    iterate 5 refine Zab ?_
    refine Zaf ?_
    refine Zag ?_
    iterate 2 refine Zab ?_
    refine Zaf ?_
    refine brF rfl ?_
    refine Zag ?_
    iterate 2 refine Zab ?_
    refine Zaf ?_
    refine⟨(k+1,t+(Su-De)),⟨hlt,by rw[Ztn gA,←ht],by show-2000000*((k+1:Nat):Int)≤t+(Su-De);omega,by show t+(Su-De)≤2000000*((k+1:Nat):Int);omega⟩,by show ZbG (ZiX n)-(k+1)<ZbG (ZiX n)-k;omega, ?_⟩
    exact ZaI [0] ⟨rfl,rfl,trivial⟩ (by decide) ⟨rfl,ZaA,rfl,ZaA,rfl,ZaA,rfl,ZaY (by show 0<1;omega),rfl,ZaA,w1,ZaA,trivial⟩
end Go.Proofs.YtkhpbclcfldhmaaGreatDoor
