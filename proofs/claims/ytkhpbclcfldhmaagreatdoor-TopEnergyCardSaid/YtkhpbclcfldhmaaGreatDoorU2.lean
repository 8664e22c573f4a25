/-
 Is a text a name?
-/
import Derived.Test.YtkhpbclcfldhmaaGreatDoorU1
set_option linter.constructorNameAsVariable false
set_option linter.unusedSimpArgs false
set_option linter.unusedVariables false
namespace Go.Proofs.YtkhpbclcfldhmaaGreatDoor
open Go.Am Go.Tx Ne
set_option maxRecDepth 100000
def Zjl (i:Nat) (c:UInt8):Bool:=Zu2 c||(decide (0<i)&&Zso c)
theorem Zec (i:Nat) (c:UInt8):Zjl i c=((decide ((c.toNat:Int)≥(65:Int))&&decide ((c.toNat:Int)≤(90:Int)))||(decide ((i:Int)>(0:Int))&&(decide ((c.toNat:Int)≥(48:Int))&&decide ((c.toNat:Int)≤(57:Int))))):=by
 unfold Zjl Zu2 Zso
 rw[Bool.eq_iff_iff]
 simp only[Bool.or_eq_true,Bool.and_eq_true,decide_eq_true_eq]
 omega
theorem Zty {s:Txt} (h: ∀j (hj:j<s.length),Zjl j s[j]=true):ZbJ s=(decide (1≤s.length)&&decide (s.length≤8)):=by
 cases s with
 |nil=>rfl
 |cons c r=>
  have h0:=h 0 (Nat.succ_pos _)
  have h1:Zu2 c=true:=by simpa[Zjl]using h0
  have h2:(r.all fun c=>Zu2 c||Zso c)=true:=by
   rw[List.all_eq_true]
   intro x hx
   obtain⟨j,hj,rfl⟩:=List.getElem_of_mem hx
   have:=h (j+1) (Nat.succ_lt_succ hj)
   simpa[Zjl]using this
  rw[ZbJ,h1,h2,Bool.and_true,Bool.and_true,List.length_cons,Bool.eq_iff_iff]
  simp
theorem Zuq {s:Txt} {j:Nat} (hj:j<s.length) (h:Zjl j s[j]=false):ZbJ s=false:=by
 cases s with
 |nil=>exact absurd hj (Nat.not_lt_zero j)
 |cons c r=>
  rw[ZbJ]
  cases j with
  |zero=>
   have h1:Zu2 c=false:=by simpa[Zjl]using h
   rw[h1];simp
  |succ j=>
   have h1:(r.all fun c=>Zu2 c||Zso c)=false:=by
    rw[List.all_eq_false]
    exact⟨r[j]'(Nat.lt_of_succ_lt_succ hj),List.getElem_mem _,by simpa[Zjl]using h⟩
   rw[h1];simp
theorem Zub {s:Txt} {i:Nat} (h:i<s.length):(Zdj s)[(i:Int).toNat]? =some ((s[i].toNat:Nat):Int):=by
 rw[Int.toNat_natCast,Zdj,List.getElem?_map,List.getElem?_eq_getElem h];rfl
set_option maxHeartbeats 16000000 in
theorem Zu8 (s:Txt) (hs:s.length≤9223372036854775806):PureOK Tryz.prog Zao 49 [.v .s s] (fun V=>V= .v .b (ZbJ s)):=by
 refine Zae Zah Tryz.func49 ?_
 have hbl:(Zdj s).length=s.length:=List.length_map _
 refine Zag ?_
 refine Zab ?_
 refine Zaf ?_
 refine Zag ?_
 iterate 4 refine Zab ?_
 refine Zaf ?_
 refine Zaz Zah rfl (fun(i:Nat)=> [(0, .v .s s),(6, .v (.l (.i .u8)) (Zdj s)),(7,nt s.length),(8,nt i)]) (fun _=> []) (fun i=>i≤s.length∧ ∀j (hj:j<s.length),j<i→Zjl j s[j]=true) (fun i=>s.length-i) ?_ 0 ⟨Nat.zero_le _,fun j _ h=>absurd h (Nat.not_lt_zero j)⟩ (Zaq ⟨rfl,rfl,congrArg (fun x=>some (SV.v (.i .i64) x)) (congrArg Int.ofNat hbl),rfl,trivial⟩)
 rintro i ⟨hi,hok⟩
 cases h0:decide ((i:Int)<(s.length:Int))with
 |false=>
  have e:i=s.length:=by have:=of_decide_eq_false h0;omega
  have hn:=Zty fun j hj=>hok j hj (by omega)
  refine Zag ?_
  refine Zab ?_
  refine Zaf ?_
  refine brF h0 ?_
  cases g1:decide ((s.length:Int)≥(1:Int))with
  |true=>
   refine Zag ?_
   iterate 4 refine Zab ?_
   refine Zac g1 ?_
   refine Zac g1 ?_
   refine Zac g1 ?_
   refine ZaK g1 ?_
   refine Zab ?_
   refine Zaf ?_
   refine congrArg (fun x=>SV.v .b x) ?_
   rw[hn,Bool.eq_iff_iff]
   have:=of_decide_eq_true g1
   simp only[Bool.and_eq_true,decide_eq_true_eq]
   omega
  |false=>
   refine Zag ?_
   iterate 4 refine Zab ?_
   refine Zap g1 ?_
   refine Zap g1 ?_
   refine Zap g1 ?_
   refine Zat g1 ?_
   refine Zab ?_
   refine Zaf ?_
   refine congrArg (fun x=>SV.v .b x) ?_
   rw[hn,Bool.eq_iff_iff]
   have:=of_decide_eq_false g1
   simp only[Bool.and_eq_true,decide_eq_true_eq]
   constructor
   ·intro h;cases h
   ·intro h;omega
 |true=>
  have hlt:i<s.length:=by have:=of_decide_eq_true h0;omega
  have gx:=Zub hlt
  have wi:IntKind.i64.wrap ((i:Int)+1)=((i+1:Nat):Int):=Zar (by omega) (by omega)
  have okN:Zjl i s[i]=true→i+1≤s.length∧ ∀j (hj:j<s.length),j<i+1→Zjl j s[j]=true:=fun h=>⟨hlt,fun j hj hji=>by
   by_cases e:j=i
   ·subst e;exact h
   ·exact hok j hj (by omega)⟩
  have noN:Zjl i s[i]=false→ZbJ s=false:=Zuq hlt
  obtain⟨c,ec⟩: ∃x,s[i]=x:=⟨_,rfl⟩
  rw[ec]at gx okN noN
  refine Zag ?_
  refine Zab ?_
  refine Zaf ?_
  refine brT h0 ?_
  refine Zag ?_
  refine Zab ?_
  refine Zb4 rfl (fun _=>rfl) (Int.natCast_nonneg i) gx rfl rfl ?_
  iterate 3 refine Zab ?_
  refine Zaf ?_
  cases h1:decide ((c.toNat:Int)≥(65:Int))with
  |true=>
   cases h2:decide ((c.toNat:Int)≤(90:Int))with
   |true=>
    refine Zag ?_
    iterate 3 refine Zab ?_
    refine Zac h1 ?_
    refine Zac h1 ?_
    refine ZaK h1 ?_
    refine Zab ?_
    refine Zap h2 ?_
    refine Zap h2 ?_
    refine Zap h2 ?_
    refine ZhT ?_
    refine ZhT ?_
    refine Zap h2 ?_
    refine Zap h2 ?_
    refine ZhT ?_
    refine ZhT ?_
    refine Zap h2 ?_
    refine ZaK h2 ?_
    refine Zab ?_
    refine Zaf ?_
    refine brF (show(!decide ((c.toNat:Int)≤(90:Int)))=false by rw[h2];rfl) ?_
    have hc:Zjl i c=true:=by rw[Zec,h1,h2];simp
    refine Zag ?_
    iterate 2 refine Zab ?_
    refine Zaf ?_
    refine⟨i+1,okN hc,by show s.length-(i+1)<s.length-i;omega, ?_⟩
    exact Zaq ⟨rfl,rfl,rfl,congrArg (fun x=>some (SV.v (.i .i64) x)) wi,trivial⟩
   |false=>
    cases h3:decide ((i:Int)>(0:Int))with
    |true=>
     cases h4:decide ((c.toNat:Int)≥(48:Int))with
     |true=>
      cases h5:decide ((c.toNat:Int)≤(57:Int))with
      |true=>
       refine Zag ?_
       iterate 3 refine Zab ?_
       refine Zac h1 ?_
       refine Zac h1 ?_
       refine ZaK h1 ?_
       refine Zab ?_
       refine Zac h2 ?_
       refine Zac h2 ?_
       refine Zac h2 ?_
       refine Zac h3 ?_
       refine Zac h3 ?_
       refine ZbE rfl rfl rfl h2 rfl rfl h3 rfl rfl rfl ?_
       refine Zac h2 ?_
       refine Zac h4 ?_
       refine Zac h4 ?_
       refine ZbE rfl rfl rfl h2 rfl rfl h4 rfl rfl rfl ?_
       refine Zat h2 ?_
       refine Zab ?_
       refine Zaf ?_
       refine brF (show(!decide ((c.toNat:Int)≤(57:Int)))=false by rw[h5];rfl) ?_
       have hc:Zjl i c=true:=by rw[Zec,h1,h2,h3,h4,h5];simp
       refine Zag ?_
       iterate 2 refine Zab ?_
       refine Zaf ?_
       refine⟨i+1,okN hc,by show s.length-(i+1)<s.length-i;omega, ?_⟩
       exact Zaq ⟨rfl,rfl,rfl,congrArg (fun x=>some (SV.v (.i .i64) x)) wi,trivial⟩
      |false=>
       refine Zag ?_
       iterate 3 refine Zab ?_
       refine Zac h1 ?_
       refine Zac h1 ?_
       refine ZaK h1 ?_
       refine Zab ?_
       refine Zac h2 ?_
       refine Zac h2 ?_
       refine Zac h2 ?_
       refine Zac h3 ?_
       refine Zac h3 ?_
       refine ZbE rfl rfl rfl h2 rfl rfl h3 rfl rfl rfl ?_
       refine Zac h2 ?_
       refine Zac h4 ?_
       refine Zac h4 ?_
       refine ZbE rfl rfl rfl h2 rfl rfl h4 rfl rfl rfl ?_
       refine Zat h2 ?_
       refine Zab ?_
       refine Zaf ?_
       refine brT (show(!decide ((c.toNat:Int)≤(57:Int)))=true by rw[h5];rfl) ?_
       have hc:Zjl i c=false:=by rw[Zec,h1,h2,h3,h4,h5];simp
       refine Zag ?_
       refine Zab ?_
       refine Zaf ?_
       refine Za9 ?_
       repeat (first|refine ZaT ?_|refine ZaS ?_|refine ZaH ?_)
       exact congrArg (fun x=>SV.v .b x) (noN hc).symm
     |false=>
      refine Zag ?_
      iterate 3 refine Zab ?_
      refine Zac h1 ?_
      refine Zac h1 ?_
      refine ZaK h1 ?_
      refine Zab ?_
      refine Zac h2 ?_
      refine Zac h2 ?_
      refine Zac h2 ?_
      refine Zac h3 ?_
      refine Zac h3 ?_
      refine ZbE rfl rfl rfl h2 rfl rfl h3 rfl rfl rfl ?_
      refine Zac h2 ?_
      refine Zap h4 ?_
      refine Zap h4 ?_
      refine ZcS rfl rfl rfl h2 rfl rfl h4 rfl rfl rfl ?_
      refine Zat h2 ?_
      refine Zab ?_
      refine Zaf ?_
      refine brT (show(!decide ((c.toNat:Int)≥(48:Int)))=true by rw[h4];rfl) ?_
      have hc:Zjl i c=false:=by rw[Zec,h1,h2,h3,h4];simp
      refine Zag ?_
      refine Zab ?_
      refine Zaf ?_
      refine Za9 ?_
      repeat (first|refine ZaT ?_|refine ZaS ?_|refine ZaH ?_)
      exact congrArg (fun x=>SV.v .b x) (noN hc).symm
    |false=>
     refine Zag ?_
     iterate 3 refine Zab ?_
     refine Zac h1 ?_
     refine Zac h1 ?_
     refine ZaK h1 ?_
     refine Zab ?_
     refine Zac h2 ?_
     refine Zac h2 ?_
     refine Zac h2 ?_
     refine Zap h3 ?_
     refine Zap h3 ?_
     refine ZcS rfl rfl rfl h2 rfl rfl h3 rfl rfl rfl ?_
     refine Zac h2 ?_
     refine Zap rfl ?_
     refine Zap rfl ?_
     refine ZcS rfl rfl rfl h2 rfl rfl rfl rfl rfl rfl ?_
     refine Zat h2 ?_
     refine Zab ?_
     refine Zaf ?_
     refine brT (show(!decide ((i:Int)>(0:Int)))=true by rw[h3];rfl) ?_
     have hc:Zjl i c=false:=by rw[Zec,h1,h2,h3];simp
     refine Zag ?_
     refine Zab ?_
     refine Zaf ?_
     refine Za9 ?_
     repeat (first|refine ZaT ?_|refine ZaS ?_|refine ZaH ?_)
     exact congrArg (fun x=>SV.v .b x) (noN hc).symm
  |false=>
   cases h3:decide ((i:Int)>(0:Int))with
   |true=>
    cases h4:decide ((c.toNat:Int)≥(48:Int))with
    |true=>
     cases h5:decide ((c.toNat:Int)≤(57:Int))with
     |true=>
      refine Zag ?_
      iterate 3 refine Zab ?_
      refine Zap h1 ?_
      refine Zap h1 ?_
      refine Zat h1 ?_
      refine Zab ?_
      refine Zac rfl ?_
      refine Zac rfl ?_
      refine Zac rfl ?_
      refine Zac h3 ?_
      refine Zac h3 ?_
      refine ZbE rfl rfl rfl rfl rfl rfl h3 rfl rfl rfl ?_
      refine Zac rfl ?_
      refine Zac h4 ?_
      refine Zac h4 ?_
      refine ZbE rfl rfl rfl rfl rfl rfl h4 rfl rfl rfl ?_
      refine Zat rfl ?_
      refine Zab ?_
      refine Zaf ?_
      refine brF (show(!decide ((c.toNat:Int)≤(57:Int)))=false by rw[h5];rfl) ?_
      have hc:Zjl i c=true:=by rw[Zec,h1,h3,h4,h5];simp
      refine Zag ?_
      iterate 2 refine Zab ?_
      refine Zaf ?_
      refine⟨i+1,okN hc,by show s.length-(i+1)<s.length-i;omega, ?_⟩
      exact Zaq ⟨rfl,rfl,rfl,congrArg (fun x=>some (SV.v (.i .i64) x)) wi,trivial⟩
     |false=>
      refine Zag ?_
      iterate 3 refine Zab ?_
      refine Zap h1 ?_
      refine Zap h1 ?_
      refine Zat h1 ?_
      refine Zab ?_
      refine Zac rfl ?_
      refine Zac rfl ?_
      refine Zac rfl ?_
      refine Zac h3 ?_
      refine Zac h3 ?_
      refine ZbE rfl rfl rfl rfl rfl rfl h3 rfl rfl rfl ?_
      refine Zac rfl ?_
      refine Zac h4 ?_
      refine Zac h4 ?_
      refine ZbE rfl rfl rfl rfl rfl rfl h4 rfl rfl rfl ?_
      refine Zat rfl ?_
      refine Zab ?_
      refine Zaf ?_
      refine brT (show(!decide ((c.toNat:Int)≤(57:Int)))=true by rw[h5];rfl) ?_
      have hc:Zjl i c=false:=by rw[Zec,h1,h3,h4,h5];simp
      refine Zag ?_
      refine Zab ?_
      refine Zaf ?_
      refine Za9 ?_
      repeat (first|refine ZaT ?_|refine ZaS ?_|refine ZaH ?_)
      exact congrArg (fun x=>SV.v .b x) (noN hc).symm
    |false=>
     refine Zag ?_
     iterate 3 refine Zab ?_
     refine Zap h1 ?_
     refine Zap h1 ?_
     refine Zat h1 ?_
     refine Zab ?_
     refine Zac rfl ?_
     refine Zac rfl ?_
     refine Zac rfl ?_
     refine Zac h3 ?_
     refine Zac h3 ?_
     refine ZbE rfl rfl rfl rfl rfl rfl h3 rfl rfl rfl ?_
     refine Zac rfl ?_
     refine Zap h4 ?_
     refine Zap h4 ?_
     refine ZcS rfl rfl rfl rfl rfl rfl h4 rfl rfl rfl ?_
     refine Zat rfl ?_
     refine Zab ?_
     refine Zaf ?_
     refine brT (show(!decide ((c.toNat:Int)≥(48:Int)))=true by rw[h4];rfl) ?_
     have hc:Zjl i c=false:=by rw[Zec,h1,h3,h4];simp
     refine Zag ?_
     refine Zab ?_
     refine Zaf ?_
     refine Za9 ?_
     repeat (first|refine ZaT ?_|refine ZaS ?_|refine ZaH ?_)
     exact congrArg (fun x=>SV.v .b x) (noN hc).symm
   |false=>
    refine Zag ?_
    iterate 3 refine Zab ?_
    refine Zap h1 ?_
    refine Zap h1 ?_
    refine Zat h1 ?_
    refine Zab ?_
    refine Zac rfl ?_
    refine Zac rfl ?_
    refine Zac rfl ?_
    refine Zap h3 ?_
    refine Zap h3 ?_
    refine ZcS rfl rfl rfl rfl rfl rfl h3 rfl rfl rfl ?_
    refine Zac rfl ?_
    refine Zap rfl ?_
    refine Zap rfl ?_
    refine ZcS rfl rfl rfl rfl rfl rfl rfl rfl rfl rfl ?_
    refine Zat rfl ?_
    refine Zab ?_
    refine Zaf ?_
    refine brT (show(!decide ((i:Int)>(0:Int)))=true by rw[h3];rfl) ?_
    have hc:Zjl i c=false:=by rw[Zec,h1,h3];simp
    refine Zag ?_
    refine Zab ?_
    refine Zaf ?_
    refine Za9 ?_
    repeat (first|refine ZaT ?_|refine ZaS ?_|refine ZaH ?_)
    exact congrArg (fun x=>SV.v .b x) (noN hc).symm
end Go.Proofs.YtkhpbclcfldhmaaGreatDoor
