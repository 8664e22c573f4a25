/-
 Is a text a name?
-/
import Derived.Test.YtgmjnhiakpcpbaaGreatDoorU1
set_option linter.constructorNameAsVariable false
set_option linter.unusedSimpArgs false
set_option linter.unusedVariables false
namespace Go.Proofs.YtgmjnhiakpcpbaaGreatDoor
open Go.Am Go.Tx Ne
set_option maxRecDepth 100000
def ZhS (i:Nat) (c:UInt8):Bool:=Zj7 c||(decide (0<i)&&ZlB c)
def chR (c:UInt8):Bool:=Zj7 c||ZlB c
theorem Zdq (i:Nat) (c:UInt8):ZhS i c=((decide ((c.toNat:Int)≥(65:Int))&&decide ((c.toNat:Int)≤(90:Int)))||(decide ((i:Int)>(0:Int))&&(decide ((c.toNat:Int)≥(48:Int))&&decide ((c.toNat:Int)≤(57:Int))))):=by
 unfold ZhS Zj7 ZlB
 rw[Bool.eq_iff_iff]
 simp only[Bool.or_eq_true,Bool.and_eq_true,decide_eq_true_eq]
 omega
theorem ZhG (c:UInt8):chR c= !((decide ((c.toNat:Int)<(65:Int))||decide ((c.toNat:Int)>(90:Int)))&&(decide ((c.toNat:Int)<(48:Int))||decide ((c.toNat:Int)>(57:Int)))):=by
 unfold chR Zj7 ZlB
 rw[Bool.eq_iff_iff]
 simp only[Bool.or_eq_true,Bool.and_eq_true,decide_eq_true_eq,Bool.not_eq_true',Bool.and_eq_false_iff,Bool.or_eq_false_iff,decide_eq_false_iff_not]
 omega
theorem ZqO {s:Txt} (h: ∀j (hj:j<s.length),ZhS j s[j]=true):Za8 s=(decide (1≤s.length)&&decide (s.length≤8)):=by
 cases s with
 |nil=>rfl
 |cons c r=>
  have h0:=h 0 (Nat.succ_pos _)
  have h1:Zj7 c=true:=by simpa[ZhS]using h0
  have h2:(r.all fun c=>Zj7 c||ZlB c)=true:=by
   rw[List.all_eq_true]
   intro x hx
   obtain⟨j,hj,rfl⟩:=List.getElem_of_mem hx
   have:=h (j+1) (Nat.succ_lt_succ hj)
   simpa[ZhS]using this
  rw[Za8,h1,h2,Bool.and_true,Bool.and_true,List.length_cons,Bool.eq_iff_iff]
  simp
theorem Zrb {s:Txt} {j:Nat} (hj:j<s.length) (h:ZhS j s[j]=false):Za8 s=false:=by
 cases s with
 |nil=>exact absurd hj (Nat.not_lt_zero j)
 |cons c r=>
  rw[Za8]
  cases j with
  |zero=>
   have h1:Zj7 c=false:=by simpa[ZhS]using h
   rw[h1];simp
  |succ j=>
   have h1:(r.all fun c=>Zj7 c||ZlB c)=false:=by
    rw[List.all_eq_false]
    exact⟨r[j]'(Nat.lt_of_succ_lt_succ hj),List.getElem_mem _,by simpa[ZhS]using h⟩
   rw[h1];simp
theorem Zqn {s:Txt} {i:Nat} (h:i<s.length):(Zgm s)[(i:Int).toNat]? =some ((s[i].toNat:Nat):Int):=by
 rw[Int.toNat_natCast,Zgm,List.getElem?_map,List.getElem?_eq_getElem h];rfl
set_option maxHeartbeats 16000000 in
theorem ZrU (s:Txt) (hs:s.length≤9223372036854775806):PureOK Tryz.prog ZaO 77 [.v .s s] (fun V=>V= .v .b (Za8 s)):=by
 refine Zaz Zaw Tryz.func77 ?_
 have hbl:(Zgm s).length=s.length:=List.length_map _
 refine Zae ?_
 refine Zab ?_
 refine Zad ?_
 refine Zae ?_
 iterate 4 refine Zab ?_
 refine Zad ?_
 refine ZaH Zaw rfl (fun(i:Nat)=> [(0, .v .s s),(6, .v (.l (.i .u8)) (Zgm s)),(7,nt s.length),(8,nt i)]) (fun _=> []) (fun i=>i≤s.length∧ ∀j (hj:j<s.length),j<i→ZhS j s[j]=true) (fun i=>s.length-i) ?_ 0 ⟨Nat.zero_le _,fun j _ h=>absurd h (Nat.not_lt_zero j)⟩ (Zah ⟨rfl,rfl,congrArg (fun x=>some (SV.v (.i .i64) x)) (congrArg Int.ofNat hbl),rfl,trivial⟩)
 rintro i ⟨hi,hok⟩
 cases h0:decide ((i:Int)<(s.length:Int))with
 |false=>
  have e:i=s.length:=by have:=of_decide_eq_false h0;omega
  have hn:=ZqO fun j hj=>hok j hj (by omega)
  refine Zae ?_
  refine Zab ?_
  refine Zad ?_
  refine brF h0 ?_
  cases g1:decide ((s.length:Int)≥(1:Int))with
  |true=>
   refine Zae ?_
   iterate 4 refine Zab ?_
   refine Zaa g1 ?_
   refine Zaa g1 ?_
   refine Zaa g1 ?_
   refine Zaq g1 ?_
   refine Zab ?_
   refine Zad ?_
   refine congrArg (fun x=>SV.v .b x) ?_
   rw[hn,Bool.eq_iff_iff]
   have:=of_decide_eq_true g1
   simp only[Bool.and_eq_true,decide_eq_true_eq]
   omega
  |false=>
   refine Zae ?_
   iterate 4 refine Zab ?_
   refine Zag g1 ?_
   refine Zag g1 ?_
   refine Zag g1 ?_
   refine Zap g1 ?_
   refine Zab ?_
   refine Zad ?_
   refine congrArg (fun x=>SV.v .b x) ?_
   rw[hn,Bool.eq_iff_iff]
   have:=of_decide_eq_false g1
   simp only[Bool.and_eq_true,decide_eq_true_eq]
   constructor
   ·intro h;cases h
   ·intro h;omega
 |true=>
  have hlt:i<s.length:=by have:=of_decide_eq_true h0;omega
  have gx:=Zqn hlt
  have wi:IntKind.i64.wrap ((i:Int)+1)=((i+1:Nat):Int):=Zdf (by omega) (by omega)
  have okN:ZhS i s[i]=true→i+1≤s.length∧ ∀j (hj:j<s.length),j<i+1→ZhS j s[j]=true:=fun h=>⟨hlt,fun j hj hji=>by
   by_cases e:j=i
   ·subst e;exact h
   ·exact hok j hj (by omega)⟩
  have noN:ZhS i s[i]=false→Za8 s=false:=Zrb hlt
  obtain⟨c,ec⟩: ∃x,s[i]=x:=⟨_,rfl⟩
  rw[ec]at gx okN noN
  refine Zae ?_
  refine Zab ?_
  refine Zad ?_
  refine brT h0 ?_
  refine Zae ?_
  refine Zab ?_
  refine ZaY rfl (fun _=>rfl) (Int.natCast_nonneg i) gx rfl rfl ?_
  iterate 3 refine Zab ?_
  refine Zad ?_
  cases h1:decide ((c.toNat:Int)≥(65:Int))with
  |true=>
   cases h2:decide ((c.toNat:Int)≤(90:Int))with
   |true=>
    refine Zae ?_
    iterate 3 refine Zab ?_
    refine Zaa h1 ?_
    refine Zaa h1 ?_
    refine Zaq h1 ?_
    refine Zab ?_
    refine Zag h2 ?_
    refine Zag h2 ?_
    refine Zag h2 ?_
    refine Zgh ?_
    refine Zgh ?_
    refine Zag h2 ?_
    refine Zag h2 ?_
    refine Zgh ?_
    refine Zgh ?_
    refine Zag h2 ?_
    refine Zaq h2 ?_
    refine Zab ?_
    refine Zad ?_
    refine brF (show(!decide ((c.toNat:Int)≤(90:Int)))=false by rw[h2];rfl) ?_
    have hc:ZhS i c=true:=by rw[Zdq,h1,h2];simp
    refine Zae ?_
    iterate 2 refine Zab ?_
    refine Zad ?_
    refine⟨i+1,okN hc,by show s.length-(i+1)<s.length-i;omega, ?_⟩
    exact Zah ⟨rfl,rfl,rfl,congrArg (fun x=>some (SV.v (.i .i64) x)) wi,trivial⟩
   |false=>
    cases h3:decide ((i:Int)>(0:Int))with
    |true=>
     cases h4:decide ((c.toNat:Int)≥(48:Int))with
     |true=>
      cases h5:decide ((c.toNat:Int)≤(57:Int))with
      |true=>
       refine Zae ?_
       iterate 3 refine Zab ?_
       refine Zaa h1 ?_
       refine Zaa h1 ?_
       refine Zaq h1 ?_
       refine Zab ?_
       refine Zaa h2 ?_
       refine Zaa h2 ?_
       refine Zaa h2 ?_
       refine Zaa h3 ?_
       refine Zaa h3 ?_
       refine Zbw rfl rfl rfl h2 rfl rfl h3 rfl rfl rfl ?_
       refine Zaa h2 ?_
       refine Zaa h4 ?_
       refine Zaa h4 ?_
       refine Zbw rfl rfl rfl h2 rfl rfl h4 rfl rfl rfl ?_
       refine Zap h2 ?_
       refine Zab ?_
       refine Zad ?_
       refine brF (show(!decide ((c.toNat:Int)≤(57:Int)))=false by rw[h5];rfl) ?_
       have hc:ZhS i c=true:=by rw[Zdq,h1,h2,h3,h4,h5];simp
       refine Zae ?_
       iterate 2 refine Zab ?_
       refine Zad ?_
       refine⟨i+1,okN hc,by show s.length-(i+1)<s.length-i;omega, ?_⟩
       exact Zah ⟨rfl,rfl,rfl,congrArg (fun x=>some (SV.v (.i .i64) x)) wi,trivial⟩
      |false=>
       refine Zae ?_
       iterate 3 refine Zab ?_
       refine Zaa h1 ?_
       refine Zaa h1 ?_
       refine Zaq h1 ?_
       refine Zab ?_
       refine Zaa h2 ?_
       refine Zaa h2 ?_
       refine Zaa h2 ?_
       refine Zaa h3 ?_
       refine Zaa h3 ?_
       refine Zbw rfl rfl rfl h2 rfl rfl h3 rfl rfl rfl ?_
       refine Zaa h2 ?_
       refine Zaa h4 ?_
       refine Zaa h4 ?_
       refine Zbw rfl rfl rfl h2 rfl rfl h4 rfl rfl rfl ?_
       refine Zap h2 ?_
       refine Zab ?_
       refine Zad ?_
       refine brT (show(!decide ((c.toNat:Int)≤(57:Int)))=true by rw[h5];rfl) ?_
       have hc:ZhS i c=false:=by rw[Zdq,h1,h2,h3,h4,h5];simp
       refine Zae ?_
       refine Zab ?_
       refine Zad ?_
       refine ZaA ?_
       repeat (first|refine Zau ?_|refine Zav ?_|refine Zar ?_)
       exact congrArg (fun x=>SV.v .b x) (noN hc).symm
     |false=>
      refine Zae ?_
      iterate 3 refine Zab ?_
      refine Zaa h1 ?_
      refine Zaa h1 ?_
      refine Zaq h1 ?_
      refine Zab ?_
      refine Zaa h2 ?_
      refine Zaa h2 ?_
      refine Zaa h2 ?_
      refine Zaa h3 ?_
      refine Zaa h3 ?_
      refine Zbw rfl rfl rfl h2 rfl rfl h3 rfl rfl rfl ?_
      refine Zaa h2 ?_
      refine Zag h4 ?_
      refine Zag h4 ?_
      refine Zbq rfl rfl rfl h2 rfl rfl h4 rfl rfl rfl ?_
      refine Zap h2 ?_
      refine Zab ?_
      refine Zad ?_
      refine brT (show(!decide ((c.toNat:Int)≥(48:Int)))=true by rw[h4];rfl) ?_
      have hc:ZhS i c=false:=by rw[Zdq,h1,h2,h3,h4];simp
      refine Zae ?_
      refine Zab ?_
      refine Zad ?_
      refine ZaA ?_
      repeat (first|refine Zau ?_|refine Zav ?_|refine Zar ?_)
      exact congrArg (fun x=>SV.v .b x) (noN hc).symm
    |false=>
     refine Zae ?_
     iterate 3 refine Zab ?_
     refine Zaa h1 ?_
     refine Zaa h1 ?_
     refine Zaq h1 ?_
     refine Zab ?_
     refine Zaa h2 ?_
     refine Zaa h2 ?_
     refine Zaa h2 ?_
     refine Zag h3 ?_
     refine Zag h3 ?_
     refine Zbq rfl rfl rfl h2 rfl rfl h3 rfl rfl rfl ?_
     refine Zaa h2 ?_
     refine Zag rfl ?_
     refine Zag rfl ?_
     refine Zbq rfl rfl rfl h2 rfl rfl rfl rfl rfl rfl ?_
     refine Zap h2 ?_
     refine Zab ?_
     refine Zad ?_
     refine brT (show(!decide ((i:Int)>(0:Int)))=true by rw[h3];rfl) ?_
     have hc:ZhS i c=false:=by rw[Zdq,h1,h2,h3];simp
     refine Zae ?_
     refine Zab ?_
     refine Zad ?_
     refine ZaA ?_
     repeat (first|refine Zau ?_|refine Zav ?_|refine Zar ?_)
     exact congrArg (fun x=>SV.v .b x) (noN hc).symm
  |false=>
   cases h3:decide ((i:Int)>(0:Int))with
   |true=>
    cases h4:decide ((c.toNat:Int)≥(48:Int))with
    |true=>
     cases h5:decide ((c.toNat:Int)≤(57:Int))with
     |true=>
      refine Zae ?_
      iterate 3 refine Zab ?_
      refine Zag h1 ?_
      refine Zag h1 ?_
      refine Zap h1 ?_
      refine Zab ?_
      refine Zaa rfl ?_
      refine Zaa rfl ?_
      refine Zaa rfl ?_
      refine Zaa h3 ?_
      refine Zaa h3 ?_
      refine Zbw rfl rfl rfl rfl rfl rfl h3 rfl rfl rfl ?_
      refine Zaa rfl ?_
      refine Zaa h4 ?_
      refine Zaa h4 ?_
      refine Zbw rfl rfl rfl rfl rfl rfl h4 rfl rfl rfl ?_
      refine Zap rfl ?_
      refine Zab ?_
      refine Zad ?_
      refine brF (show(!decide ((c.toNat:Int)≤(57:Int)))=false by rw[h5];rfl) ?_
      have hc:ZhS i c=true:=by rw[Zdq,h1,h3,h4,h5];simp
      refine Zae ?_
      iterate 2 refine Zab ?_
      refine Zad ?_
      refine⟨i+1,okN hc,by show s.length-(i+1)<s.length-i;omega, ?_⟩
      exact Zah ⟨rfl,rfl,rfl,congrArg (fun x=>some (SV.v (.i .i64) x)) wi,trivial⟩
     |false=>
      refine Zae ?_
      iterate 3 refine Zab ?_
      refine Zag h1 ?_
      refine Zag h1 ?_
      refine Zap h1 ?_
      refine Zab ?_
      refine Zaa rfl ?_
      refine Zaa rfl ?_
      refine Zaa rfl ?_
      refine Zaa h3 ?_
      refine Zaa h3 ?_
      refine Zbw rfl rfl rfl rfl rfl rfl h3 rfl rfl rfl ?_
      refine Zaa rfl ?_
      refine Zaa h4 ?_
      refine Zaa h4 ?_
      refine Zbw rfl rfl rfl rfl rfl rfl h4 rfl rfl rfl ?_
      refine Zap rfl ?_
      refine Zab ?_
      refine Zad ?_
      refine brT (show(!decide ((c.toNat:Int)≤(57:Int)))=true by rw[h5];rfl) ?_
      have hc:ZhS i c=false:=by rw[Zdq,h1,h3,h4,h5];simp
      refine Zae ?_
      refine Zab ?_
      refine Zad ?_
      refine ZaA ?_
      repeat (first|refine Zau ?_|refine Zav ?_|refine Zar ?_)
      exact congrArg (fun x=>SV.v .b x) (noN hc).symm
    |false=>
     refine Zae ?_
     iterate 3 refine Zab ?_
     refine Zag h1 ?_
     refine Zag h1 ?_
     refine Zap h1 ?_
     refine Zab ?_
     refine Zaa rfl ?_
     refine Zaa rfl ?_
     refine Zaa rfl ?_
     refine Zaa h3 ?_
     refine Zaa h3 ?_
     refine Zbw rfl rfl rfl rfl rfl rfl h3 rfl rfl rfl ?_
     refine Zaa rfl ?_
     refine Zag h4 ?_
     refine Zag h4 ?_
     refine Zbq rfl rfl rfl rfl rfl rfl h4 rfl rfl rfl ?_
     refine Zap rfl ?_
     refine Zab ?_
     refine Zad ?_
     refine brT (show(!decide ((c.toNat:Int)≥(48:Int)))=true by rw[h4];rfl) ?_
     have hc:ZhS i c=false:=by rw[Zdq,h1,h3,h4];simp
     refine Zae ?_
     refine Zab ?_
     refine Zad ?_
     refine ZaA ?_
     repeat (first|refine Zau ?_|refine Zav ?_|refine Zar ?_)
     exact congrArg (fun x=>SV.v .b x) (noN hc).symm
   |false=>
    refine Zae ?_
    iterate 3 refine Zab ?_
    refine Zag h1 ?_
    refine Zag h1 ?_
    refine Zap h1 ?_
    refine Zab ?_
    refine Zaa rfl ?_
    refine Zaa rfl ?_
    refine Zaa rfl ?_
    refine Zag h3 ?_
    refine Zag h3 ?_
    refine Zbq rfl rfl rfl rfl rfl rfl h3 rfl rfl rfl ?_
    refine Zaa rfl ?_
    refine Zag rfl ?_
    refine Zag rfl ?_
    refine Zbq rfl rfl rfl rfl rfl rfl rfl rfl rfl rfl ?_
    refine Zap rfl ?_
    refine Zab ?_
    refine Zad ?_
    refine brT (show(!decide ((i:Int)>(0:Int)))=true by rw[h3];rfl) ?_
    have hc:ZhS i c=false:=by rw[Zdq,h1,h3];simp
    refine Zae ?_
    refine Zab ?_
    refine Zad ?_
    refine ZaA ?_
    repeat (first|refine Zau ?_|refine Zav ?_|refine Zar ?_)
    exact congrArg (fun x=>SV.v .b x) (noN hc).symm
theorem Zfz (c:UInt8) (r:Txt):Za8 (c::r)=(Nat.ble (r.length+1) 8&&(Zj7 c&&r.all chR)):=rfl
set_option maxHeartbeats 16000000 in
theorem Zrc (s:Txt):PureOK Tryz.prog ZaO 25 [.v .s s] (fun V=>V= .v .b (Za8 s)):=by
 refine Zaz Zaw Tryz.func25 ?_
 refine Zae ?_
 refine Zab ?_
 refine Zad ?_
 cases s with
 |nil=>
  refine Zae ?_
  iterate 4 refine Zab ?_
  refine Zag rfl ?_
  refine Zag rfl ?_
  refine Zag rfl ?_
  refine Zaq rfl ?_
  refine Zab ?_
  refine Zag rfl ?_
  refine Zag rfl ?_
  refine Zag rfl ?_
  refine Zaq rfl ?_
  refine Zab ?_
  refine Zag rfl ?_
  refine Zag rfl ?_
  refine Zag rfl ?_
  refine Zaq rfl ?_
  refine Zad ?_
  refine brT rfl ?_
  refine Zae ?_
  refine Zab ?_
  refine Zad ?_
  rfl
 |cons c0 r=>
  have h0:decide (((c0::r).length:Int)=(0:Int))=false:=by rw[decide_eq_false_iff_not,List.length_cons];omega
  have g0:(c0::r)[(0:Int).toNat]? =some c0:=rfl
  obtain⟨s,es⟩: ∃x,c0::r=x:=⟨_,rfl⟩
  have hl:s.length=r.length+1:=by rw[←es];rfl
  rw[es]at h0 g0⊢
  cases h1:decide ((s.length:Int)>(8:Int))with
  |true=>
   refine Zae ?_
   iterate 4 refine Zab ?_
   refine Zaa h0 ?_
   refine Zaa h0 ?_
   refine Zaa h0 ?_
   refine Zap h0 ?_
   refine Zab ?_
   refine Zag h1 ?_
   refine Zag h1 ?_
   refine Zag h1 ?_
   refine Zaq h1 ?_
   refine Zab ?_
   refine Zag rfl ?_
   refine Zag rfl ?_
   refine Zag rfl ?_
   refine Zaq rfl ?_
   refine Zad ?_
   refine brT h1 ?_
   refine Zae ?_
   refine Zab ?_
   refine Zad ?_
   refine congrArg (fun x=>SV.v .b x) ?_
   have h2:Nat.ble (r.length+1) 8=false:=by
    have h3:=of_decide_eq_true h1
    cases hb:Nat.ble (r.length+1) 8 with
    |false=>rfl
    |true=>have:=Nat.le_of_ble_eq_true hb;omega
   rw[←es,Zfz,h2];rfl
  |false=>
   have hs8:s.length≤8:=by have:=of_decide_eq_false h1;omega
   have hb8:Nat.ble (r.length+1) 8=true:=by rw[Nat.ble_eq];omega
   cases h2:decide ((c0.toNat:Int)<(65:Int))with
   |true=>
    have hu:Zj7 c0=false:=by have:=of_decide_eq_true h2;simp[Zj7];omega
    refine Zae ?_
    iterate 4 refine Zab ?_
    refine Zaa h0 ?_
    refine Zaa h0 ?_
    refine Zaa h0 ?_
    refine Zap h0 ?_
    refine Zab ?_
    refine Zaa h1 ?_
    refine Zbn rfl rfl rfl h1 (fun _=>rfl) (Int.le_refl 0) g0 rfl rfl ?_
    refine Zaa h1 ?_
    refine Zap h1 ?_
    refine Zab ?_
    refine Zag h2 ?_
    refine Zag h2 ?_
    refine Zag h2 ?_
    refine Zaq h2 ?_
    refine Zad ?_
    refine brT h2 ?_
    refine Zae ?_
    refine Zab ?_
    refine Zad ?_
    refine congrArg (fun x=>SV.v .b x) ?_
    rw[←es,Zfz,hu];simp
   |false=>
    cases h3:decide ((c0.toNat:Int)>(90:Int))with
    |true=>
     have hu:Zj7 c0=false:=by have:=of_decide_eq_true h3;simp[Zj7];omega
     refine Zae ?_
     iterate 4 refine Zab ?_
     refine Zaa h0 ?_
     refine Zaa h0 ?_
     refine Zaa h0 ?_
     refine Zap h0 ?_
     refine Zab ?_
     refine Zaa h1 ?_
     refine Zbn rfl rfl rfl h1 (fun _=>rfl) (Int.le_refl 0) g0 rfl rfl ?_
     refine Zaa h1 ?_
     refine Zap h1 ?_
     refine Zab ?_
     refine Zaa h2 ?_
     refine Zbn rfl rfl rfl h2 (fun _=>rfl) (Int.le_refl 0) g0 rfl rfl ?_
     refine Zaa h2 ?_
     refine Zap h2 ?_
     refine Zad ?_
     refine brT h3 ?_
     refine Zae ?_
     refine Zab ?_
     refine Zad ?_
     refine congrArg (fun x=>SV.v .b x) ?_
     rw[←es,Zfz,hu];simp
    |false=>
     have hu:Zj7 c0=true:=by have:=of_decide_eq_false h2;have:=of_decide_eq_false h3;simp[Zj7];omega
     have hn:Za8 s=s.all chR:=by rw[←es,Zfz,hb8,hu,List.all_cons,show chR c0=true by rw[chR,hu];rfl];simp
     rw[hn]
     refine Zae ?_
     iterate 4 refine Zab ?_
     refine Zaa h0 ?_
     refine Zaa h0 ?_
     refine Zaa h0 ?_
     refine Zap h0 ?_
     refine Zab ?_
     refine Zaa h1 ?_
     refine Zbn rfl rfl rfl h1 (fun _=>rfl) (Int.le_refl 0) g0 rfl rfl ?_
     refine Zaa h1 ?_
     refine Zap h1 ?_
     refine Zab ?_
     refine Zaa h2 ?_
     refine Zbn rfl rfl rfl h2 (fun _=>rfl) (Int.le_refl 0) g0 rfl rfl ?_
     refine Zaa h2 ?_
     refine Zap h2 ?_
     refine Zad ?_
     refine brF h3 ?_
     clear h0 h1 h2 h3 hn es hl g0 hb8 hu
     refine Zae ?_
     iterate 3 refine Zab ?_
     refine Zad ?_
     refine ZaH Zaw rfl (fun(i:Nat)=> [(0, .v .s s),(24,nt s.length),(25,nt i)]) (fun _=> []) (fun i=>i≤s.length∧ ∀j (hj:j<s.length),j<i→chR s[j]=true) (fun i=>s.length-i) ?_ 0 ⟨Nat.zero_le _,fun j _ h=>absurd h (Nat.not_lt_zero j)⟩ (Zah ⟨rfl,rfl,rfl,trivial⟩)
     rintro i ⟨hi,hok⟩
     cases h0:decide ((i:Int)<(s.length:Int))with
     |false=>
      have e:i=s.length:=by have:=of_decide_eq_false h0;omega
      refine Zae ?_
      refine Zab ?_
      refine Zad ?_
      refine brF h0 ?_
      refine Zae ?_
      refine Zab ?_
      refine Zad ?_
      refine congrArg (fun x=>SV.v .b x) (Eq.symm ?_)
      rw[List.all_eq_true]
      intro x hx
      obtain⟨j,hj,rfl⟩:=List.getElem_of_mem hx
      exact hok j hj (by omega)
     |true=>
      have hlt:i<s.length:=by have:=of_decide_eq_true h0;omega
      have gx:s[(i:Int).toNat]? =some s[i]:=by rw[Int.toNat_natCast];exact List.getElem?_eq_getElem hlt
      have wi:IntKind.i64.wrap ((i:Int)+1)=((i+1:Nat):Int):=Zdf (by omega) (by omega)
      have okN:chR s[i]=true→i+1≤s.length∧ ∀j (hj:j<s.length),j<i+1→chR s[j]=true:=fun h=>⟨hlt,fun j hj hji=>by
       by_cases e:j=i
       ·subst e;exact h
       ·exact hok j hj (by omega)⟩
      have noN:chR s[i]=false→s.all chR=false:=fun h=>by
       rw[List.all_eq_false]
       exact⟨s[i],List.getElem_mem _,by rw[h];decide⟩
      obtain⟨c,ec⟩: ∃x,s[i]=x:=⟨_,rfl⟩
      rw[ec]at gx okN noN
      refine Zae ?_
      refine Zab ?_
      refine Zad ?_
      refine brT h0 ?_
      refine Zae ?_
      iterate 2 refine Zab ?_
      refine Zad ?_
      refine Zae ?_
      iterate 2 refine Zab ?_
      refine ZaY rfl (fun _=>rfl) (Int.natCast_nonneg i) gx rfl rfl ?_
      refine Zab ?_
      refine Zad ?_
      cases h1:decide ((c.toNat:Int)<(65:Int))with
      |true=>
       cases h4:decide ((c.toNat:Int)<(48:Int))with
       |true=>
        refine Zae ?_
        iterate 3 refine Zab ?_
        refine Zag h1 ?_
        refine Zag h1 ?_
        refine Zaq h1 ?_
        refine Zab ?_
        refine Zaa rfl ?_
        refine Zaa rfl ?_
        refine Zaa rfl ?_
        refine Zag h4 ?_
        refine Zag h4 ?_
        refine Zbw rfl rfl rfl rfl rfl rfl h4 rfl rfl rfl ?_
        refine Zaq rfl ?_
        refine Zad ?_
        refine brT rfl ?_
        have hc:chR c=false:=by rw[ZhG,h1,h4];first|rfl|simp
        refine Zae ?_
        refine Zab ?_
        refine Zad ?_
        refine ZaA ?_
        repeat (first|refine Zau ?_|refine Zav ?_|refine Zar ?_)
        exact congrArg (fun x=>SV.v .b x) (noN hc).symm
       |false=>
        cases h5:decide ((c.toNat:Int)>(57:Int))with
        |true=>
         refine Zae ?_
         iterate 3 refine Zab ?_
         refine Zag h1 ?_
         refine Zag h1 ?_
         refine Zaq h1 ?_
         refine Zab ?_
         refine Zaa rfl ?_
         refine Zaa rfl ?_
         refine Zaa rfl ?_
         refine Zaa h4 ?_
         refine Zaa h4 ?_
         refine Zbq rfl rfl rfl rfl rfl rfl h4 rfl rfl rfl ?_
         refine Zaq rfl ?_
         refine Zad ?_
         refine brT h5 ?_
         have hc:chR c=false:=by rw[ZhG,h1,h4,h5];first|rfl|simp
         refine Zae ?_
         refine Zab ?_
         refine Zad ?_
         refine ZaA ?_
         repeat (first|refine Zau ?_|refine Zav ?_|refine Zar ?_)
         exact congrArg (fun x=>SV.v .b x) (noN hc).symm
        |false=>
         refine Zae ?_
         iterate 3 refine Zab ?_
         refine Zag h1 ?_
         refine Zag h1 ?_
         refine Zaq h1 ?_
         refine Zab ?_
         refine Zaa rfl ?_
         refine Zaa rfl ?_
         refine Zaa rfl ?_
         refine Zaa h4 ?_
         refine Zaa h4 ?_
         refine Zbq rfl rfl rfl rfl rfl rfl h4 rfl rfl rfl ?_
         refine Zaq rfl ?_
         refine Zad ?_
         refine brF h5 ?_
         have hc:chR c=true:=by rw[ZhG,h1,h4,h5];first|rfl|simp
         refine Zae ?_
         iterate 2 refine Zab ?_
         refine Zad ?_
         refine⟨i+1,okN hc,by show s.length-(i+1)<s.length-i;omega, ?_⟩
         exact Zah ⟨rfl,rfl,congrArg (fun x=>some (SV.v (.i .i64) x)) wi,trivial⟩
      |false=>
       cases h2:decide ((c.toNat:Int)>(90:Int))with
       |true=>
        cases h4:decide ((c.toNat:Int)<(48:Int))with
        |true=>
         refine Zae ?_
         iterate 3 refine Zab ?_
         refine Zaa h1 ?_
         refine Zaa h1 ?_
         refine Zap h1 ?_
         refine Zab ?_
         refine Zaa h2 ?_
         refine Zaa h2 ?_
         refine Zaa h2 ?_
         refine Zag h4 ?_
         refine Zag h4 ?_
         refine Zbw rfl rfl rfl h2 rfl rfl h4 rfl rfl rfl ?_
         refine Zaq h2 ?_
         refine Zad ?_
         refine brT rfl ?_
         have hc:chR c=false:=by rw[ZhG,h1,h2,h4];first|rfl|simp
         refine Zae ?_
         refine Zab ?_
         refine Zad ?_
         refine ZaA ?_
         repeat (first|refine Zau ?_|refine Zav ?_|refine Zar ?_)
         exact congrArg (fun x=>SV.v .b x) (noN hc).symm
        |false=>
         cases h5:decide ((c.toNat:Int)>(57:Int))with
         |true=>
          refine Zae ?_
          iterate 3 refine Zab ?_
          refine Zaa h1 ?_
          refine Zaa h1 ?_
          refine Zap h1 ?_
          refine Zab ?_
          refine Zaa h2 ?_
          refine Zaa h2 ?_
          refine Zaa h2 ?_
          refine Zaa h4 ?_
          refine Zaa h4 ?_
          refine Zbq rfl rfl rfl h2 rfl rfl h4 rfl rfl rfl ?_
          refine Zaq h2 ?_
          refine Zad ?_
          refine brT h5 ?_
          have hc:chR c=false:=by rw[ZhG,h1,h2,h4,h5];first|rfl|simp
          refine Zae ?_
          refine Zab ?_
          refine Zad ?_
          refine ZaA ?_
          repeat (first|refine Zau ?_|refine Zav ?_|refine Zar ?_)
          exact congrArg (fun x=>SV.v .b x) (noN hc).symm
         |false=>
          refine Zae ?_
          iterate 3 refine Zab ?_
          refine Zaa h1 ?_
          refine Zaa h1 ?_
          refine Zap h1 ?_
          refine Zab ?_
          refine Zaa h2 ?_
          refine Zaa h2 ?_
          refine Zaa h2 ?_
          refine Zaa h4 ?_
          refine Zaa h4 ?_
          refine Zbq rfl rfl rfl h2 rfl rfl h4 rfl rfl rfl ?_
          refine Zaq h2 ?_
          refine Zad ?_
          refine brF h5 ?_
          have hc:chR c=true:=by rw[ZhG,h1,h2,h4,h5];first|rfl|simp
          refine Zae ?_
          iterate 2 refine Zab ?_
          refine Zad ?_
          refine⟨i+1,okN hc,by show s.length-(i+1)<s.length-i;omega, ?_⟩
          exact Zah ⟨rfl,rfl,congrArg (fun x=>some (SV.v (.i .i64) x)) wi,trivial⟩
       |false=>
        refine Zae ?_
        iterate 3 refine Zab ?_
        refine Zaa h1 ?_
        refine Zaa h1 ?_
        refine Zap h1 ?_
        refine Zab ?_
        refine Zag h2 ?_
        refine Zag h2 ?_
        refine Zag h2 ?_
        refine Zgh ?_
        refine Zgh ?_
        refine Zag h2 ?_
        refine Zap h2 ?_
        refine Zad ?_
        refine brF rfl ?_
        have hc:chR c=true:=by rw[ZhG,h1,h2];first|rfl|simp
        refine Zae ?_
        iterate 2 refine Zab ?_
        refine Zad ?_
        refine⟨i+1,okN hc,by show s.length-(i+1)<s.length-i;omega, ?_⟩
        exact Zah ⟨rfl,rfl,congrArg (fun x=>some (SV.v (.i .i64) x)) wi,trivial⟩
end Go.Proofs.YtgmjnhiakpcpbaaGreatDoor
