/-
 The place of a device's line among lines.
-/
import Derived.Test.YtgngdcpglnfkeaaDoorUP
import Derived.Test.YtgngdcpglnfkeaaDoorSh
set_option linter.constructorNameAsVariable false
set_option linter.unusedSimpArgs false
set_option linter.unusedVariables false
namespace Go.Proofs.YtgngdcpglnfkeaaDoor
open Go.Am Go.Tx Ne
set_option maxRecDepth 100000
def Zps (x:Txt):Prop:=x.length≤1000000∧(Zkd x [110,111,100,101,32]=true∨((∀c∈x,c.toNat<128)∧2≤(Lib.fields x).length))
set_option maxHeartbeats 8000000 in
theorem ZvO (hp:List SM) (p:Nat) (name:Txt) (x:Txt) (hp1:nth hp p=some (.cell [.v .s name] true)) (hn:name.length≤1000) (hx:Zps x):
 OpenOK Tryd.prog Zaw 14 [.v .s x, .ptr p 0 0] hp (fun V hp'=>V= .v .b (Zby name x)∧hp'=hp):=by
 refine ZaO (fn:=Tryd.f14) (code:=Za0 Tryd.f14) Zao (by kernel_rfl) Tryd.func14 (by kernel_rfl) (Nat.le_of_ble_eq_true (by kernel_rfl)) ?_
 intro base
 obtain⟨hl,hx⟩:=hx
 have hP:=ZmI x [110,111,100,101,32]
 have hH:=ZvM x ([32]++name++ [32]) (by omega)
 have q1:([32]:Txt).length+name.length≤9223372036854775807:=by rw[List.length_singleton];omega
 have q2:([32]++name).length+([32]:Txt).length≤9223372036854775807:=by rw[List.length_append,List.length_singleton];omega
 cases h1:Zkd x [110,111,100,101,32]with
 |true=>
  have e:Zby name x=false:=by rw[Zby,h1];rfl
  have h1':(!Zkd x [110,111,100,101,32])=false:=by rw[h1];rfl
  refine Zae ?_
  refine Zab ?_
  refine Zaf ?_
  refine Zae ?_
  refine Zab ?_
  refine Zac rfl ((hP).mono ?_)
  rintro _ rfl
  refine Zaa rfl rfl ?_
  iterate 2 refine Zab ?_
  refine Zaj h1' ?_
  refine Zaj h1' ?_
  refine Zaj h1' ?_
  refine Zaj h1' ?_
  refine Zaj h1' ?_
  refine Zas h1' ?_
  refine Zab ?_
  refine Zaj rfl ?_
  refine Zaj rfl ?_
  refine Zaj rfl ?_
  refine Zaj rfl ?_
  refine Zaj rfl ?_
  refine Zaj rfl ?_
  refine Zas rfl ?_
  refine Zab ?_
  refine Zaf ?_
  exact⟨congrArg (fun z=>SV.v .b z) e.symm,rfl⟩
 |false=>
  have h1':(!Zkd x [110,111,100,101,32])=true:=by rw[h1];rfl
  obtain⟨ha,hf⟩:(∀c∈x,c.toNat<128)∧2≤(Lib.fields x).length:=by
   rcases hx with h|h
   ·rw[h1]at h;cases h
   ·exact h
  cases h2:Lib.contains x ([32]++name++ [32])with
  |false=>
   have e:Zby name x=false:=by rw[Zby,h1,h2];rfl
   refine Zae ?_
   refine Zab ?_
   refine Zaf ?_
   refine Zae ?_
   refine Zab ?_
   refine Zac rfl ((hP).mono ?_)
   rintro _ rfl
   refine Zaa rfl rfl ?_
   iterate 2 refine Zab ?_
   refine Zad h1' ?_
   refine Zam rfl rfl rfl h1' (ZaK rfl rfl hp1 rfl rfl ?_)
   refine Zaa rfl rfl ?_
   refine Zak rfl rfl rfl h1' (fun _=>rfl) q1 rfl rfl ?_
   refine Zak rfl rfl rfl h1' (fun _=>rfl) q2 rfl rfl ?_
   refine Zam rfl rfl rfl h1' ((hH).mono ?_)
   rintro _ rfl
   refine Zaa rfl rfl ?_
   refine Zat h1' ?_
   refine Zab ?_
   refine Zaj h2 ?_
   refine Zaj h2 ?_
   refine Zaj h2 ?_
   refine Zaj h2 ?_
   refine Zaj h2 ?_
   refine Zaj h2 ?_
   refine Zas h2 ?_
   refine Zab ?_
   refine Zaf ?_
   exact⟨congrArg (fun z=>SV.v .b z) e.symm,rfl⟩
  |true=>
   have hF:=ZvV x (by omega) ha (fun e=>by rw[e]at hf;simp at hf)
   have g1:(Lib.fields x)[(1:Int).toNat]? =some (Lib.fields x)[1]:=List.getElem?_eq_getElem hf
   have e:Zby name x=((Lib.fields x)[1]==name):=by
    rw[Zby,h1,h2,cond_false,cond_true,List.getElem?_eq_getElem hf]
    cases hb:((Lib.fields x)[1]==name)with
    |true=>rw[eq_of_beq hb];simp
    |false=>
     rw[beq_eq_false_iff_ne]at hb⊢
     intro h;exact hb (Option.some.inj h)
   generalize(Lib.fields x)[1]=y at g1 e
   refine Zae ?_
   refine Zab ?_
   refine Zaf ?_
   refine Zae ?_
   refine Zab ?_
   refine Zac rfl ((hP).mono ?_)
   rintro _ rfl
   refine Zaa rfl rfl ?_
   iterate 2 refine Zab ?_
   refine Zad h1' ?_
   refine Zam rfl rfl rfl h1' (ZaK rfl rfl hp1 rfl rfl ?_)
   refine Zaa rfl rfl ?_
   refine Zak rfl rfl rfl h1' (fun _=>rfl) q1 rfl rfl ?_
   refine Zak rfl rfl rfl h1' (fun _=>rfl) q2 rfl rfl ?_
   refine Zam rfl rfl rfl h1' ((hH).mono ?_)
   rintro _ rfl
   refine Zaa rfl rfl ?_
   refine Zat h1' ?_
   refine Zab ?_
   refine Zad h2 ?_
   refine Zam rfl rfl rfl h2 ((hF).mono ?_)
   rintro _ rfl
   refine Zaa rfl rfl ?_
   refine ZeR rfl rfl rfl h2 (fun _=>rfl) (by decide) g1 rfl rfl ?_
   refine Zad h2 ?_
   refine Zam rfl rfl rfl h2 (ZaK rfl rfl hp1 rfl rfl ?_)
   refine Zaa rfl rfl ?_
   refine Zad h2 ?_
   refine Zat h2 ?_
   refine Zab ?_
   refine Zaf ?_
   exact⟨congrArg (fun z=>SV.v .b z) e.symm,rfl⟩
set_option maxHeartbeats 8000000 in
theorem ZvI (hp:List SM) (p:Nat) (name:Txt) (l:List Txt) (hl:l.length≤1000) (hp1:nth hp p=some (.cell [.v .s name] true)) (hn:name.length≤1000) (hx: ∀x∈l,Zps x):
 OpenOK Tryd.prog Zaw 13 [.v (.l .s) l, .func 14 [] [.ptr p 0 0]] hp (fun V hp'=>V= .v (.i .i64) (ZlQ (Zby name) l 0)∧hp'=hp):=by
 refine ZaO (fn:=Tryd.f13) (code:=Za0 Tryd.f13) Zao (by kernel_rfl) Tryd.func13 (by kernel_rfl) (Nat.le_of_ble_eq_true (by kernel_rfl)) ?_
 intro base
 refine Zae ?_
 refine Zab ?_
 refine Zaf ?_
 refine Zae ?_
 iterate 3 refine Zab ?_
 refine Zaf ?_
 refine ZaH Zao rfl (fun(i:Nat)=> [(0, .v (.l .s) l),(1, .func 14 [] [.ptr p 0 0]),(7,nt l.length),(8,nt i)]) (fun _=>hp) (fun i=>i≤l.length∧ZlQ (Zby name) l 0=ZlQ (Zby name) (l.drop i) i) (fun i=>l.length-i) ?_ 0 ⟨Nat.zero_le _,rfl⟩ (Zai ⟨rfl,rfl,rfl,rfl,trivial⟩)
 rintro i ⟨hi,he⟩
 cases h1:decide ((i:Int)<(l.length:Int))with
 |false=>
  have e:i=l.length:=by have:=of_decide_eq_false h1;omega
  refine Zae ?_
  refine Zab ?_
  refine Zaf ?_
  refine brF h1 ?_
  refine Zae ?_
  refine Zab ?_
  refine Zaf ?_
  exact⟨congrArg (fun x=>SV.v (.i .i64) x) (by rw[he,e,List.drop_length];rfl),rfl⟩
 |true=>
  have hlt:i<l.length:=by have:=of_decide_eq_true h1;omega
  have gx:l[(i:Int).toNat]? =some l[i]:=by rw[Int.toNat_natCast];exact List.getElem?_eq_getElem hlt
  have ed:ZlQ (Zby name) (l.drop i) i=bif Zby name l[i]then(i:Int)else ZlQ (Zby name) (l.drop (i+1)) (i+1):=by rw[List.drop_eq_getElem_cons hlt,ZlQ]
  have hF:=ZvO hp p name l[i] hp1 hn (hx _ (List.getElem_mem hlt))
  obtain⟨x,ex⟩: ∃x,l[i]=x:=⟨_,rfl⟩
  rw[ex]at gx ed hF
  refine Zae ?_
  refine Zab ?_
  refine Zaf ?_
  refine brT h1 ?_
  refine Zae ?_
  iterate 2 refine Zab ?_
  refine Zaf ?_
  cases h2:Zby name x with
  |true=>
   rw[h2]at hF ed
   refine Zae ?_
   iterate 3 refine Zab ?_
   refine Zbb rfl (fun _=>rfl) (Int.natCast_nonneg i) gx rfl rfl ?_
   refine Zab ?_
   refine Zac rfl ((hF.mono ?_))
   rintro _ _ ⟨rfl,rfl⟩
   refine Zaa rfl rfl ?_
   refine Zaf ?_
   refine brT rfl ?_
   refine Zae ?_
   iterate 2 refine Zab ?_
   refine Zaf ?_
   refine ZaC ?_
   repeat (first|refine Zay ?_|refine Zax ?_|refine Zav ?_)
   exact⟨congrArg (fun x=>SV.v (.i .i64) x) (he.trans ed).symm,rfl⟩
  |false=>
   rw[h2]at hF ed
   refine Zae ?_
   iterate 3 refine Zab ?_
   refine Zbb rfl (fun _=>rfl) (Int.natCast_nonneg i) gx rfl rfl ?_
   refine Zab ?_
   refine Zac rfl ((hF.mono ?_))
   rintro _ _ ⟨rfl,rfl⟩
   refine Zaa rfl rfl ?_
   refine Zaf ?_
   refine brF rfl ?_
   refine ZaJ ?_
   refine Zae ?_
   iterate 2 refine Zab ?_
   refine Zaf ?_
   refine⟨i+1,⟨hlt,he.trans ed⟩,by show l.length-(i+1)<l.length-i;omega, ?_⟩
   exact Zai ⟨rfl,rfl,rfl,congrArg (fun x=>some (SV.v (.i .i64) x)) (Za7 (by omega)),trivial⟩
end Go.Proofs.YtgngdcpglnfkeaaDoor
