/-
 The place of a name in a network. (Printed by tools/genfind.py.)
-/
import Derived.Test.YtgngdcpglnfkeaaDoorU6
set_option linter.constructorNameAsVariable false
set_option linter.unusedSimpArgs false
set_option linter.unusedVariables false
namespace Go.Proofs.YtgngdcpglnfkeaaDoor
open Go.Am Go.Tx Ne
set_option maxRecDepth 100000
def Clean (hp:List SM):Prop:= ∀m∈hp,Zhk m=[]
theorem Clean.lt {hp:List SM} (h:Clean hp): ∀m∈hp,∀id∈Zhk m,id<hp.length:=fun m hm id hid=>by rw[h m hm]at hid;exact absurd hid List.not_mem_nil
theorem Clean.add {hp:List SM} {m:SM} (h:Clean hp) (hm:Zhk m=[]):Clean (hp++ [m]):=fun x hx=>by
 rcases List.mem_append.1 hx with hx|hx
 ·exact h x hx
 ·rw[List.mem_singleton.1 hx];exact hm
set_option maxHeartbeats 8000000 in
theorem Zwe (hp:List SM) (p:Nat) (name:Txt) (x:Sw) (hcl:Clean hp) (hp1:nth hp p=some (.cell [.v .s name] true)):
 OpenOK Tryd.prog Zaw 56 [.agg [.v .s x.1, .v .s x.2.1, .v .s x.2.2.1, .v .b x.2.2.2.1, .v .b x.2.2.2.2], .ptr p 0 0] hp (fun V hp'=>V= .v .b (x.1==name)∧ ∃ex,hp'=hp++ex∧Clean (hp++ex)):=by
 refine ZaO (fn:=Tryd.f56) (code:=Za0 Tryd.f56) Zao (by kernel_rfl) Tryd.func56 (by kernel_rfl) (Nat.le_of_ble_eq_true (by kernel_rfl)) ?_
 intro base
 have h2:nth (hp++ [SM.cell [.v .s x.1, .v .s x.2.1, .v .s x.2.2.1, .v .b x.2.2.2.1, .v .b x.2.2.2.2] true]) p=some (.cell [.v .s name] true):=Zc5 hp1
 have h3:nth (hp++ [SM.cell [.v .s x.1, .v .s x.2.1, .v .s x.2.2.1, .v .b x.2.2.2.1, .v .b x.2.2.2.2] true]) hp.length=some (.cell [.v .s x.1, .v .s x.2.1, .v .s x.2.2.1, .v .b x.2.2.2.1, .v .b x.2.2.2.2] true):=ZbV
 refine Zae ?_
 refine ZaR ?_
 refine Zab ?_
 refine Zaf ?_
 refine Zae ?_
 refine Zab ?_
 refine Zac rfl (ZaK rfl rfl h3 rfl rfl ?_)
 refine Zaa rfl rfl ?_
 refine Zac rfl (ZaK rfl rfl h2 rfl rfl ?_)
 refine Zaa rfl rfl ?_
 iterate 2 refine Zab ?_
 refine Zaf ?_
 exact⟨rfl,_,rfl,hcl.add rfl⟩
set_option maxHeartbeats 8000000 in
theorem Zv3 (hp:List SM) (p:Nat) (name:Txt) (l:List Sw) (hl:l.length≤1000) (hcl:Clean hp) (hp1:nth hp p=some (.cell [.v .s name] true)):
 OpenOK Tryd.prog Zaw 55 [.v (.l Ze6) l, .func 56 [] [.ptr p 0 0]] hp (fun V hp'=>V= .v (.i .i64) (Zah name (l.map (·.1)) 0)∧ ∃ex,hp'=hp++ex∧Clean (hp++ex)):=by
 refine ZaO (fn:=Tryd.f55) (code:=Za0 Tryd.f55) Zao (by kernel_rfl) Tryd.func55 (by kernel_rfl) (Nat.le_of_ble_eq_true (by kernel_rfl)) ?_
 intro base
 have hpl:=Zfs hp1
 refine Zae ?_
 refine Zab ?_
 refine Zaf ?_
 refine Zae ?_
 iterate 3 refine Zab ?_
 refine Zaf ?_
 refine ZaH Zao rfl (fun(i:Nat)=> [(0, .v (.l Ze6) l),(1, .func 56 [] [.ptr p 0 0]),(7,nt l.length),(8,nt i)]) (fun _=>hp) (fun i=>i≤l.length∧Zah name (l.map (·.1)) 0=Zah name ((l.drop i).map (·.1)) i) (fun i=>l.length-i) ?_ 0 ⟨Nat.zero_le _,rfl⟩ (Zai ⟨rfl,rfl,rfl,rfl,trivial⟩)
 rintro i ⟨hi,he⟩
 cases h1:decide ((i:Int)<(l.length:Int))with
 |false=>
  have e:i=l.length:=by have:=of_decide_eq_false h1;omega
  refine Zae ?_
  refine Zab ?_
  refine Zaf ?_
  refine brF h1 ?_
  refine Zae ?_
  refine Zab ?_
  refine Zaf ?_
  exact⟨congrArg (fun x=>SV.v (.i .i64) x) (by rw[he,e,List.drop_length];rfl),[],(List.append_nil _).symm,by rw[List.append_nil];exact hcl⟩
 |true=>
  have hlt:i<l.length:=by have:=of_decide_eq_true h1;omega
  have gx:l[(i:Int).toNat]? =some l[i]:=by rw[Int.toNat_natCast];exact List.getElem?_eq_getElem hlt
  have ed:Zah name ((l.drop i).map (·.1)) i=bif l[i].1==name then(i:Int)else Zah name ((l.drop (i+1)).map (·.1)) (i+1):=by rw[List.drop_eq_getElem_cons hlt,List.map_cons,Zah,ZcI]
  obtain⟨x,ex⟩: ∃x,l[i]=x:=⟨_,rfl⟩
  rw[ex]at gx ed
  have hF:=Zwe hp p name x hcl hp1
  refine Zae ?_
  refine Zab ?_
  refine Zaf ?_
  refine brT h1 ?_
  refine Zae ?_
  iterate 2 refine Zab ?_
  refine Zaf ?_
  cases h2:(x.1==name)with
  |true=>
   rw[h2]at hF ed
   refine Zae ?_
   iterate 3 refine Zab ?_
   refine Zbb rfl (fun _=>rfl) (Int.natCast_nonneg i) gx rfl rfl ?_
   refine Zab ?_
   refine Zac rfl ((hF.mono ?_))
   rintro _ hp' ⟨rfl,ex,rfl,hc⟩
   refine Zaa rfl rfl ?_
   refine Zaf ?_
   refine brT rfl ?_
   refine Zae ?_
   iterate 2 refine Zab ?_
   refine Zaf ?_
   refine ZaC ?_
   repeat (first|refine Zay ?_|refine Zax ?_|refine Zav ?_)
   exact⟨congrArg (fun x=>SV.v (.i .i64) x) (he.trans ed).symm,_,rfl,hc⟩
  |false=>
   rw[h2]at hF ed
   refine Zae ?_
   iterate 3 refine Zab ?_
   refine Zbb rfl (fun _=>rfl) (Int.natCast_nonneg i) gx rfl rfl ?_
   refine Zab ?_
   refine Zac rfl ((hF.mono ?_))
   rintro _ hp' ⟨rfl,ex,rfl,hc⟩
   refine Zaa rfl rfl ?_
   refine Zaf ?_
   refine brF rfl ?_
   refine Zae ?_
   iterate 2 refine Zab ?_
   refine Zaf ?_
   refine⟨i+1,⟨hlt,he.trans ed⟩,by show l.length-(i+1)<l.length-i;omega, ?_⟩
   refine ZbQ (Nat.le_refl _) ⟨rfl,Za4,rfl,fun id hid=> ?_,rfl,Za4,congrArg (fun x=>some (SV.v (.i .i64) x)) (Za7 (by omega)),Za4,trivial⟩ hcl.lt
   have h:id=p:=by simpa[Zcz,rchL]using hid
   rw[h];exact hpl
set_option maxHeartbeats 8000000 in
theorem Zv1 (hp:List SM) (p:Nat) (name:Txt) (x:Br) (hcl:Clean hp) (hp1:nth hp p=some (.cell [.v .s name] true)):
 OpenOK Tryd.prog Zaw 58 [.agg [.v .s x.1, .v .s x.2.1, .v .s x.2.2.1, .v (.i .i64) x.2.2.2.1, .v (.i .i64) x.2.2.2.2.1, .v (.i .i64) x.2.2.2.2.2.1, .v (.i .i64) x.2.2.2.2.2.2.1, .v (.i .i64) x.2.2.2.2.2.2.2.1, .v (.i .i64) x.2.2.2.2.2.2.2.2], .ptr p 0 0] hp (fun V hp'=>V= .v .b (x.1==name)∧ ∃ex,hp'=hp++ex∧Clean (hp++ex)):=by
 refine ZaO (fn:=Tryd.f58) (code:=Za0 Tryd.f58) Zao (by kernel_rfl) Tryd.func58 (by kernel_rfl) (Nat.le_of_ble_eq_true (by kernel_rfl)) ?_
 intro base
 have h2:nth (hp++ [SM.cell [.v .s x.1, .v .s x.2.1, .v .s x.2.2.1, .v (.i .i64) x.2.2.2.1, .v (.i .i64) x.2.2.2.2.1, .v (.i .i64) x.2.2.2.2.2.1, .v (.i .i64) x.2.2.2.2.2.2.1, .v (.i .i64) x.2.2.2.2.2.2.2.1, .v (.i .i64) x.2.2.2.2.2.2.2.2] true]) p=some (.cell [.v .s name] true):=Zc5 hp1
 have h3:nth (hp++ [SM.cell [.v .s x.1, .v .s x.2.1, .v .s x.2.2.1, .v (.i .i64) x.2.2.2.1, .v (.i .i64) x.2.2.2.2.1, .v (.i .i64) x.2.2.2.2.2.1, .v (.i .i64) x.2.2.2.2.2.2.1, .v (.i .i64) x.2.2.2.2.2.2.2.1, .v (.i .i64) x.2.2.2.2.2.2.2.2] true]) hp.length=some (.cell [.v .s x.1, .v .s x.2.1, .v .s x.2.2.1, .v (.i .i64) x.2.2.2.1, .v (.i .i64) x.2.2.2.2.1, .v (.i .i64) x.2.2.2.2.2.1, .v (.i .i64) x.2.2.2.2.2.2.1, .v (.i .i64) x.2.2.2.2.2.2.2.1, .v (.i .i64) x.2.2.2.2.2.2.2.2] true):=ZbV
 refine Zae ?_
 refine ZaR ?_
 refine Zab ?_
 refine Zaf ?_
 refine Zae ?_
 refine Zab ?_
 refine Zac rfl (ZaK rfl rfl h3 rfl rfl ?_)
 refine Zaa rfl rfl ?_
 refine Zac rfl (ZaK rfl rfl h2 rfl rfl ?_)
 refine Zaa rfl rfl ?_
 iterate 2 refine Zab ?_
 refine Zaf ?_
 exact⟨rfl,_,rfl,hcl.add rfl⟩
set_option maxHeartbeats 8000000 in
theorem ZvU (hp:List SM) (p:Nat) (name:Txt) (l:List Br) (hl:l.length≤1000) (hcl:Clean hp) (hp1:nth hp p=some (.cell [.v .s name] true)):
 OpenOK Tryd.prog Zaw 57 [.v (.l Zfu) l, .func 58 [] [.ptr p 0 0]] hp (fun V hp'=>V= .v (.i .i64) (Zah name (l.map (·.1)) 0)∧ ∃ex,hp'=hp++ex∧Clean (hp++ex)):=by
 refine ZaO (fn:=Tryd.f57) (code:=Za0 Tryd.f57) Zao (by kernel_rfl) Tryd.func57 (by kernel_rfl) (Nat.le_of_ble_eq_true (by kernel_rfl)) ?_
 intro base
 have hpl:=Zfs hp1
 refine Zae ?_
 refine Zab ?_
 refine Zaf ?_
 refine Zae ?_
 iterate 3 refine Zab ?_
 refine Zaf ?_
 refine ZaH Zao rfl (fun(i:Nat)=> [(0, .v (.l Zfu) l),(1, .func 58 [] [.ptr p 0 0]),(7,nt l.length),(8,nt i)]) (fun _=>hp) (fun i=>i≤l.length∧Zah name (l.map (·.1)) 0=Zah name ((l.drop i).map (·.1)) i) (fun i=>l.length-i) ?_ 0 ⟨Nat.zero_le _,rfl⟩ (Zai ⟨rfl,rfl,rfl,rfl,trivial⟩)
 rintro i ⟨hi,he⟩
 cases h1:decide ((i:Int)<(l.length:Int))with
 |false=>
  have e:i=l.length:=by have:=of_decide_eq_false h1;omega
  refine Zae ?_
  refine Zab ?_
  refine Zaf ?_
  refine brF h1 ?_
  refine Zae ?_
  refine Zab ?_
  refine Zaf ?_
  exact⟨congrArg (fun x=>SV.v (.i .i64) x) (by rw[he,e,List.drop_length];rfl),[],(List.append_nil _).symm,by rw[List.append_nil];exact hcl⟩
 |true=>
  have hlt:i<l.length:=by have:=of_decide_eq_true h1;omega
  have gx:l[(i:Int).toNat]? =some l[i]:=by rw[Int.toNat_natCast];exact List.getElem?_eq_getElem hlt
  have ed:Zah name ((l.drop i).map (·.1)) i=bif l[i].1==name then(i:Int)else Zah name ((l.drop (i+1)).map (·.1)) (i+1):=by rw[List.drop_eq_getElem_cons hlt,List.map_cons,Zah,ZcI]
  obtain⟨x,ex⟩: ∃x,l[i]=x:=⟨_,rfl⟩
  rw[ex]at gx ed
  have hF:=Zv1 hp p name x hcl hp1
  refine Zae ?_
  refine Zab ?_
  refine Zaf ?_
  refine brT h1 ?_
  refine Zae ?_
  iterate 2 refine Zab ?_
  refine Zaf ?_
  cases h2:(x.1==name)with
  |true=>
   rw[h2]at hF ed
   refine Zae ?_
   iterate 3 refine Zab ?_
   refine Zbb rfl (fun _=>rfl) (Int.natCast_nonneg i) gx rfl rfl ?_
   refine Zab ?_
   refine Zac rfl ((hF.mono ?_))
   rintro _ hp' ⟨rfl,ex,rfl,hc⟩
   refine Zaa rfl rfl ?_
   refine Zaf ?_
   refine brT rfl ?_
   refine Zae ?_
   iterate 2 refine Zab ?_
   refine Zaf ?_
   refine ZaC ?_
   repeat (first|refine Zay ?_|refine Zax ?_|refine Zav ?_)
   exact⟨congrArg (fun x=>SV.v (.i .i64) x) (he.trans ed).symm,_,rfl,hc⟩
  |false=>
   rw[h2]at hF ed
   refine Zae ?_
   iterate 3 refine Zab ?_
   refine Zbb rfl (fun _=>rfl) (Int.natCast_nonneg i) gx rfl rfl ?_
   refine Zab ?_
   refine Zac rfl ((hF.mono ?_))
   rintro _ hp' ⟨rfl,ex,rfl,hc⟩
   refine Zaa rfl rfl ?_
   refine Zaf ?_
   refine brF rfl ?_
   refine Zae ?_
   iterate 2 refine Zab ?_
   refine Zaf ?_
   refine⟨i+1,⟨hlt,he.trans ed⟩,by show l.length-(i+1)<l.length-i;omega, ?_⟩
   refine ZbQ (Nat.le_refl _) ⟨rfl,Za4,rfl,fun id hid=> ?_,rfl,Za4,congrArg (fun x=>some (SV.v (.i .i64) x)) (Za7 (by omega)),Za4,trivial⟩ hcl.lt
   have h:id=p:=by simpa[Zcz,rchL]using hid
   rw[h];exact hpl
set_option maxHeartbeats 8000000 in
theorem ZvL (hp:List SM) (p:Nat) (name:Txt) (x:Ge) (hcl:Clean hp) (hp1:nth hp p=some (.cell [.v .s name] true)):
 OpenOK Tryd.prog Zaw 60 [.agg [.v .s x.1, .v .s x.2.1, .v (.i .i64) x.2.2.1, .v (.i .i64) x.2.2.2.1, .v (.i .i64) x.2.2.2.2], .ptr p 0 0] hp (fun V hp'=>V= .v .b (x.1==name)∧ ∃ex,hp'=hp++ex∧Clean (hp++ex)):=by
 refine ZaO (fn:=Tryd.f60) (code:=Za0 Tryd.f60) Zao (by kernel_rfl) Tryd.func60 (by kernel_rfl) (Nat.le_of_ble_eq_true (by kernel_rfl)) ?_
 intro base
 have h2:nth (hp++ [SM.cell [.v .s x.1, .v .s x.2.1, .v (.i .i64) x.2.2.1, .v (.i .i64) x.2.2.2.1, .v (.i .i64) x.2.2.2.2] true]) p=some (.cell [.v .s name] true):=Zc5 hp1
 have h3:nth (hp++ [SM.cell [.v .s x.1, .v .s x.2.1, .v (.i .i64) x.2.2.1, .v (.i .i64) x.2.2.2.1, .v (.i .i64) x.2.2.2.2] true]) hp.length=some (.cell [.v .s x.1, .v .s x.2.1, .v (.i .i64) x.2.2.1, .v (.i .i64) x.2.2.2.1, .v (.i .i64) x.2.2.2.2] true):=ZbV
 refine Zae ?_
 refine ZaR ?_
 refine Zab ?_
 refine Zaf ?_
 refine Zae ?_
 refine Zab ?_
 refine Zac rfl (ZaK rfl rfl h3 rfl rfl ?_)
 refine Zaa rfl rfl ?_
 refine Zac rfl (ZaK rfl rfl h2 rfl rfl ?_)
 refine Zaa rfl rfl ?_
 iterate 2 refine Zab ?_
 refine Zaf ?_
 exact⟨rfl,_,rfl,hcl.add rfl⟩
set_option maxHeartbeats 8000000 in
theorem Zv0 (hp:List SM) (p:Nat) (name:Txt) (l:List Ge) (hl:l.length≤1000) (hcl:Clean hp) (hp1:nth hp p=some (.cell [.v .s name] true)):
 OpenOK Tryd.prog Zaw 59 [.v (.l (.p .s (.p .s (.p (.i .i64) (.p (.i .i64) (.i .i64)))))) l, .func 60 [] [.ptr p 0 0]] hp (fun V hp'=>V= .v (.i .i64) (Zah name (l.map (·.1)) 0)∧ ∃ex,hp'=hp++ex∧Clean (hp++ex)):=by
 refine ZaO (fn:=Tryd.f59) (code:=Za0 Tryd.f59) Zao (by kernel_rfl) Tryd.func59 (by kernel_rfl) (Nat.le_of_ble_eq_true (by kernel_rfl)) ?_
 intro base
 have hpl:=Zfs hp1
 refine Zae ?_
 refine Zab ?_
 refine Zaf ?_
 refine Zae ?_
 iterate 3 refine Zab ?_
 refine Zaf ?_
 refine ZaH Zao rfl (fun(i:Nat)=> [(0, .v (.l (.p .s (.p .s (.p (.i .i64) (.p (.i .i64) (.i .i64)))))) l),(1, .func 60 [] [.ptr p 0 0]),(7,nt l.length),(8,nt i)]) (fun _=>hp) (fun i=>i≤l.length∧Zah name (l.map (·.1)) 0=Zah name ((l.drop i).map (·.1)) i) (fun i=>l.length-i) ?_ 0 ⟨Nat.zero_le _,rfl⟩ (Zai ⟨rfl,rfl,rfl,rfl,trivial⟩)
 rintro i ⟨hi,he⟩
 cases h1:decide ((i:Int)<(l.length:Int))with
 |false=>
  have e:i=l.length:=by have:=of_decide_eq_false h1;omega
  refine Zae ?_
  refine Zab ?_
  refine Zaf ?_
  refine brF h1 ?_
  refine Zae ?_
  refine Zab ?_
  refine Zaf ?_
  exact⟨congrArg (fun x=>SV.v (.i .i64) x) (by rw[he,e,List.drop_length];rfl),[],(List.append_nil _).symm,by rw[List.append_nil];exact hcl⟩
 |true=>
  have hlt:i<l.length:=by have:=of_decide_eq_true h1;omega
  have gx:l[(i:Int).toNat]? =some l[i]:=by rw[Int.toNat_natCast];exact List.getElem?_eq_getElem hlt
  have ed:Zah name ((l.drop i).map (·.1)) i=bif l[i].1==name then(i:Int)else Zah name ((l.drop (i+1)).map (·.1)) (i+1):=by rw[List.drop_eq_getElem_cons hlt,List.map_cons,Zah,ZcI]
  obtain⟨x,ex⟩: ∃x,l[i]=x:=⟨_,rfl⟩
  rw[ex]at gx ed
  have hF:=ZvL hp p name x hcl hp1
  refine Zae ?_
  refine Zab ?_
  refine Zaf ?_
  refine brT h1 ?_
  refine Zae ?_
  iterate 2 refine Zab ?_
  refine Zaf ?_
  cases h2:(x.1==name)with
  |true=>
   rw[h2]at hF ed
   refine Zae ?_
   iterate 3 refine Zab ?_
   refine Zbb rfl (fun _=>rfl) (Int.natCast_nonneg i) gx rfl rfl ?_
   refine Zab ?_
   refine Zac rfl ((hF.mono ?_))
   rintro _ hp' ⟨rfl,ex,rfl,hc⟩
   refine Zaa rfl rfl ?_
   refine Zaf ?_
   refine brT rfl ?_
   refine Zae ?_
   iterate 2 refine Zab ?_
   refine Zaf ?_
   refine ZaC ?_
   repeat (first|refine Zay ?_|refine Zax ?_|refine Zav ?_)
   exact⟨congrArg (fun x=>SV.v (.i .i64) x) (he.trans ed).symm,_,rfl,hc⟩
  |false=>
   rw[h2]at hF ed
   refine Zae ?_
   iterate 3 refine Zab ?_
   refine Zbb rfl (fun _=>rfl) (Int.natCast_nonneg i) gx rfl rfl ?_
   refine Zab ?_
   refine Zac rfl ((hF.mono ?_))
   rintro _ hp' ⟨rfl,ex,rfl,hc⟩
   refine Zaa rfl rfl ?_
   refine Zaf ?_
   refine brF rfl ?_
   refine Zae ?_
   iterate 2 refine Zab ?_
   refine Zaf ?_
   refine⟨i+1,⟨hlt,he.trans ed⟩,by show l.length-(i+1)<l.length-i;omega, ?_⟩
   refine ZbQ (Nat.le_refl _) ⟨rfl,Za4,rfl,fun id hid=> ?_,rfl,Za4,congrArg (fun x=>some (SV.v (.i .i64) x)) (Za7 (by omega)),Za4,trivial⟩ hcl.lt
   have h:id=p:=by simpa[Zcz,rchL]using hid
   rw[h];exact hpl
set_option maxHeartbeats 8000000 in
theorem ZvN (hp:List SM) (p:Nat) (name:Txt) (x:Lo) (hcl:Clean hp) (hp1:nth hp p=some (.cell [.v .s name] true)):
 OpenOK Tryd.prog Zaw 62 [.agg [.v .s x.1, .v .s x.2.1, .v (.i .i64) x.2.2], .ptr p 0 0] hp (fun V hp'=>V= .v .b (x.1==name)∧ ∃ex,hp'=hp++ex∧Clean (hp++ex)):=by
 refine ZaO (fn:=Tryd.f62) (code:=Za0 Tryd.f62) Zao (by kernel_rfl) Tryd.func62 (by kernel_rfl) (Nat.le_of_ble_eq_true (by kernel_rfl)) ?_
 intro base
 have h2:nth (hp++ [SM.cell [.v .s x.1, .v .s x.2.1, .v (.i .i64) x.2.2] true]) p=some (.cell [.v .s name] true):=Zc5 hp1
 have h3:nth (hp++ [SM.cell [.v .s x.1, .v .s x.2.1, .v (.i .i64) x.2.2] true]) hp.length=some (.cell [.v .s x.1, .v .s x.2.1, .v (.i .i64) x.2.2] true):=ZbV
 refine Zae ?_
 refine ZaR ?_
 refine Zab ?_
 refine Zaf ?_
 refine Zae ?_
 refine Zab ?_
 refine Zac rfl (ZaK rfl rfl h3 rfl rfl ?_)
 refine Zaa rfl rfl ?_
 refine Zac rfl (ZaK rfl rfl h2 rfl rfl ?_)
 refine Zaa rfl rfl ?_
 iterate 2 refine Zab ?_
 refine Zaf ?_
 exact⟨rfl,_,rfl,hcl.add rfl⟩
set_option maxHeartbeats 8000000 in
theorem Zwa (hp:List SM) (p:Nat) (name:Txt) (l:List Lo) (hl:l.length≤1000) (hcl:Clean hp) (hp1:nth hp p=some (.cell [.v .s name] true)):
 OpenOK Tryd.prog Zaw 61 [.v (.l (.p .s (.p .s (.i .i64)))) l, .func 62 [] [.ptr p 0 0]] hp (fun V hp'=>V= .v (.i .i64) (Zah name (l.map (·.1)) 0)∧ ∃ex,hp'=hp++ex∧Clean (hp++ex)):=by
 refine ZaO (fn:=Tryd.f61) (code:=Za0 Tryd.f61) Zao (by kernel_rfl) Tryd.func61 (by kernel_rfl) (Nat.le_of_ble_eq_true (by kernel_rfl)) ?_
 intro base
 have hpl:=Zfs hp1
 refine Zae ?_
 refine Zab ?_
 refine Zaf ?_
 refine Zae ?_
 iterate 3 refine Zab ?_
 refine Zaf ?_
 refine ZaH Zao rfl (fun(i:Nat)=> [(0, .v (.l (.p .s (.p .s (.i .i64)))) l),(1, .func 62 [] [.ptr p 0 0]),(7,nt l.length),(8,nt i)]) (fun _=>hp) (fun i=>i≤l.length∧Zah name (l.map (·.1)) 0=Zah name ((l.drop i).map (·.1)) i) (fun i=>l.length-i) ?_ 0 ⟨Nat.zero_le _,rfl⟩ (Zai ⟨rfl,rfl,rfl,rfl,trivial⟩)
 rintro i ⟨hi,he⟩
 cases h1:decide ((i:Int)<(l.length:Int))with
 |false=>
  have e:i=l.length:=by have:=of_decide_eq_false h1;omega
  refine Zae ?_
  refine Zab ?_
  refine Zaf ?_
  refine brF h1 ?_
  refine Zae ?_
  refine Zab ?_
  refine Zaf ?_
  exact⟨congrArg (fun x=>SV.v (.i .i64) x) (by rw[he,e,List.drop_length];rfl),[],(List.append_nil _).symm,by rw[List.append_nil];exact hcl⟩
 |true=>
  have hlt:i<l.length:=by have:=of_decide_eq_true h1;omega
  have gx:l[(i:Int).toNat]? =some l[i]:=by rw[Int.toNat_natCast];exact List.getElem?_eq_getElem hlt
  have ed:Zah name ((l.drop i).map (·.1)) i=bif l[i].1==name then(i:Int)else Zah name ((l.drop (i+1)).map (·.1)) (i+1):=by rw[List.drop_eq_getElem_cons hlt,List.map_cons,Zah,ZcI]
  obtain⟨x,ex⟩: ∃x,l[i]=x:=⟨_,rfl⟩
  rw[ex]at gx ed
  have hF:=ZvN hp p name x hcl hp1
  refine Zae ?_
  refine Zab ?_
  refine Zaf ?_
  refine brT h1 ?_
  refine Zae ?_
  iterate 2 refine Zab ?_
  refine Zaf ?_
  cases h2:(x.1==name)with
  |true=>
   rw[h2]at hF ed
   refine Zae ?_
   iterate 3 refine Zab ?_
   refine Zbb rfl (fun _=>rfl) (Int.natCast_nonneg i) gx rfl rfl ?_
   refine Zab ?_
   refine Zac rfl ((hF.mono ?_))
   rintro _ hp' ⟨rfl,ex,rfl,hc⟩
   refine Zaa rfl rfl ?_
   refine Zaf ?_
   refine brT rfl ?_
   refine Zae ?_
   iterate 2 refine Zab ?_
   refine Zaf ?_
   refine ZaC ?_
   repeat (first|refine Zay ?_|refine Zax ?_|refine Zav ?_)
   exact⟨congrArg (fun x=>SV.v (.i .i64) x) (he.trans ed).symm,_,rfl,hc⟩
  |false=>
   rw[h2]at hF ed
   refine Zae ?_
   iterate 3 refine Zab ?_
   refine Zbb rfl (fun _=>rfl) (Int.natCast_nonneg i) gx rfl rfl ?_
   refine Zab ?_
   refine Zac rfl ((hF.mono ?_))
   rintro _ hp' ⟨rfl,ex,rfl,hc⟩
   refine Zaa rfl rfl ?_
   refine Zaf ?_
   refine brF rfl ?_
   refine Zae ?_
   iterate 2 refine Zab ?_
   refine Zaf ?_
   refine⟨i+1,⟨hlt,he.trans ed⟩,by show l.length-(i+1)<l.length-i;omega, ?_⟩
   refine ZbQ (Nat.le_refl _) ⟨rfl,Za4,rfl,fun id hid=> ?_,rfl,Za4,congrArg (fun x=>some (SV.v (.i .i64) x)) (Za7 (by omega)),Za4,trivial⟩ hcl.lt
   have h:id=p:=by simpa[Zcz,rchL]using hid
   rw[h];exact hpl
set_option maxHeartbeats 8000000 in
theorem Zv8 (hp:List SM) (p:Nat) (name:Txt) (x:Sto) (hcl:Clean hp) (hp1:nth hp p=some (.cell [.v .s name] true)):
 OpenOK Tryd.prog Zaw 64 [.agg [.v .s x.1, .v .s x.2.1, .v (.i .i64) x.2.2.1, .v (.i .i64) x.2.2.2.1, .v (.i .i64) x.2.2.2.2], .ptr p 0 0] hp (fun V hp'=>V= .v .b (x.1==name)∧ ∃ex,hp'=hp++ex∧Clean (hp++ex)):=by
 refine ZaO (fn:=Tryd.f64) (code:=Za0 Tryd.f64) Zao (by kernel_rfl) Tryd.func64 (by kernel_rfl) (Nat.le_of_ble_eq_true (by kernel_rfl)) ?_
 intro base
 have h2:nth (hp++ [SM.cell [.v .s x.1, .v .s x.2.1, .v (.i .i64) x.2.2.1, .v (.i .i64) x.2.2.2.1, .v (.i .i64) x.2.2.2.2] true]) p=some (.cell [.v .s name] true):=Zc5 hp1
 have h3:nth (hp++ [SM.cell [.v .s x.1, .v .s x.2.1, .v (.i .i64) x.2.2.1, .v (.i .i64) x.2.2.2.1, .v (.i .i64) x.2.2.2.2] true]) hp.length=some (.cell [.v .s x.1, .v .s x.2.1, .v (.i .i64) x.2.2.1, .v (.i .i64) x.2.2.2.1, .v (.i .i64) x.2.2.2.2] true):=ZbV
 refine Zae ?_
 refine ZaR ?_
 refine Zab ?_
 refine Zaf ?_
 refine Zae ?_
 refine Zab ?_
 refine Zac rfl (ZaK rfl rfl h3 rfl rfl ?_)
 refine Zaa rfl rfl ?_
 refine Zac rfl (ZaK rfl rfl h2 rfl rfl ?_)
 refine Zaa rfl rfl ?_
 iterate 2 refine Zab ?_
 refine Zaf ?_
 exact⟨rfl,_,rfl,hcl.add rfl⟩
set_option maxHeartbeats 8000000 in
theorem ZvK (hp:List SM) (p:Nat) (name:Txt) (l:List Sto) (hl:l.length≤1000) (hcl:Clean hp) (hp1:nth hp p=some (.cell [.v .s name] true)):
 OpenOK Tryd.prog Zaw 63 [.v (.l (.p .s (.p .s (.p (.i .i64) (.p (.i .i64) (.i .i64)))))) l, .func 64 [] [.ptr p 0 0]] hp (fun V hp'=>V= .v (.i .i64) (Zah name (l.map (·.1)) 0)∧ ∃ex,hp'=hp++ex∧Clean (hp++ex)):=by
 refine ZaO (fn:=Tryd.f63) (code:=Za0 Tryd.f63) Zao (by kernel_rfl) Tryd.func63 (by kernel_rfl) (Nat.le_of_ble_eq_true (by kernel_rfl)) ?_
 intro base
 have hpl:=Zfs hp1
 refine Zae ?_
 refine Zab ?_
 refine Zaf ?_
 refine Zae ?_
 iterate 3 refine Zab ?_
 refine Zaf ?_
 refine ZaH Zao rfl (fun(i:Nat)=> [(0, .v (.l (.p .s (.p .s (.p (.i .i64) (.p (.i .i64) (.i .i64)))))) l),(1, .func 64 [] [.ptr p 0 0]),(7,nt l.length),(8,nt i)]) (fun _=>hp) (fun i=>i≤l.length∧Zah name (l.map (·.1)) 0=Zah name ((l.drop i).map (·.1)) i) (fun i=>l.length-i) ?_ 0 ⟨Nat.zero_le _,rfl⟩ (Zai ⟨rfl,rfl,rfl,rfl,trivial⟩)
 rintro i ⟨hi,he⟩
 cases h1:decide ((i:Int)<(l.length:Int))with
 |false=>
  have e:i=l.length:=by have:=of_decide_eq_false h1;omega
  refine Zae ?_
  refine Zab ?_
  refine Zaf ?_
  refine brF h1 ?_
  refine Zae ?_
  refine Zab ?_
  refine Zaf ?_
  exact⟨congrArg (fun x=>SV.v (.i .i64) x) (by rw[he,e,List.drop_length];rfl),[],(List.append_nil _).symm,by rw[List.append_nil];exact hcl⟩
 |true=>
  have hlt:i<l.length:=by have:=of_decide_eq_true h1;omega
  have gx:l[(i:Int).toNat]? =some l[i]:=by rw[Int.toNat_natCast];exact List.getElem?_eq_getElem hlt
  have ed:Zah name ((l.drop i).map (·.1)) i=bif l[i].1==name then(i:Int)else Zah name ((l.drop (i+1)).map (·.1)) (i+1):=by rw[List.drop_eq_getElem_cons hlt,List.map_cons,Zah,ZcI]
  obtain⟨x,ex⟩: ∃x,l[i]=x:=⟨_,rfl⟩
  rw[ex]at gx ed
  have hF:=Zv8 hp p name x hcl hp1
  refine Zae ?_
  refine Zab ?_
  refine Zaf ?_
  refine brT h1 ?_
  refine Zae ?_
  iterate 2 refine Zab ?_
  refine Zaf ?_
  cases h2:(x.1==name)with
  |true=>
   rw[h2]at hF ed
   refine Zae ?_
   iterate 3 refine Zab ?_
   refine Zbb rfl (fun _=>rfl) (Int.natCast_nonneg i) gx rfl rfl ?_
   refine Zab ?_
   refine Zac rfl ((hF.mono ?_))
   rintro _ hp' ⟨rfl,ex,rfl,hc⟩
   refine Zaa rfl rfl ?_
   refine Zaf ?_
   refine brT rfl ?_
   refine Zae ?_
   iterate 2 refine Zab ?_
   refine Zaf ?_
   refine ZaC ?_
   repeat (first|refine Zay ?_|refine Zax ?_|refine Zav ?_)
   exact⟨congrArg (fun x=>SV.v (.i .i64) x) (he.trans ed).symm,_,rfl,hc⟩
  |false=>
   rw[h2]at hF ed
   refine Zae ?_
   iterate 3 refine Zab ?_
   refine Zbb rfl (fun _=>rfl) (Int.natCast_nonneg i) gx rfl rfl ?_
   refine Zab ?_
   refine Zac rfl ((hF.mono ?_))
   rintro _ hp' ⟨rfl,ex,rfl,hc⟩
   refine Zaa rfl rfl ?_
   refine Zaf ?_
   refine brF rfl ?_
   refine Zae ?_
   iterate 2 refine Zab ?_
   refine Zaf ?_
   refine⟨i+1,⟨hlt,he.trans ed⟩,by show l.length-(i+1)<l.length-i;omega, ?_⟩
   refine ZbQ (Nat.le_refl _) ⟨rfl,Za4,rfl,fun id hid=> ?_,rfl,Za4,congrArg (fun x=>some (SV.v (.i .i64) x)) (Za7 (by omega)),Za4,trivial⟩ hcl.lt
   have h:id=p:=by simpa[Zcz,rchL]using hid
   rw[h];exact hpl
def ZaF (n:Ne.Net) (s:Txt):Txt×Int:=
 bif decide (Zah s n.nodes 0≥0)then([110,111,100,101],Zah s n.nodes 0)else bif decide (Zah s (n.sws.map (·.1)) 0≥0)then([115,119,105,116,99,104],Zah s (n.sws.map (·.1)) 0)else bif decide (Zah s (n.brs.map (·.1)) 0≥0)then([98,114,97,110,99,104],Zah s (n.brs.map (·.1)) 0)else bif decide (Zah s (n.gens.map (·.1)) 0≥0)then([103,101,110],Zah s (n.gens.map (·.1)) 0)else bif decide (Zah s (n.loads.map (·.1)) 0≥0)then([108,111,97,100],Zah s (n.loads.map (·.1)) 0)else bif decide (Zah s (n.stores.map (·.1)) 0≥0)then([115,116,111,114,101],Zah s (n.stores.map (·.1)) 0)else([],-1)
set_option maxHeartbeats 16000000 in
theorem ZuN (n:Ne.Net) (s:Txt) (hb:big n=false):PureOK Tryd.prog Zaw 27 [.agg (Za2 n), .v .s s] (fun V=>V= .tup [.v .s (ZaF n s).1, .v (.i .i64) (ZaF n s).2]):=by
 refine Zau Zao Tryd.func27 ?_
 simp only[big,Bool.or_eq_false_iff,decide_eq_false_iff_not]at hb
 obtain⟨b1,b2,b3,b4,b5,b6⟩:=hb
 have hI:=Zl3 n.nodes s (by omega)
 have hc0:Clean [.cell (Za2 n) true, .cell [.v .s s] true]:=fun m hm=>by
  simp only[List.mem_cons,List.not_mem_nil,or_false]at hm
  rcases hm with rfl|rfl<;>rfl
 refine Zae ?_
 refine ZaR ?_
 refine ZaR ?_
 iterate 2 refine Zab ?_
 refine Zaf ?_
 refine Zae ?_
 refine Zab ?_
 refine Zag rfl (fun _=>rfl) rfl rfl rfl ?_
 refine Zag rfl (fun _=>rfl) rfl rfl rfl ?_
 refine Zac rfl ((hI).mono ?_)
 rintro _ rfl
 refine Zaa rfl rfl ?_
 refine Zab ?_
 refine Zaf ?_
 cases g0:decide (Zah s n.nodes 0≥0)with
 |true=>
  have e:ZaF n s=([110,111,100,101],Zah s n.nodes 0):=by simp only[ZaF,g0];rfl
  refine Zae ?_
  iterate 2 refine Zab ?_
  refine Zaf ?_
  refine brT g0 ?_
  rw[e]
  refine Zae ?_
  iterate 3 refine Zab ?_
  refine Zaf ?_
  rfl
 |false=>
  refine Zae ?_
  iterate 2 refine Zab ?_
  refine Zaf ?_
  refine brF g0 ?_
  have hx:=Zv3 [SM.cell (Za2 n) true, .cell [.v .s s] true] 1 s n.sws (by omega) hc0 rfl
  refine Zae ?_
  refine Zab ?_
  refine Zag rfl (fun _=>rfl) rfl rfl rfl ?_
  refine Zab ?_
  refine Zac rfl ((hx.mono ?_))
  rintro _ hp' ⟨rfl,ex1,rfl,hc1⟩
  refine Zaa rfl rfl ?_
  refine Zab ?_
  refine Zaf ?_
  cases g1:decide (Zah s (n.sws.map (·.1)) 0≥0)with
  |true=>
   have e:ZaF n s=([115,119,105,116,99,104],Zah s (n.sws.map (·.1)) 0):=by simp only[ZaF,g0,g1];rfl
   refine Zae ?_
   iterate 2 refine Zab ?_
   refine Zaf ?_
   refine brT g1 ?_
   rw[e]
   refine Zae ?_
   iterate 3 refine Zab ?_
   refine Zaf ?_
   rfl
  |false=>
   refine Zae ?_
   iterate 2 refine Zab ?_
   refine Zaf ?_
   refine brF g1 ?_
   have hx:=ZvU ([SM.cell (Za2 n) true, .cell [.v .s s] true]++ex1) 1 s n.brs (by omega) hc1 rfl
   refine Zae ?_
   refine Zab ?_
   refine Zag rfl (fun _=>rfl) rfl rfl rfl ?_
   refine Zab ?_
   refine Zac rfl ((hx.mono ?_))
   rintro _ hp' ⟨rfl,ex2,rfl,hc2⟩
   refine Zaa rfl rfl ?_
   refine Zab ?_
   refine Zaf ?_
   cases g2:decide (Zah s (n.brs.map (·.1)) 0≥0)with
   |true=>
    have e:ZaF n s=([98,114,97,110,99,104],Zah s (n.brs.map (·.1)) 0):=by simp only[ZaF,g0,g1,g2];rfl
    refine Zae ?_
    iterate 2 refine Zab ?_
    refine Zaf ?_
    refine brT g2 ?_
    rw[e]
    refine Zae ?_
    iterate 3 refine Zab ?_
    refine Zaf ?_
    rfl
   |false=>
    refine Zae ?_
    iterate 2 refine Zab ?_
    refine Zaf ?_
    refine brF g2 ?_
    have hx:=Zv0 (([SM.cell (Za2 n) true, .cell [.v .s s] true]++ex1)++ex2) 1 s n.gens (by omega) hc2 rfl
    refine Zae ?_
    refine Zab ?_
    refine Zag rfl (fun _=>rfl) rfl rfl rfl ?_
    refine Zab ?_
    refine Zac rfl ((hx.mono ?_))
    rintro _ hp' ⟨rfl,ex3,rfl,hc3⟩
    refine Zaa rfl rfl ?_
    refine Zab ?_
    refine Zaf ?_
    cases g3:decide (Zah s (n.gens.map (·.1)) 0≥0)with
    |true=>
     have e:ZaF n s=([103,101,110],Zah s (n.gens.map (·.1)) 0):=by simp only[ZaF,g0,g1,g2,g3];rfl
     refine Zae ?_
     iterate 2 refine Zab ?_
     refine Zaf ?_
     refine brT g3 ?_
     rw[e]
     refine Zae ?_
     iterate 3 refine Zab ?_
     refine Zaf ?_
     rfl
    |false=>
     refine Zae ?_
     iterate 2 refine Zab ?_
     refine Zaf ?_
     refine brF g3 ?_
     have hx:=Zwa ((([SM.cell (Za2 n) true, .cell [.v .s s] true]++ex1)++ex2)++ex3) 1 s n.loads (by omega) hc3 rfl
     refine Zae ?_
     refine Zab ?_
     refine Zag rfl (fun _=>rfl) rfl rfl rfl ?_
     refine Zab ?_
     refine Zac rfl ((hx.mono ?_))
     rintro _ hp' ⟨rfl,ex4,rfl,hc4⟩
     refine Zaa rfl rfl ?_
     refine Zab ?_
     refine Zaf ?_
     cases g4:decide (Zah s (n.loads.map (·.1)) 0≥0)with
     |true=>
      have e:ZaF n s=([108,111,97,100],Zah s (n.loads.map (·.1)) 0):=by simp only[ZaF,g0,g1,g2,g3,g4];rfl
      refine Zae ?_
      iterate 2 refine Zab ?_
      refine Zaf ?_
      refine brT g4 ?_
      rw[e]
      refine Zae ?_
      iterate 3 refine Zab ?_
      refine Zaf ?_
      rfl
     |false=>
      refine Zae ?_
      iterate 2 refine Zab ?_
      refine Zaf ?_
      refine brF g4 ?_
      have hx:=ZvK (((([SM.cell (Za2 n) true, .cell [.v .s s] true]++ex1)++ex2)++ex3)++ex4) 1 s n.stores (by omega) hc4 rfl
      refine Zae ?_
      refine Zab ?_
      refine Zag rfl (fun _=>rfl) rfl rfl rfl ?_
      refine Zab ?_
      refine Zac rfl ((hx.mono ?_))
      rintro _ hp' ⟨rfl,ex5,rfl,hc5⟩
      refine Zaa rfl rfl ?_
      refine Zab ?_
      refine Zaf ?_
      cases g5:decide (Zah s (n.stores.map (·.1)) 0≥0)with
      |true=>
       have e:ZaF n s=([115,116,111,114,101],Zah s (n.stores.map (·.1)) 0):=by simp only[ZaF,g0,g1,g2,g3,g4,g5];rfl
       refine Zae ?_
       iterate 2 refine Zab ?_
       refine Zaf ?_
       refine brT g5 ?_
       rw[e]
       refine Zae ?_
       iterate 3 refine Zab ?_
       refine Zaf ?_
       rfl
      |false=>
       refine Zae ?_
       iterate 2 refine Zab ?_
       refine Zaf ?_
       refine brF g5 ?_
       refine Zae ?_
       iterate 2 refine Zab ?_
       refine Zaf ?_
       have e:ZaF n s=([],-1):=by simp only[ZaF,g0,g1,g2,g3,g4,g5];rfl
       rw[e]
       rfl
theorem Zf2 {n:Ne.Net} (h:ZcK n=0):big n=false:=by
 cases hb:big n with
 |false=>rfl
 |true=>rw[Zcc hb]at h;cases h
def Zb2 (n:Ne.Net) (s:Txt):Txt×(Int×Int):=bif !decide (ZcK n=0)then([],0,ZcK n)else bif decide ((ZaF n s).2<0)then([],0,6)else((ZaF n s).1,(ZaF n s).2,0)
set_option maxHeartbeats 16000000 in
theorem Zdg (n:Ne.Net) (s:Txt) (hz:Zbi n):PureOK Tryd.prog Zaw 5 [.agg (Za2 n), .v .s s] (fun V=>V= .tup [.v .s (Zb2 n s).1, .v (.i .i64) (Zb2 n s).2.1, .v (.i .i64) (Zb2 n s).2.2]):=by
 refine Zau Zao Tryd.func5 ?_
 have hC:=ZpU n hz
 cases h1:decide (ZcK n=0)with
 |false=>
  have hc:(!decide (ZcK n=0))=true:=by rw[h1];rfl
  have e:Zb2 n s=([],0,ZcK n):=by rw[Zb2,hc];rfl
  rw[e]
  refine Zae ?_
  refine ZaR ?_
  iterate 3 refine Zab ?_
  refine Zaf ?_
  refine Zae ?_
  refine Zag rfl (fun _=>rfl) rfl rfl rfl ?_
  refine Zac rfl ((hC).mono ?_)
  rintro _ rfl
  refine Zaa rfl rfl ?_
  refine Zab ?_
  refine Zaf ?_
  refine Zae ?_
  iterate 2 refine Zab ?_
  refine Zaf ?_
  refine brT hc ?_
  refine Zae ?_
  iterate 4 refine Zab ?_
  refine Zaf ?_
  rfl
 |true=>
  have hc:(!decide (ZcK n=0))=false:=by rw[h1];rfl
  have hF:=ZuN n s (Zf2 (of_decide_eq_true h1))
  cases h2:decide ((ZaF n s).2<0)with
  |true=>
   have e:Zb2 n s=([],0,6):=by rw[Zb2,hc,h2];rfl
   rw[e]
   refine Zae ?_
   refine ZaR ?_
   iterate 3 refine Zab ?_
   refine Zaf ?_
   refine Zae ?_
   refine Zag rfl (fun _=>rfl) rfl rfl rfl ?_
   refine Zac rfl ((hC).mono ?_)
   rintro _ rfl
   refine Zaa rfl rfl ?_
   refine Zab ?_
   refine Zaf ?_
   refine Zae ?_
   iterate 2 refine Zab ?_
   refine Zaf ?_
   refine brF hc ?_
   refine Zae ?_
   refine Zag rfl (fun _=>rfl) rfl rfl rfl ?_
   refine Zab ?_
   refine Zac rfl ((hF).mono ?_)
   rintro _ rfl
   refine Zaa rfl rfl ?_
   iterate 5 refine Zab ?_
   refine Zaf ?_
   refine Zae ?_
   iterate 2 refine Zab ?_
   refine Zaf ?_
   refine brT h2 ?_
   refine Zae ?_
   iterate 3 refine Zab ?_
   refine Zaf ?_
   rfl
  |false=>
   have e:Zb2 n s=((ZaF n s).1,(ZaF n s).2,0):=by rw[Zb2,hc,h2];rfl
   rw[e]
   refine Zae ?_
   refine ZaR ?_
   iterate 3 refine Zab ?_
   refine Zaf ?_
   refine Zae ?_
   refine Zag rfl (fun _=>rfl) rfl rfl rfl ?_
   refine Zac rfl ((hC).mono ?_)
   rintro _ rfl
   refine Zaa rfl rfl ?_
   refine Zab ?_
   refine Zaf ?_
   refine Zae ?_
   iterate 2 refine Zab ?_
   refine Zaf ?_
   refine brF hc ?_
   refine Zae ?_
   refine Zag rfl (fun _=>rfl) rfl rfl rfl ?_
   refine Zab ?_
   refine Zac rfl ((hF).mono ?_)
   rintro _ rfl
   refine Zaa rfl rfl ?_
   iterate 5 refine Zab ?_
   refine Zaf ?_
   refine Zae ?_
   iterate 2 refine Zab ?_
   refine Zaf ?_
   refine brF h2 ?_
   refine Zae ?_
   iterate 5 refine Zab ?_
   refine Zaf ?_
   rfl
def Zec (n:Ne.Net) (s:Txt):Int×Int:=bif !decide (ZcK n=0)then(0,ZcK n)else bif decide (Zah s n.nodes 0<0)then(0,6)else(Zah s n.nodes 0,0)
set_option maxHeartbeats 16000000 in
theorem ZnE (n:Ne.Net) (s:Txt) (hz:Zbi n):PureOK Tryd.prog Zaw 6 [.agg (Za2 n), .v .s s] (fun V=>V= .tup [.v (.i .i64) (Zec n s).1, .v (.i .i64) (Zec n s).2]):=by
 refine Zau Zao Tryd.func6 ?_
 have hC:=ZpU n hz
 cases h1:decide (ZcK n=0)with
 |false=>
  have hc:(!decide (ZcK n=0))=true:=by rw[h1];rfl
  have e:Zec n s=(0,ZcK n):=by rw[Zec,hc];rfl
  rw[e]
  refine Zae ?_
  refine ZaR ?_
  iterate 2 refine Zab ?_
  refine Zaf ?_
  refine Zae ?_
  refine Zag rfl (fun _=>rfl) rfl rfl rfl ?_
  refine Zac rfl ((hC).mono ?_)
  rintro _ rfl
  refine Zaa rfl rfl ?_
  refine Zab ?_
  refine Zaf ?_
  refine Zae ?_
  iterate 2 refine Zab ?_
  refine Zaf ?_
  refine brT hc ?_
  refine Zae ?_
  iterate 3 refine Zab ?_
  refine Zaf ?_
  rfl
 |true=>
  have hc:(!decide (ZcK n=0))=false:=by rw[h1];rfl
  have hb:=Zf2 (of_decide_eq_true h1)
  simp only[big,Bool.or_eq_false_iff,decide_eq_false_iff_not]at hb
  have hF:=Zl3 n.nodes s (by omega)
  cases h2:decide (Zah s n.nodes 0<0)with
  |true=>
   have e:Zec n s=(0,6):=by rw[Zec,hc,h2];rfl
   rw[e]
   refine Zae ?_
   refine ZaR ?_
   iterate 2 refine Zab ?_
   refine Zaf ?_
   refine Zae ?_
   refine Zag rfl (fun _=>rfl) rfl rfl rfl ?_
   refine Zac rfl ((hC).mono ?_)
   rintro _ rfl
   refine Zaa rfl rfl ?_
   refine Zab ?_
   refine Zaf ?_
   refine Zae ?_
   iterate 2 refine Zab ?_
   refine Zaf ?_
   refine brF hc ?_
   refine Zae ?_
   refine Zab ?_
   refine Zag rfl (fun _=>rfl) rfl rfl rfl ?_
   refine Zab ?_
   refine Zac rfl ((hF).mono ?_)
   rintro _ rfl
   refine Zaa rfl rfl ?_
   refine Zab ?_
   refine Zaf ?_
   refine Zae ?_
   iterate 2 refine Zab ?_
   refine Zaf ?_
   refine brT h2 ?_
   refine Zae ?_
   iterate 2 refine Zab ?_
   refine Zaf ?_
   rfl
  |false=>
   have e:Zec n s=(Zah s n.nodes 0,0):=by rw[Zec,hc,h2];rfl
   rw[e]
   refine Zae ?_
   refine ZaR ?_
   iterate 2 refine Zab ?_
   refine Zaf ?_
   refine Zae ?_
   refine Zag rfl (fun _=>rfl) rfl rfl rfl ?_
   refine Zac rfl ((hC).mono ?_)
   rintro _ rfl
   refine Zaa rfl rfl ?_
   refine Zab ?_
   refine Zaf ?_
   refine Zae ?_
   iterate 2 refine Zab ?_
   refine Zaf ?_
   refine brF hc ?_
   refine Zae ?_
   refine Zab ?_
   refine Zag rfl (fun _=>rfl) rfl rfl rfl ?_
   refine Zab ?_
   refine Zac rfl ((hF).mono ?_)
   rintro _ rfl
   refine Zaa rfl rfl ?_
   refine Zab ?_
   refine Zaf ?_
   refine Zae ?_
   iterate 2 refine Zab ?_
   refine Zaf ?_
   refine brF h2 ?_
   refine Zae ?_
   iterate 3 refine Zab ?_
   refine Zaf ?_
   rfl
end Go.Proofs.YtgngdcpglnfkeaaDoor
