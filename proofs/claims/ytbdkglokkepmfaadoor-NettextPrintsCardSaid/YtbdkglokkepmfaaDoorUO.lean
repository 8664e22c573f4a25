/-
 The lines of a network and of one without a device. (Plain.)
-/
import Derived.Test.YtbdkglokkepmfaaDoorUN
set_option linter.constructorNameAsVariable false
set_option linter.unusedSimpArgs false
set_option linter.unusedVariables false
namespace Go.Proofs.YtbdkglokkepmfaaDoor
open Ne Go.Lib
set_option maxRecDepth 100000
theorem Zhk (x:Sw):ZaZ x=Zc4 [bif x.2.2.2.1 then[98,114,101,97,107,101,114]else[115,119,105,116,99,104],x.1,x.2.1,x.2.2.1,bif x.2.2.2.2 then[111,112,101,110]else[99,108,111,115,101,100]]:=by
 unfold ZaZ
 simp only[Zc4]
 cases x.2.2.2.1<;>cases x.2.2.2.2<;>simp[List.append_assoc]
theorem wd (l:Txt) (h:(l.all fun c=> !isSp c&&decide (c.toNat<128))=true) (hne:l≠ []):Zk1 l:=
 ⟨hne,fun c hc=>by have:=List.all_eq_true.1 h c hc;simpa using this⟩
theorem ZrW {n:Ne.Net} (hf:Fine n) {x:Sw} (hx:x∈n.sws):Za3 x.1=true∧x.2.1∈n.nodes∧x.2.2.1∈n.nodes:=by
 have h:=hf.dev (swI x) (List.mem_append_left _ (List.mem_map_of_mem hx))
 exact⟨h.1,h.2.1 _ (by simp[swI]),h.2.1 _ (by simp[swI])⟩
theorem ZrU {n:Ne.Net} (hf:Fine n) {x:Br} (hx:x∈n.brs):Za3 x.1=true∧x.2.1∈n.nodes∧x.2.2.1∈n.nodes∧ZfN x=false:=by
 have h:=hf.dev (brI x) (List.mem_append_right _ (List.mem_append_left _ (List.mem_map_of_mem hx)))
 exact⟨h.1,h.2.1 _ (by simp[brI]),h.2.1 _ (by simp[brI]),h.2.2⟩
theorem ZrO {n:Ne.Net} (hf:Fine n) {x:Ge} (hx:x∈n.gens):Za3 x.1=true∧x.2.1∈n.nodes∧(geI x).2.2.2=false:=by
 have h:=hf.dev (geI x) (List.mem_append_right _ (List.mem_append_right _ (List.mem_append_left _ (List.mem_map_of_mem hx))))
 exact⟨h.1,h.2.1 _ (by simp[geI]),h.2.2⟩
theorem ZrY {n:Ne.Net} (hf:Fine n) {x:Lo} (hx:x∈n.loads):Za3 x.1=true∧x.2.1∈n.nodes∧(loI x).2.2.2=false:=by
 have h:=hf.dev (loI x) (List.mem_append_right _ (List.mem_append_right _ (List.mem_append_right _ (List.mem_append_left _ (List.mem_map_of_mem hx)))))
 exact⟨h.1,h.2.1 _ (by simp[loI]),h.2.2⟩
theorem ZrK {n:Ne.Net} (hf:Fine n) {x:Sto} (hx:x∈n.stores):Za3 x.1=true∧x.2.1∈n.nodes∧(stI x).2.2.2=false:=by
 have h:=hf.dev (stI x) (List.mem_append_right _ (List.mem_append_right _ (List.mem_append_right _ (List.mem_append_right _ (List.mem_map_of_mem hx)))))
 exact⟨h.1,h.2.1 _ (by simp[stI]),h.2.2⟩
theorem Zdb {n lo hi:Int} (h:inR n lo hi=true):lo≤n∧n≤hi:=by
 unfold inR at h
 simpa using h
theorem ZpU {x:Br} (h:ZfN x=false): ∀v∈ZdQ x,-1000000≤v∧v≤1000000:=by
 unfold ZfN at h
 simp only[Bool.not_eq_false',Bool.and_eq_true]at h
 obtain⟨⟨⟨⟨⟨h1,h2⟩,h3⟩,h4⟩,h5⟩,h6⟩:=h
 have h1:=Zdb h1;have h2:=Zdb h2;have h3:=Zdb h3;have h4:=Zdb h4;have h5:=Zdb h5;have h6:=Zdb h6
 intro v hv
 simp only[ZdQ,List.mem_cons,List.not_mem_nil,or_false]at hv
 rcases hv with rfl|rfl|rfl|rfl|rfl|rfl<;>omega
theorem Zpu {x:Ge} (h:(geI x).2.2.2=false): ∀v∈ZdP x,-1000000≤v∧v≤1000000:=by
 simp only[geI,Bool.or_eq_false_iff,Bool.not_eq_false']at h
 obtain⟨⟨h1,h2⟩,h3⟩:=h
 have h1:=Zdb h1;have h2:=Zdb h2;have h3:=Zdb h3
 intro v hv
 simp only[ZdP,List.mem_cons,List.not_mem_nil,or_false]at hv
 rcases hv with rfl|rfl|rfl<;>omega
theorem ZnZ {x:Lo} (h:(loI x).2.2.2=false): ∀v∈ZdV x,-1000000≤v∧v≤1000000:=by
 simp only[loI,Bool.not_eq_false']at h
 have h1:=Zdb h
 intro v hv
 simp only[ZdV,List.mem_cons,List.not_mem_nil,or_false]at hv
 rcases hv with rfl;omega
theorem Zpn {x:Sto} (h:(stI x).2.2.2=false): ∀v∈ZdU x,-1000000≤v∧v≤1000000:=by
 simp only[stI,Bool.or_eq_false_iff,Bool.not_eq_false']at h
 obtain⟨⟨h1,h2⟩,h3⟩:=h
 have h1:=Zdb h1;have h2:=Zdb h2;have h3:=Zdb h3
 intro v hv
 simp only[ZdU,List.mem_cons,List.not_mem_nil,or_false]at hv
 rcases hv with rfl|rfl|rfl<;>omega
theorem Za2 {n:Ne.Net} (hf:Fine n) {s:Txt} (h:s∈n.nodes):Zk1 s∧s.length≤8:=Zbx (hf.node s h)
theorem Ze9 {vs:List Int}: ∀w∈vs.map Zid,Zk1 w:=fun w hw=>by
 obtain⟨v,_,rfl⟩:=List.mem_map.1 hw
 exact Zrh v
theorem ZgS {vs:List Int} (h: ∀v∈vs,-1000000≤v∧v≤1000000): ∀w∈vs.map Zid,w.length≤1000:=fun w hw=>by
 obtain⟨v,hv,rfl⟩:=List.mem_map.1 hw
 have h1:=h v hv
 have:=Zfi h1.1 h1.2
 omega
theorem ZsW {n:Ne.Net} (hf:Fine n) {x:Sw} (hx:x∈n.sws):DevLine (ZaZ x) x.1:=by
 obtain⟨h1,h2,h3⟩:=ZrW hf hx
 have h1:=Zbx h1;have h2:=Za2 hf h2;have h3:=Za2 hf h3
 rw[Zhk]
 have hr: ∀w∈ [x.2.2.1,bif x.2.2.2.2 then[111,112,101,110]else[99,108,111,115,101,100]],Zk1 w∧w.length≤1000:=by
  intro w hw
  simp only[List.mem_cons,List.not_mem_nil,or_false]at hw
  rcases hw with rfl|rfl
  ·exact⟨h3.1,by omega⟩
  ·cases x.2.2.2.2
   ·exact⟨wd _ (by decide) (by simp),by decide⟩
   ·exact⟨wd _ (by decide) (by simp),by decide⟩
 cases x.2.2.2.1
 ·exact Zez (by decide) (wd _ (by decide) (by simp)) h1.1 h2.1 (fun w hw=>(hr w hw).1) (by decide) (by omega) (by omega) (fun w hw=>(hr w hw).2) (by simp)
 ·exact Zez (by decide) (wd _ (by decide) (by simp)) h1.1 h2.1 (fun w hw=>(hr w hw).1) (by decide) (by omega) (by omega) (fun w hw=>(hr w hw).2) (by simp)
theorem Ztp {n:Ne.Net} (hf:Fine n) {x:Br} (hx:x∈n.brs):DevLine (Za7 x) x.1:=by
 obtain⟨h1,h2,h3,h4⟩:=ZrU hf hx
 have h1:=Zbx h1;have h2:=Za2 hf h2;have h3:=Za2 hf h3;have h4:=ZpU h4
 rw[Za7,ZbY (by simp[ZdF])]
 have hr: ∀w∈x.2.2.1::(ZdQ x).map Zid,Zk1 w∧w.length≤1000:=by
  intro w hw
  rcases List.mem_cons.1 hw with rfl|hw
  ·exact⟨h3.1,by omega⟩
  ·exact⟨Ze9 w hw,ZgS h4 w hw⟩
 exact Zez (c:=98) (k:=[114,97,110,99,104]) (by decide) (wd _ (by decide) (by simp)) h1.1 h2.1 (fun w hw=>(hr w hw).1) (by decide) (by omega) (by omega) (fun w hw=>(hr w hw).2) (by simp[ZdQ])
theorem ZsV {n:Ne.Net} (hf:Fine n) {x:Ge} (hx:x∈n.gens):DevLine (Zbf x) x.1:=by
 obtain⟨h1,h2,h4⟩:=ZrO hf hx
 have h1:=Zbx h1;have h2:=Za2 hf h2;have h4:=Zpu h4
 rw[Zbf,ZbY (by simp[ZdM])]
 exact Zez (c:=103) (k:=[101,110]) (r:=(ZdP x).map Zid) (by decide) (wd _ (by decide) (by simp)) h1.1 h2.1 Ze9 (by decide) (by omega) (by omega) (ZgS h4) (by simp[ZdP])
theorem Zsi {n:Ne.Net} (hf:Fine n) {x:Lo} (hx:x∈n.loads):DevLine (Zbh x) x.1:=by
 obtain⟨h1,h2,h4⟩:=ZrY hf hx
 have h1:=Zbx h1;have h2:=Za2 hf h2;have h4:=ZnZ h4
 rw[Zbh,ZbY (by simp[ZdN])]
 exact Zez (c:=108) (k:=[111,97,100]) (r:=(ZdV x).map Zid) (by decide) (wd _ (by decide) (by simp)) h1.1 h2.1 Ze9 (by decide) (by omega) (by omega) (ZgS h4) (by simp[ZdV])
theorem Ztk {n:Ne.Net} (hf:Fine n) {x:Sto} (hx:x∈n.stores):DevLine (Zbq x) x.1:=by
 obtain⟨h1,h2,h4⟩:=ZrK hf hx
 have h1:=Zbx h1;have h2:=Za2 hf h2;have h4:=Zpn h4
 rw[Zbq,ZbY (by simp[ZdO])]
 exact Zez (c:=115) (k:=[116,111,114,101]) (r:=(ZdU x).map Zid) (by decide) (wd _ (by decide) (by simp)) h1.1 h2.1 Ze9 (by decide) (by omega) (by omega) (ZgS h4) (by simp[ZdU])
theorem Zif {n:Ne.Net} (hf:Fine n):Zps n:=by
 have w4: ∀ (k:Txt),k.length≤10→ ∀ (l:List Txt),(∀w∈l,w.length≤8)→ ∀w∈k::l,w.length≤1000:=fun k hk l hl w hw=>by
  rcases List.mem_cons.1 hw with rfl|hw
  ·omega
  ·have:=hl w hw;omega
 refine⟨fun x hx=> ?_,fun x hx=> ?_,fun x hx=> ?_,fun x hx=> ?_,fun x hx=> ?_,fun x hx=> ?_⟩
 ·have:=(Za2 hf hx).2;omega
 ·obtain⟨h1,h2,h3⟩:=ZrW hf hx
  have:=(Zbx h1).2;have:=(Za2 hf h2).2;have:=(Za2 hf h3).2
  omega
 ·obtain⟨h1,h2,h3,h4⟩:=ZrU hf hx
  have h1:=(Zbx h1).2;have h2:=(Za2 hf h2).2;have h3:=(Za2 hf h3).2
  refine⟨w4 _ (by decide) _ ?_,ZpU h4⟩
  intro w hw
  simp only[List.mem_cons,List.not_mem_nil,or_false]at hw
  rcases hw with rfl|rfl|rfl<;>assumption
 ·obtain⟨h1,h2,h4⟩:=ZrO hf hx
  have h1:=(Zbx h1).2;have h2:=(Za2 hf h2).2
  refine⟨w4 _ (by decide) _ ?_,Zpu h4⟩
  intro w hw
  simp only[List.mem_cons,List.not_mem_nil,or_false]at hw
  rcases hw with rfl|rfl<;>assumption
 ·obtain⟨h1,h2,h4⟩:=ZrY hf hx
  have h1:=(Zbx h1).2;have h2:=(Za2 hf h2).2
  refine⟨w4 _ (by decide) _ ?_,ZnZ h4⟩
  intro w hw
  simp only[List.mem_cons,List.not_mem_nil,or_false]at hw
  rcases hw with rfl|rfl<;>assumption
 ·obtain⟨h1,h2,h4⟩:=ZrK hf hx
  have h1:=(Zbx h1).2;have h2:=(Za2 hf h2).2
  refine⟨w4 _ (by decide) _ ?_,Zpn h4⟩
  intro w hw
  simp only[List.mem_cons,List.not_mem_nil,or_false]at hw
  rcases hw with rfl|rfl<;>assumption
def ZuC (n:Ne.Net):List (Txt×Txt):=n.sws.map (fun x=>(ZaZ x,x.1))++(n.brs.map (fun x=>(Za7 x,x.1))++(n.gens.map (fun x=>(Zbf x,x.1))++(n.loads.map (fun x=>(Zbh x,x.1))++n.stores.map (fun x=>(Zbq x,x.1)))))
theorem Zrb (n:Ne.Net):ZbW n=n.nodes.map ZaY++(ZuC n).map (·.1):=by
 unfold ZbW ZuC
 simp only[List.map_append,List.map_map,List.nil_append,List.append_assoc]
 rfl
theorem ZoU {n:Ne.Net} (hf:Fine n): ∀p∈ZuC n,DevLine p.1 p.2:=by
 intro p hp
 unfold ZuC at hp
 simp only[List.mem_append,List.mem_map]at hp
 rcases hp with⟨x,hx,rfl⟩|⟨x,hx,rfl⟩|⟨x,hx,rfl⟩|⟨x,hx,rfl⟩|⟨x,hx,rfl⟩
 ·exact ZsW hf hx
 ·exact Ztp hf hx
 ·exact ZsV hf hx
 ·exact Zsi hf hx
 ·exact Ztk hf hx
end Go.Proofs.YtbdkglokkepmfaaDoor
