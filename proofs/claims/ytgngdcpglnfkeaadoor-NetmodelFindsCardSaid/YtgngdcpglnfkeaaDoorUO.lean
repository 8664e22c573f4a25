/-
 The lines of a network and of one without a device. (Plain.)
-/
import Derived.Test.YtgngdcpglnfkeaaDoorUN
set_option linter.constructorNameAsVariable false
set_option linter.unusedSimpArgs false
set_option linter.unusedVariables false
namespace Go.Proofs.YtgngdcpglnfkeaaDoor
open Ne Go.Lib
set_option maxRecDepth 100000
theorem Zmr (x:Sw):Zbe x=Zdh [bif x.2.2.2.1 then[98,114,101,97,107,101,114]else[115,119,105,116,99,104],x.1,x.2.1,x.2.2.1,bif x.2.2.2.2 then[111,112,101,110]else[99,108,111,115,101,100]]:=by
 unfold Zbe
 simp only[Zdh]
 cases x.2.2.2.1<;>cases x.2.2.2.2<;>simp[List.append_assoc]
theorem wd (l:Txt) (h:(l.all fun c=> !isSp c&&decide (c.toNat<128))=true) (hne:l≠ []):Zle l:=
 ⟨hne,fun c hc=>by have:=List.all_eq_true.1 h c hc;simpa using this⟩
theorem Zsx {n:Ne.Net} (hf:Fine n) {x:Sw} (hx:x∈n.sws):Za5 x.1=true∧x.2.1∈n.nodes∧x.2.2.1∈n.nodes:=by
 have h:=hf.dev (swI x) (List.mem_append_left _ (List.mem_map_of_mem hx))
 exact⟨h.1,h.2.1 _ (by simp[swI]),h.2.1 _ (by simp[swI])⟩
theorem Zso {n:Ne.Net} (hf:Fine n) {x:Br} (hx:x∈n.brs):Za5 x.1=true∧x.2.1∈n.nodes∧x.2.2.1∈n.nodes∧Zgk x=false:=by
 have h:=hf.dev (brI x) (List.mem_append_right _ (List.mem_append_left _ (List.mem_map_of_mem hx)))
 exact⟨h.1,h.2.1 _ (by simp[brI]),h.2.1 _ (by simp[brI]),h.2.2⟩
theorem ZsC {n:Ne.Net} (hf:Fine n) {x:Ge} (hx:x∈n.gens):Za5 x.1=true∧x.2.1∈n.nodes∧(geI x).2.2.2=false:=by
 have h:=hf.dev (geI x) (List.mem_append_right _ (List.mem_append_right _ (List.mem_append_left _ (List.mem_map_of_mem hx))))
 exact⟨h.1,h.2.1 _ (by simp[geI]),h.2.2⟩
theorem Zsw {n:Ne.Net} (hf:Fine n) {x:Lo} (hx:x∈n.loads):Za5 x.1=true∧x.2.1∈n.nodes∧(loI x).2.2.2=false:=by
 have h:=hf.dev (loI x) (List.mem_append_right _ (List.mem_append_right _ (List.mem_append_right _ (List.mem_append_left _ (List.mem_map_of_mem hx)))))
 exact⟨h.1,h.2.1 _ (by simp[loI]),h.2.2⟩
theorem Zst {n:Ne.Net} (hf:Fine n) {x:Sto} (hx:x∈n.stores):Za5 x.1=true∧x.2.1∈n.nodes∧(stI x).2.2.2=false:=by
 have h:=hf.dev (stI x) (List.mem_append_right _ (List.mem_append_right _ (List.mem_append_right _ (List.mem_append_right _ (List.mem_map_of_mem hx)))))
 exact⟨h.1,h.2.1 _ (by simp[stI]),h.2.2⟩
theorem Zds {n lo hi:Int} (h:inR n lo hi=true):lo≤n∧n≤hi:=by
 unfold inR at h
 simpa using h
theorem Zp6 {x:Br} (h:Zgk x=false): ∀v∈Zfp x,-1000000≤v∧v≤1000000:=by
 unfold Zgk at h
 simp only[Bool.not_eq_false',Bool.and_eq_true]at h
 obtain⟨⟨⟨⟨⟨h1,h2⟩,h3⟩,h4⟩,h5⟩,h6⟩:=h
 have h1:=Zds h1;have h2:=Zds h2;have h3:=Zds h3;have h4:=Zds h4;have h5:=Zds h5;have h6:=Zds h6
 intro v hv
 simp only[Zfp,List.mem_cons,List.not_mem_nil,or_false]at hv
 rcases hv with rfl|rfl|rfl|rfl|rfl|rfl<;>omega
theorem Zo1 {x:Ge} (h:(geI x).2.2.2=false): ∀v∈ZfM x,-1000000≤v∧v≤1000000:=by
 simp only[geI,Bool.or_eq_false_iff,Bool.not_eq_false']at h
 obtain⟨⟨h1,h2⟩,h3⟩:=h
 have h1:=Zds h1;have h2:=Zds h2;have h3:=Zds h3
 intro v hv
 simp only[ZfM,List.mem_cons,List.not_mem_nil,or_false]at hv
 rcases hv with rfl|rfl|rfl<;>omega
theorem Zpx {x:Lo} (h:(loI x).2.2.2=false): ∀v∈Zf6 x,-1000000≤v∧v≤1000000:=by
 simp only[loI,Bool.not_eq_false']at h
 have h1:=Zds h
 intro v hv
 simp only[Zf6,List.mem_cons,List.not_mem_nil,or_false]at hv
 rcases hv with rfl;omega
theorem Zqm {x:Sto} (h:(stI x).2.2.2=false): ∀v∈ZfF x,-1000000≤v∧v≤1000000:=by
 simp only[stI,Bool.or_eq_false_iff,Bool.not_eq_false']at h
 obtain⟨⟨h1,h2⟩,h3⟩:=h
 have h1:=Zds h1;have h2:=Zds h2;have h3:=Zds h3
 intro v hv
 simp only[ZfF,List.mem_cons,List.not_mem_nil,or_false]at hv
 rcases hv with rfl|rfl|rfl<;>omega
theorem Za6 {n:Ne.Net} (hf:Fine n) {s:Txt} (h:s∈n.nodes):Zle s∧s.length≤8:=Zbq (hf.node s h)
theorem ZfD {vs:List Int}: ∀w∈vs.map ZjR,Zle w:=fun w hw=>by
 obtain⟨v,_,rfl⟩:=List.mem_map.1 hw
 exact Zrg v
theorem Zht {vs:List Int} (h: ∀v∈vs,-1000000≤v∧v≤1000000): ∀w∈vs.map ZjR,w.length≤1000:=fun w hw=>by
 obtain⟨v,hv,rfl⟩:=List.mem_map.1 hw
 have h1:=h v hv
 have:=Zhv h1.1 h1.2
 omega
theorem Zub {n:Ne.Net} (hf:Fine n) {x:Sw} (hx:x∈n.sws):DevLine (Zbe x) x.1:=by
 obtain⟨h1,h2,h3⟩:=Zsx hf hx
 have h1:=Zbq h1;have h2:=Za6 hf h2;have h3:=Za6 hf h3
 rw[Zmr]
 have hr: ∀w∈ [x.2.2.1,bif x.2.2.2.2 then[111,112,101,110]else[99,108,111,115,101,100]],Zle w∧w.length≤1000:=by
  intro w hw
  simp only[List.mem_cons,List.not_mem_nil,or_false]at hw
  rcases hw with rfl|rfl
  ·exact⟨h3.1,by omega⟩
  ·cases x.2.2.2.2
   ·exact⟨wd _ (by decide) (by simp),by decide⟩
   ·exact⟨wd _ (by decide) (by simp),by decide⟩
 cases x.2.2.2.1
 ·exact Zeq (by decide) (wd _ (by decide) (by simp)) h1.1 h2.1 (fun w hw=>(hr w hw).1) (by decide) (by omega) (by omega) (fun w hw=>(hr w hw).2) (by simp)
 ·exact Zeq (by decide) (wd _ (by decide) (by simp)) h1.1 h2.1 (fun w hw=>(hr w hw).1) (by decide) (by omega) (by omega) (fun w hw=>(hr w hw).2) (by simp)
theorem Zt2 {n:Ne.Net} (hf:Fine n) {x:Br} (hx:x∈n.brs):DevLine (Zbl x) x.1:=by
 obtain⟨h1,h2,h3,h4⟩:=Zso hf hx
 have h1:=Zbq h1;have h2:=Za6 hf h2;have h3:=Za6 hf h3;have h4:=Zp6 h4
 rw[Zbl,ZeE (by simp[ZgK])]
 have hr: ∀w∈x.2.2.1::(Zfp x).map ZjR,Zle w∧w.length≤1000:=by
  intro w hw
  rcases List.mem_cons.1 hw with rfl|hw
  ·exact⟨h3.1,by omega⟩
  ·exact⟨ZfD w hw,Zht h4 w hw⟩
 exact Zeq (c:=98) (k:=[114,97,110,99,104]) (by decide) (wd _ (by decide) (by simp)) h1.1 h2.1 (fun w hw=>(hr w hw).1) (by decide) (by omega) (by omega) (fun w hw=>(hr w hw).2) (by simp[Zfp])
theorem Zs2 {n:Ne.Net} (hf:Fine n) {x:Ge} (hx:x∈n.gens):DevLine (Zbr x) x.1:=by
 obtain⟨h1,h2,h4⟩:=ZsC hf hx
 have h1:=Zbq h1;have h2:=Za6 hf h2;have h4:=Zo1 h4
 rw[Zbr,ZeE (by simp[ZgF])]
 exact Zeq (c:=103) (k:=[101,110]) (r:=(ZfM x).map ZjR) (by decide) (wd _ (by decide) (by simp)) h1.1 h2.1 ZfD (by decide) (by omega) (by omega) (Zht h4) (by simp[ZfM])
theorem Ztk {n:Ne.Net} (hf:Fine n) {x:Lo} (hx:x∈n.loads):DevLine (ZbB x) x.1:=by
 obtain⟨h1,h2,h4⟩:=Zsw hf hx
 have h1:=Zbq h1;have h2:=Za6 hf h2;have h4:=Zpx h4
 rw[ZbB,ZeE (by simp[Zgx])]
 exact Zeq (c:=108) (k:=[111,97,100]) (r:=(Zf6 x).map ZjR) (by decide) (wd _ (by decide) (by simp)) h1.1 h2.1 ZfD (by decide) (by omega) (by omega) (Zht h4) (by simp[Zf6])
theorem ZtF {n:Ne.Net} (hf:Fine n) {x:Sto} (hx:x∈n.stores):DevLine (ZbE x) x.1:=by
 obtain⟨h1,h2,h4⟩:=Zst hf hx
 have h1:=Zbq h1;have h2:=Za6 hf h2;have h4:=Zqm h4
 rw[ZbE,ZeE (by simp[ZgI])]
 exact Zeq (c:=115) (k:=[116,111,114,101]) (r:=(ZfF x).map ZjR) (by decide) (wd _ (by decide) (by simp)) h1.1 h2.1 ZfD (by decide) (by omega) (by omega) (Zht h4) (by simp[ZfF])
theorem ZsD {n:Ne.Net} (hf:Fine n):Zi9 n:=by
 have w4: ∀ (k:Txt),k.length≤10→ ∀ (l:List Txt),(∀w∈l,w.length≤8)→ ∀w∈k::l,w.length≤1000:=fun k hk l hl w hw=>by
  rcases List.mem_cons.1 hw with rfl|hw
  ·omega
  ·have:=hl w hw;omega
 refine⟨fun x hx=> ?_,fun x hx=> ?_,fun x hx=> ?_,fun x hx=> ?_,fun x hx=> ?_,fun x hx=> ?_⟩
 ·have:=(Za6 hf hx).2;omega
 ·obtain⟨h1,h2,h3⟩:=Zsx hf hx
  have:=(Zbq h1).2;have:=(Za6 hf h2).2;have:=(Za6 hf h3).2
  omega
 ·obtain⟨h1,h2,h3,h4⟩:=Zso hf hx
  have h1:=(Zbq h1).2;have h2:=(Za6 hf h2).2;have h3:=(Za6 hf h3).2
  refine⟨w4 _ (by decide) _ ?_,Zp6 h4⟩
  intro w hw
  simp only[List.mem_cons,List.not_mem_nil,or_false]at hw
  rcases hw with rfl|rfl|rfl<;>assumption
 ·obtain⟨h1,h2,h4⟩:=ZsC hf hx
  have h1:=(Zbq h1).2;have h2:=(Za6 hf h2).2
  refine⟨w4 _ (by decide) _ ?_,Zo1 h4⟩
  intro w hw
  simp only[List.mem_cons,List.not_mem_nil,or_false]at hw
  rcases hw with rfl|rfl<;>assumption
 ·obtain⟨h1,h2,h4⟩:=Zsw hf hx
  have h1:=(Zbq h1).2;have h2:=(Za6 hf h2).2
  refine⟨w4 _ (by decide) _ ?_,Zpx h4⟩
  intro w hw
  simp only[List.mem_cons,List.not_mem_nil,or_false]at hw
  rcases hw with rfl|rfl<;>assumption
 ·obtain⟨h1,h2,h4⟩:=Zst hf hx
  have h1:=(Zbq h1).2;have h2:=(Za6 hf h2).2
  refine⟨w4 _ (by decide) _ ?_,Zqm h4⟩
  intro w hw
  simp only[List.mem_cons,List.not_mem_nil,or_false]at hw
  rcases hw with rfl|rfl<;>assumption
def Zuo (n:Ne.Net):List (Txt×Txt):=n.sws.map (fun x=>(Zbe x,x.1))++(n.brs.map (fun x=>(Zbl x,x.1))++(n.gens.map (fun x=>(Zbr x,x.1))++(n.loads.map (fun x=>(ZbB x,x.1))++n.stores.map (fun x=>(ZbE x,x.1)))))
theorem Znc (n:Ne.Net):ZaE n=n.nodes.map Za3++(Zuo n).map (·.1):=by
 unfold ZaE Zuo
 simp only[List.map_append,List.map_map,List.nil_append,List.append_assoc]
 rfl
theorem Zrd (n:Ne.Net):(Zuo n).map (·.2)=n.sws.map (·.1)++(n.brs.map (·.1)++(n.gens.map (·.1)++(n.loads.map (·.1)++n.stores.map (·.1)))):=by
 unfold Zuo
 simp only[List.map_append,List.map_map]
 rfl
theorem ZkK {n:Ne.Net} (hf:Fine n): ∀p∈Zuo n,DevLine p.1 p.2:=by
 intro p hp
 unfold Zuo at hp
 simp only[List.mem_append,List.mem_map]at hp
 rcases hp with⟨x,hx,rfl⟩|⟨x,hx,rfl⟩|⟨x,hx,rfl⟩|⟨x,hx,rfl⟩|⟨x,hx,rfl⟩
 ·exact Zub hf hx
 ·exact Zt2 hf hx
 ·exact Zs2 hf hx
 ·exact Ztk hf hx
 ·exact ZtF hf hx
def ZlQ (p:Txt→Bool):List Txt→Nat→Int
 | [],_=> -1
 |x::r,i=>bif p x then(i:Int)else ZlQ p r (i+1)
theorem Zpo (nm:Txt) (r:List Txt): ∀ (l:List Txt) (i:Nat),ZlQ (Zby nm) (l.map Za3++r) i=ZlQ (Zby nm) r (i+l.length)
 | [],i=>rfl
 |s::l,i=>by
  rw[List.map_cons,List.cons_append,ZlQ,ZqB,cond_false,Zpo nm r l (i+1),List.length_cons]
  congr 1
  omega
theorem Zn1 (nm:Txt): ∀ (l:List (Txt×Txt)) (i:Nat),(∀p∈l,DevLine p.1 p.2)→ZlQ (Zby nm) (l.map (·.1)) i=Zah nm (l.map (·.2)) i
 | [],i,_=>rfl
 |p::l,i,h=>by
  rw[List.map_cons,List.map_cons,ZlQ,Zah,Zoe (h p (List.mem_cons_self ..)),ZcI,Zn1 nm l (i+1) fun q hq=>h q (List.mem_cons_of_mem _ hq)]
theorem Zd1 (s:Txt): ∀ (l:List Txt) (i:Nat),Zah s l i=if Zah s l 0<0 then-1 else Zah s l 0+i
 | [],i=>rfl
 |k::r,i=>by
  rw[Zah,Zah]
  cases s==k with
  |true=>rw[cond_true,cond_true,if_neg (by omega)];omega
  |false=>
   rw[cond_false,cond_false,Zd1 s r (i+1),Zd1 s r (0+1)]
   rcases Zkb s r 0 with h|h
   ·rw[h];rfl
   ·rw[if_neg (by omega),if_neg (by omega),if_neg (by omega)];omega
theorem Zb7 (s:Txt) (b:List Txt): ∀ (a:List Txt) (i:Nat),Zah s (a++b) i=if Zah s a 0<0 then Zah s b (i+a.length)else Zah s a 0+i
 | [],i=>rfl
 |k::r,i=>by
  rw[List.cons_append,Zah,Zah]
  cases s==k with
  |true=>rw[cond_true,cond_true,if_neg (by omega)];omega
  |false=>
   rw[cond_false,cond_false,Zb7 s b r (i+1),Zd1 s r (0+1),List.length_cons]
   rcases Zkb s r 0 with h|h
   ·rw[h]
    simp only[show(-1:Int)<0 from by decide,if_true]
    congr 1;omega
   ·rw[if_neg (by omega),if_neg (by omega),if_neg (by omega)];omega
theorem Zna (s:Txt): ∀ (l:List Txt) (i:Nat),Zah s l i<(i:Int)+l.length∨l=[]
 | [],i=> .inr rfl
 |k::r,i=>by
  left
  rw[Zah,List.length_cons]
  cases s==k with
  |true=>rw[cond_true];omega
  |false=>
   rw[cond_false]
   rcases Zna s r (i+1)with h|h
   ·omega
   ·rw[h];simp only[Zah];omega
theorem ZkV {s:Txt} {l:List Txt} (h:0≤Zah s l 0):(Zah s l 0).toNat<l.length:=by
 rcases Zna s l 0 with h1|h1
 ·omega
 ·rw[h1]at h;simp[Zah]at h
end Go.Proofs.YtgngdcpglnfkeaaDoor
