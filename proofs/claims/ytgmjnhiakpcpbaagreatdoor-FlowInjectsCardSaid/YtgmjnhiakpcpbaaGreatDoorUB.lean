/-
 The place of a name in a network. (Printed by tools/genfind.py.)
-/
import Derived.Test.YtgmjnhiakpcpbaaGreatDoorU6
set_option linter.constructorNameAsVariable false
set_option linter.unusedSimpArgs false
set_option linter.unusedVariables false
namespace Go.Proofs.YtgmjnhiakpcpbaaGreatDoor
open Go.Am Go.Tx Ne
set_option maxRecDepth 100000
def Clean (hp:List SM):Prop:= ∀m∈hp,ZgJ m=[]
theorem Clean.lt {hp:List SM} (h:Clean hp): ∀m∈hp,∀id∈ZgJ m,id<hp.length:=fun m hm id hid=>by rw[h m hm]at hid;exact absurd hid List.not_mem_nil
theorem Clean.add {hp:List SM} {m:SM} (h:Clean hp) (hm:ZgJ m=[]):Clean (hp++ [m]):=fun x hx=>by
 rcases List.mem_append.1 hx with hx|hx
 ·exact h x hx
 ·rw[List.mem_singleton.1 hx];exact hm
theorem Zuf {n:Ne.Net} (h:ZdM n=0):big n=false:=by
 cases hb:big n with
 |false=>rfl
 |true=>rw[Zb0 hb]at h;cases h
end Go.Proofs.YtgmjnhiakpcpbaaGreatDoor
/-
 A network in order; powers of devices at nodes. (Plain.)
-/
namespace Go.Proofs.YtgmjnhiakpcpbaaGreatDoor
open Ne Go.Lib
set_option maxRecDepth 100000
theorem Zjo (s:Txt): ∀l:List Txt,ZcA s l=decide (s∈l)
 | []=>by simp[ZcA]
 |k::r=>by
  rw[ZcA,Zjo s r]
  cases h:(s==k)with
  |true=>rw[eq_of_beq h];simp
  |false=>
   have hne:s≠k:=fun e=>by rw[e,beq_self_eq_true]at h;cases h
   simp[hne]
theorem Zsr {nodes met:List Txt} {it:Ne.Item} (h:Zba nodes met it=0):Za8 it.1=true∧ZcA it.1 met=false∧(∀s∈it.2.1,s∈nodes)∧it.2.2.2=false:=by
 unfold Zba at h
 cases h1:Za8 it.1 with
 |false=>rw[h1]at h;simp at h
 |true=>
  rw[h1]at h
  cases h2:ZcA it.1 met with
  |true=>rw[h2]at h;simp at h
  |false=>
   rw[h2]at h
   cases h3:(it.2.1.all fun s=>ZcA s nodes)with
   |false=>rw[h3]at h;simp at h
   |true=>
    rw[h3]at h
    cases h4:(it.2.2.1&&(it.2.1.getD 0 []==it.2.1.getD 1 []))with
    |true=>rw[h4]at h;simp at h
    |false=>
     rw[h4]at h
     cases h5:it.2.2.2 with
     |true=>rw[h5]at h;simp at h
     |false=>
      refine⟨rfl,rfl,fun s hs=> ?_,rfl⟩
      have:=List.all_eq_true.1 h3 s hs
      rw[Zjo]at this
      exact of_decide_eq_true this
theorem ZiI {nodes:List Txt}: ∀ {l:List Ne.Item} {met:List Txt},ZaC nodes met l=0→met.Nodup→(∀it∈l,Za8 it.1=true∧(∀s∈it.2.1,s∈nodes)∧it.2.2.2=false)∧(met++l.map (·.1)).Nodup
 | [],met,_,hn=>⟨fun _ h=>absurd h List.not_mem_nil,by simpa using hn⟩
 |it::l,met,h,hn=>by
  rw[ZaC]at h
  cases h1:decide (Zba nodes met it=0)with
  |false=>rw[h1]at h;exact absurd h (of_decide_eq_false h1)
  |true=>
   rw[h1]at h
   have hd:=Zsr (of_decide_eq_true h1)
   have hm:(met++ [it.1]).Nodup:=by
    rw[List.nodup_append]
    refine⟨hn,by simp,fun a ha b hb e=> ?_⟩
    rw[List.mem_singleton.1 hb]at e
    have h2:=hd.2.1
    rw[Zjo]at h2
    exact(of_decide_eq_false h2) (e▸ha)
   obtain⟨g1,g2⟩:=ZiI (l:=l) h hm
   refine⟨fun x hx=> ?_, ?_⟩
   ·rcases List.mem_cons.1 hx with rfl|hx
    ·exact⟨hd.1,hd.2.2.1,hd.2.2.2⟩
    ·exact g1 x hx
   ·rw[List.map_cons]
    simpa[List.append_assoc]using g2
structure Fine (n:Ne.Net):Prop where
 big:Ne.big n=false
 node: ∀s∈n.nodes,Za8 s=true
 dev: ∀it∈Zo6 n,Za8 it.1=true∧(∀s∈it.2.1,s∈n.nodes)∧it.2.2.2=false
 nd:(n.nodes++(Zo6 n).map (·.1)).Nodup
theorem ZeH {n:Ne.Net} (h:ZdM n=0):Fine n:=by
 have hb:=Zuf h
 unfold ZdM at h
 rw[hb,cond_false]at h
 obtain⟨g1,g2⟩:=ZiI h List.nodup_nil
 refine⟨hb,fun s hs=>(g1 (noI s) (List.mem_append_left _ (List.mem_map_of_mem hs))).1,fun it hi=> ?_, ?_⟩
 ·exact g1 it (List.mem_append_right _ hi)
 ·rw[List.nil_append,List.map_append,List.map_map]at g2
  have e:((fun x:Ne.Item=>x.1)∘noI)=id:=rfl
  rw[e,List.map_id]at g2
  exact g2
theorem ZpY {n:Ne.Net} (hf:Fine n) {x:Ge} (hx:x∈n.gens):Za8 x.1=true∧x.2.1∈n.nodes∧(geI x).2.2.2=false:=by
 have h:=hf.dev (geI x) (List.mem_append_right _ (List.mem_append_right _ (List.mem_append_left _ (List.mem_map_of_mem hx))))
 exact⟨h.1,h.2.1 _ (by simp[geI]),h.2.2⟩
theorem Zqc {n:Ne.Net} (hf:Fine n) {x:Lo} (hx:x∈n.loads):Za8 x.1=true∧x.2.1∈n.nodes∧(loI x).2.2.2=false:=by
 have h:=hf.dev (loI x) (List.mem_append_right _ (List.mem_append_right _ (List.mem_append_right _ (List.mem_append_left _ (List.mem_map_of_mem hx)))))
 exact⟨h.1,h.2.1 _ (by simp[loI]),h.2.2⟩
theorem Zo1 {n:Ne.Net} (hf:Fine n) {x:Sto} (hx:x∈n.stores):Za8 x.1=true∧x.2.1∈n.nodes∧(stI x).2.2.2=false:=by
 have h:=hf.dev (stI x) (List.mem_append_right _ (List.mem_append_right _ (List.mem_append_right _ (List.mem_append_right _ (List.mem_map_of_mem hx)))))
 exact⟨h.1,h.2.1 _ (by simp[stI]),h.2.2⟩
theorem ZkT {x lo hi:Int} (h:inR x lo hi=true):lo≤x∧x≤hi:=by
 unfold inR at h
 simpa using h
theorem Zpp {x:Ge} (h:(geI x).2.2.2=false):0≤x.2.2.1∧x.2.2.1≤100000∧x.2.2.1≤x.2.2.2.1∧x.2.2.2.1≤100000:=by
 simp only[geI,Bool.or_eq_false_iff,Bool.not_eq_false']at h
 obtain⟨⟨h1,h2⟩,_⟩:=h
 have h1:=ZkT h1
 have h2:=ZkT h2
 omega
theorem ZoA {x:Lo} (h:(loI x).2.2.2=false):0≤x.2.2∧x.2.2≤100000:=by
 simp only[loI,Bool.not_eq_false']at h
 exact ZkT h
theorem Zou {x:Sto} (h:(stI x).2.2.2=false):0≤x.2.2.1∧x.2.2.1≤100000∧0≤x.2.2.2.1∧x.2.2.2.1≤100000:=by
 simp only[stI,Bool.or_eq_false_iff,Bool.not_eq_false']at h
 obtain⟨⟨h1,h2⟩,_⟩:=h
 have h1:=ZkT h1
 have h2:=ZkT h2
 omega
def ZaT (l:List (Txt×Int)) (s:Txt):Int:=l.foldl (fun a p=>bif p.1==s then a+p.2 else a) 0
theorem Zb1 (l:List (Txt×Int)) (p:Txt×Int) (s:Txt):ZaT (l++ [p]) s=bif p.1==s then ZaT l s+p.2 else ZaT l s:=by
 simp[ZaT,List.foldl_append]
theorem Zna (s:Txt): ∀ (l:List (Txt×Int)) (a:Int),(∀p∈l,-1000000≤p.2∧p.2≤1000000)→a-l.length*1000000≤l.foldl (fun a p=>bif p.1==s then a+p.2 else a) a∧l.foldl (fun a p=>bif p.1==s then a+p.2 else a) a≤a+l.length*1000000
 | [],a,_=>by simp
 |p::l,a,h=>by
  have hp:=h p List.mem_cons_self
  have ih:=Zna s l (bif p.1==s then a+p.2 else a) fun q hq=>h q (List.mem_cons_of_mem _ hq)
  rw[List.foldl_cons,List.length_cons]
  generalize l.foldl (fun a p=>bif p.1==s then a+p.2 else a) (bif p.1==s then a+p.2 else a)=z at*
  cases hb:(p.1==s)<;>simp only[hb,cond_true,cond_false]at ih<;>omega
theorem Zfl {l:List (Txt×Int)} (s:Txt) (hl:l.length≤1000) (h: ∀p∈l,-1000000≤p.2∧p.2≤1000000): -1000000000≤ZaT l s∧ZaT l s≤1000000000:=by
 have:=Zna s l 0 h
 unfold ZaT
 omega
theorem ZoH {f:Txt→Int} {t:Txt} {v:Int}: ∀ {nodes:List Txt} (i:Nat),nodes.Nodup→t∈nodes→ ∃j,ZbS t nodes i=((i+j:Nat):Int)∧j<nodes.length∧(nodes.map f)[j]? =some (f t)∧(nodes.map f).set j v=nodes.map (fun s=>bif t==s then v else f s)
 | [],i,_,h=>absurd h List.not_mem_nil
 |k::r,i,hn,h=>by
  rw[ZbS]
  obtain⟨hk,hr⟩:=List.nodup_cons.1 hn
  cases hb:(t==k)with
  |true=>
   have e:=eq_of_beq hb
   subst e
   refine⟨0,rfl,Nat.zero_lt_succ _,rfl, ?_⟩
   simp only[List.map_cons,List.set_cons_zero,hb,cond_true]
   congr 1
   refine List.map_congr_left fun s hs=> ?_
   have:(t==s)=false:=by rw[beq_eq_false_iff_ne];rintro rfl;exact hk hs
   rw[this];rfl
  |false=>
   have hne:t≠k:=fun e=>by rw[e,beq_self_eq_true]at hb;cases hb
   have ht:t∈r:=(List.mem_cons.1 h).resolve_left hne
   obtain⟨j,h1,h2,h3,h4⟩:=ZoH (f:=f) (v:=v) (i+1) hr ht
   refine⟨j+1, ?_,Nat.succ_lt_succ h2,h3, ?_⟩
   ·rw[cond_false,h1];congr 1;omega
   ·simp only[List.map_cons,List.set_cons_succ,h4,hb,cond_false]
theorem Ze4 {α β γ:Type} {f:α→β→γ} {a:List α} {b:List β} {i:Nat} {x:α} {y:β} (hx:a[i]? =some x) (hy:b[i]? =some y):(List.zipWith f a b)[i]? =some (f x y):=by
 simp[List.getElem?_zipWith,hx,hy]
theorem ZbR {α:Type} {l:List α} {i:Nat} {x:α} (h:l[i]? =some x):l.take (i+1)=l.take i++ [x]:=by
 rw[List.take_add_one,h];rfl
theorem ZmL {l:List Bool} {i:Nat} {b:Bool} (h:l[i]? =some b):(l.drop i).all id=(b&&(l.drop (i+1)).all id):=by
 obtain⟨hi,rfl⟩:=List.getElem?_eq_some_iff.1 h
 rw[List.drop_eq_getElem_cons hi,List.all_cons];rfl
def okG (g:Ge) (x:Int):Bool:=bif decide (x=0)then true else bif decide (x<g.2.2.1)then false else !decide (x>g.2.2.2.1)
def okS (s:Sto) (x:Int):Bool:=bif decide (x< -s.2.2.1)then false else !decide (x>s.2.2.2.1)
def Zl5 (l:List Ge) (v:List Int):Bool:=(List.zipWith okG l v).all id
def Zo5 (l:List Sto) (v:List Int):Bool:=(List.zipWith okS l v).all id
def itG (l:List Ge) (v:List Int):List (Txt×Int):=List.zipWith (fun g x=>(g.2.1,x)) l v
def itS (l:List Sto) (v:List Int):List (Txt×Int):=List.zipWith (fun g x=>(g.2.1,x)) l v
def itL (l:List Lo):List (Txt×Int):=l.map fun x=>(x.2.1,-x.2.2)
def ZbE (p:Int):Bool:=bif decide (p< -100000)then true else decide (p>100000)
end Go.Proofs.YtgmjnhiakpcpbaaGreatDoor
