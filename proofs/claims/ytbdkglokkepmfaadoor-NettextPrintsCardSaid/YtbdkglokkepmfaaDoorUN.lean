/-
 A network in order: its names; the lines of its devices, their words. (Plain.)
-/
import Derived.Test.YtbdkglokkepmfaaDoorUL
import Derived.Test.YtbdkglokkepmfaaDoorUB
import Derived.Lib.Fields
import Derived.Lib.IndexMore
set_option linter.constructorNameAsVariable false
set_option linter.unusedSimpArgs false
set_option linter.unusedVariables false
namespace Go.Proofs.YtbdkglokkepmfaaDoor
open Ne Go.Lib
set_option maxRecDepth 100000
theorem Zi8 (s:Txt): ∀l:List Txt,Zcf s l=decide (s∈l)
 | []=>by simp[Zcf]
 |k::r=>by
  rw[Zcf,Zi8 s r]
  cases h:(s==k)with
  |true=>rw[eq_of_beq h];simp
  |false=>
   have hne:s≠k:=fun e=>by rw[e,beq_self_eq_true]at h;cases h
   simp[hne]
theorem ZsI {nodes met:List Txt} {it:Ne.Item} (h:Zbd nodes met it=0):Za3 it.1=true∧Zcf it.1 met=false∧(∀s∈it.2.1,s∈nodes)∧it.2.2.2=false:=by
 unfold Zbd at h
 cases h1:Za3 it.1 with
 |false=>rw[h1]at h;simp at h
 |true=>
  rw[h1]at h
  cases h2:Zcf it.1 met with
  |true=>rw[h2]at h;simp at h
  |false=>
   rw[h2]at h
   cases h3:(it.2.1.all fun s=>Zcf s nodes)with
   |false=>rw[h3]at h;simp at h
   |true=>
    rw[h3]at h
    cases h4:(it.2.2.1&&(it.2.1.getD 0 []==it.2.1.getD 1 []))with
    |true=>rw[h4]at h;simp at h
    |false=>
     rw[h4]at h
     cases h5:it.2.2.2 with
     |true=>rw[h5]at h;simp at h
     |false=>
      refine⟨rfl,rfl,fun s hs=> ?_,rfl⟩
      have:=List.all_eq_true.1 h3 s hs
      rw[Zi8]at this
      exact of_decide_eq_true this
theorem ZiK {nodes:List Txt}: ∀ {l:List Ne.Item} {met:List Txt},ZaG nodes met l=0→met.Nodup→(∀it∈l,Za3 it.1=true∧(∀s∈it.2.1,s∈nodes)∧it.2.2.2=false)∧(met++l.map (·.1)).Nodup
 | [],met,_,hn=>⟨fun _ h=>absurd h List.not_mem_nil,by simpa using hn⟩
 |it::l,met,h,hn=>by
  rw[ZaG]at h
  cases h1:decide (Zbd nodes met it=0)with
  |false=>rw[h1]at h;exact absurd h (of_decide_eq_false h1)
  |true=>
   rw[h1]at h
   have hd:=ZsI (of_decide_eq_true h1)
   have hm:(met++ [it.1]).Nodup:=by
    rw[List.nodup_append]
    refine⟨hn,by simp,fun a ha b hb e=> ?_⟩
    rw[List.mem_singleton.1 hb]at e
    have h2:=hd.2.1
    rw[Zi8]at h2
    exact(of_decide_eq_false h2) (e▸ha)
   obtain⟨g1,g2⟩:=ZiK (l:=l) h hm
   refine⟨fun x hx=> ?_, ?_⟩
   ·rcases List.mem_cons.1 hx with rfl|hx
    ·exact⟨hd.1,hd.2.2.1,hd.2.2.2⟩
    ·exact g1 x hx
   ·rw[List.map_cons]
    simpa[List.append_assoc]using g2
structure Fine (n:Ne.Net):Prop where
 big:Ne.big n=false
 node: ∀s∈n.nodes,Za3 s=true
 dev: ∀it∈ZoE n,Za3 it.1=true∧(∀s∈it.2.1,s∈n.nodes)∧it.2.2.2=false
 nd:(n.nodes++(ZoE n).map (·.1)).Nodup
theorem ZfO {n:Ne.Net} (h:ZbV n=0):Fine n:=by
 have hb:=Zdf h
 unfold ZbV at h
 rw[hb,cond_false]at h
 obtain⟨g1,g2⟩:=ZiK h List.nodup_nil
 refine⟨hb,fun s hs=>(g1 (noI s) (List.mem_append_left _ (List.mem_map_of_mem hs))).1,fun it hi=> ?_, ?_⟩
 ·exact g1 it (List.mem_append_right _ hi)
 ·rw[List.nil_append,List.map_append,List.map_map]at g2
  have e:((fun x:Ne.Item=>x.1)∘noI)=id:=rfl
  rw[e,List.map_id]at g2
  exact g2
def Zk1 (s:Txt):Prop:=s≠ []∧ ∀c∈s,isSp c=false∧c.toNat<128
theorem Zm1 {c:UInt8} (h:(Zjr c||Zju c)=true):isSp c=false∧c.toNat<128:=by
 unfold Zjr Zju at h
 simp only[Bool.or_eq_true,Bool.and_eq_true,decide_eq_true_eq]at h
 refine⟨?_,by omega⟩
 unfold isSp
 simp only[Bool.or_eq_false_iff,beq_eq_false_iff_ne,ne_eq]
 refine⟨⟨⟨⟨⟨?_, ?_⟩, ?_⟩, ?_⟩, ?_⟩, ?_⟩<;>(rintro rfl;revert h;decide)
theorem Zbx {s:Txt} (h:Za3 s=true):Zk1 s∧s.length≤8:=by
 cases s with
 |nil=>cases h
 |cons c r=>
  rw[Za3]at h
  simp only[Bool.and_eq_true,Bool.or_eq_true]at h
  obtain⟨h1,h2,h3⟩:=h
  refine⟨⟨List.cons_ne_nil _ _,fun x hx=> ?_⟩, ?_⟩
  ·rcases List.mem_cons.1 hx with rfl|hx
   ·exact Zm1 (by rw[h2];rfl)
   ·exact Zm1 (List.all_eq_true.1 h3 x hx)
  ·exact Nat.le_of_ble_eq_true h1
theorem ZkG (m:Nat):decDigits m≠ []∧ ∀c∈decDigits m,isSp c=false∧c.toNat<128:=by
 induction m using Nat.strongRecOn with
 |ind m ih=>
  have one: ∀d,d<10→isSp (UInt8.ofNat (48+d))=false∧(UInt8.ofNat (48+d)).toNat<128:=by decide+kernel
  by_cases hm:10≤m
  ·rw[decDigits.eq_1 m,dif_neg (by omega)]
   refine⟨by simp,fun c hc=> ?_⟩
   rcases List.mem_append.1 hc with hc|hc
   ·exact(ih (m/10) (by omega)).2 c hc
   ·rw[List.mem_singleton.1 hc];exact one _ (Nat.mod_lt _ (by decide))
  ·rw[decDigits_one (by omega)]
   exact⟨by simp,fun c hc=>by rw[List.mem_singleton.1 hc];exact one _ (by omega)⟩
theorem Zrh (v:Int):Zk1 (Zid v):=by
 have h:=ZkG v.natAbs
 unfold Zid
 cases decide (v<0)with
 |true=>
  refine⟨List.cons_ne_nil _ _,fun c hc=> ?_⟩
  rcases List.mem_cons.1 hc with rfl|hc
  ·decide
  ·exact h.2 c hc
 |false=>exact h
def Zc4:List Txt→Txt
 | []=> []
 | [w]=>w
 |w::v::r=>w++32::Zc4 (v::r)
theorem Zey {w:Txt} {r:List Txt} (h:r≠ []):Zc4 (w::r)=w++32::Zc4 r:=by
 cases r with
 |nil=>exact absurd rfl h
 |cons v r=>rfl
theorem ZkW: ∀ {l:List Txt},l≠ []→l.flatMap (fun w=>w++ [32])=Zc4 l++ [32]
 | [],h=>absurd rfl h
 | [w],_=>by simp[Zc4]
 |w::v::r,_=>by
  rw[List.flatMap_cons,ZkW (List.cons_ne_nil v r),Zey (List.cons_ne_nil v r)]
  simp[List.append_assoc]
theorem ZbY {ws:List Txt} {vs:List Int} (h:ws≠ []):ZhJ ws vs=Zc4 (ws++vs.map Zid):=by
 have e:Zbr ws++Zc3 vs=Zc4 (ws++vs.map Zid)++ [32]:=by
  rw[←ZkW (by simp[h]),List.flatMap_append,Zbr,Zc3,List.flatMap_map]
 rw[ZhJ,e]
 simp
theorem ZjY: ∀ (a sub b:Txt),0≤index (a++(sub++b)) sub
 | [],sub,b=>by
  rw[List.nil_append]
  cases h:sub++b with
  |nil=>
   have:sub=[]:=(List.append_eq_nil_iff.1 h).1
   rw[this];decide
  |cons c r=>
   rw[index,←h,if_pos]
   ·exact Int.le_refl 0
   ·exact List.isPrefixOf_iff_prefix.2 (List.prefix_append sub b)
 |c::a,sub,b=>by
  have ih:=ZjY a sub b
  rw[List.cons_append,index]
  split
  ·exact Int.le_refl 0
  ·rw[if_neg (by intro e;have:=eq_of_beq e;omega)]
   omega
theorem ZkZ (a sub b:Txt):contains (a++(sub++b)) sub=true:=decide_eq_true (ZjY a sub b)
structure DevLine (x nm:Txt):Prop where
 ex: ∃k v r,x=Zc4 (k::nm::v::r)∧Zk1 k∧Zk1 nm∧Zk1 v∧(∀w∈r,Zk1 w)∧ZuN x [110,111,100,101,32]=false∧x.length≤1000000
theorem DevLine.has {x nm:Txt} (h:DevLine x nm):contains x ([32]++nm++ [32])=true:=by
 obtain⟨k,v,r,rfl,_⟩:=h.ex
 rw[Zey (List.cons_ne_nil _ _),Zey (List.cons_ne_nil _ _)]
 have e:k++32::(nm++32::Zc4 (v::r))=k++(([32]++nm++ [32])++Zc4 (v::r)):=by simp[List.append_assoc]
 rw[e]
 exact ZkZ ..
theorem Zhp: ∀ {l:List Txt} {B:Nat},(∀w∈l,w.length≤B)→(Zc4 l).length≤l.length*(B+1)
 | [],B,_=>Nat.zero_le _
 | [w],B,h=>by
  have:=h w (List.mem_cons_self ..)
  simp only[Zc4,List.length_cons,List.length_nil]
  omega
 |w::v::r,B,h=>by
  have h1:=h w (List.mem_cons_self ..)
  have h2:=Zhp (l:=v::r) (B:=B) fun x hx=>h x (List.mem_cons_of_mem _ hx)
  rw[Zc4,List.length_append,List.length_cons]
  rw[List.length_cons,Nat.succ_mul]
  omega
theorem Zun {c:UInt8} {r l:Txt} (h:c≠110):ZuN ((c::r)++l) [110,111,100,101,32]=false:=by
 unfold ZuN
 cases decide ((((c::r)++l).length:Int)≥(([110,111,100,101,32]:Txt).length:Int))with
 |false=>rfl
 |true=>
  rw[cond_true,List.cons_append]
  show(c::(r++l).take 4==110::[111,100,101,32])=false
  rw[beq_eq_false_iff_ne]
  intro e
  exact h (List.cons.inj e).1
theorem Zez {c:UInt8} {k nm v:Txt} {r:List Txt} (hc:c≠110) (h1:Zk1 (c::k)) (h2:Zk1 nm) (h3:Zk1 v) (h4: ∀w∈r,Zk1 w) (hk:k.length≤999) (hn:nm.length≤1000) (hv:v.length≤1000) (hr: ∀w∈r,w.length≤1000) (hl:r.length≤10):DevLine (Zc4 ((c::k)::nm::v::r)) nm:=by
 refine⟨⟨c::k,v,r,rfl,h1,h2,h3,h4, ?_, ?_⟩⟩
 ·rw[Zey (List.cons_ne_nil _ _)]
  exact Zun hc
 ·have:=Zhp (l:=(c::k)::nm::v::r) (B:=1000) (by
   intro w hw
   rcases List.mem_cons.1 hw with rfl|hw
   ·simpa using hk
   ·rcases List.mem_cons.1 hw with rfl|hw
    ·exact hn
    ·rcases List.mem_cons.1 hw with rfl|hw
     ·exact hv
     ·exact hr w hw)
  simp only[List.length_cons]at this
  omega
end Go.Proofs.YtbdkglokkepmfaaDoor
