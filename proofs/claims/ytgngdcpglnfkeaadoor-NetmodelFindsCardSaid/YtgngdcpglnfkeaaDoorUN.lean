/-
 A network in order: its names; the lines of its devices, their words. (Plain.)
-/
import Derived.Test.YtgngdcpglnfkeaaDoorUL
import Derived.Test.YtgngdcpglnfkeaaDoorUD
set_option linter.constructorNameAsVariable false
set_option linter.unusedSimpArgs false
set_option linter.unusedVariables false
namespace Go.Proofs.YtgngdcpglnfkeaaDoor
open Ne Go.Lib
set_option maxRecDepth 100000
theorem Zj5 (s:Txt): ∀l:List Txt,ZcN s l=decide (s∈l)
 | []=>by simp[ZcN]
 |k::r=>by
  rw[ZcN,Zj5 s r]
  cases h:(s==k)with
  |true=>rw[eq_of_beq h];simp
  |false=>
   have hne:s≠k:=fun e=>by rw[e,beq_self_eq_true]at h;cases h
   simp[hne]
theorem Zs9 {nodes met:List Txt} {it:Ne.Item} (h:Zbf nodes met it=0):Za5 it.1=true∧ZcN it.1 met=false∧(∀s∈it.2.1,s∈nodes)∧it.2.2.2=false:=by
 unfold Zbf at h
 cases h1:Za5 it.1 with
 |false=>rw[h1]at h;simp at h
 |true=>
  rw[h1]at h
  cases h2:ZcN it.1 met with
  |true=>rw[h2]at h;simp at h
  |false=>
   rw[h2]at h
   cases h3:(it.2.1.all fun s=>ZcN s nodes)with
   |false=>rw[h3]at h;simp at h
   |true=>
    rw[h3]at h
    cases h4:(it.2.2.1&&(it.2.1.getD 0 []==it.2.1.getD 1 []))with
    |true=>rw[h4]at h;simp at h
    |false=>
     rw[h4]at h
     cases h5:it.2.2.2 with
     |true=>rw[h5]at h;simp at h
     |false=>
      refine⟨rfl,rfl,fun s hs=> ?_,rfl⟩
      have:=List.all_eq_true.1 h3 s hs
      rw[Zj5]at this
      exact of_decide_eq_true this
theorem Zi1 {nodes:List Txt}: ∀ {l:List Ne.Item} {met:List Txt},ZaG nodes met l=0→met.Nodup→(∀it∈l,Za5 it.1=true∧(∀s∈it.2.1,s∈nodes)∧it.2.2.2=false)∧(met++l.map (·.1)).Nodup
 | [],met,_,hn=>⟨fun _ h=>absurd h List.not_mem_nil,by simpa using hn⟩
 |it::l,met,h,hn=>by
  rw[ZaG]at h
  cases h1:decide (Zbf nodes met it=0)with
  |false=>rw[h1]at h;exact absurd h (of_decide_eq_false h1)
  |true=>
   rw[h1]at h
   have hd:=Zs9 (of_decide_eq_true h1)
   have hm:(met++ [it.1]).Nodup:=by
    rw[List.nodup_append]
    refine⟨hn,by simp,fun a ha b hb e=> ?_⟩
    rw[List.mem_singleton.1 hb]at e
    have h2:=hd.2.1
    rw[Zj5]at h2
    exact(of_decide_eq_false h2) (e▸ha)
   obtain⟨g1,g2⟩:=Zi1 (l:=l) h hm
   refine⟨fun x hx=> ?_, ?_⟩
   ·rcases List.mem_cons.1 hx with rfl|hx
    ·exact⟨hd.1,hd.2.2.1,hd.2.2.2⟩
    ·exact g1 x hx
   ·rw[List.map_cons]
    simpa[List.append_assoc]using g2
structure Fine (n:Ne.Net):Prop where
 big:Ne.big n=false
 node: ∀s∈n.nodes,Za5 s=true
 dev: ∀it∈ZjJ n,Za5 it.1=true∧(∀s∈it.2.1,s∈n.nodes)∧it.2.2.2=false
 nd:(n.nodes++(ZjJ n).map (·.1)).Nodup
theorem Zpz {n:Ne.Net} (h:ZcK n=0):Fine n:=by
 have hb:=Zf2 h
 unfold ZcK at h
 rw[hb,cond_false]at h
 obtain⟨g1,g2⟩:=Zi1 h List.nodup_nil
 refine⟨hb,fun s hs=>(g1 (noI s) (List.mem_append_left _ (List.mem_map_of_mem hs))).1,fun it hi=> ?_, ?_⟩
 ·exact g1 it (List.mem_append_right _ hi)
 ·rw[List.nil_append,List.map_append,List.map_map]at g2
  have e:((fun x:Ne.Item=>x.1)∘noI)=id:=rfl
  rw[e,List.map_id]at g2
  exact g2
def Zle (s:Txt):Prop:=s≠ []∧ ∀c∈s,isSp c=false∧c.toNat<128
theorem Zm4 {c:UInt8} (h:(Zjp c||Zju c)=true):isSp c=false∧c.toNat<128:=by
 unfold Zjp Zju at h
 simp only[Bool.or_eq_true,Bool.and_eq_true,decide_eq_true_eq]at h
 refine⟨?_,by omega⟩
 unfold isSp
 simp only[Bool.or_eq_false_iff,beq_eq_false_iff_ne,ne_eq]
 refine⟨⟨⟨⟨⟨?_, ?_⟩, ?_⟩, ?_⟩, ?_⟩, ?_⟩<;>(rintro rfl;revert h;decide)
theorem Zbq {s:Txt} (h:Za5 s=true):Zle s∧s.length≤8:=by
 cases s with
 |nil=>cases h
 |cons c r=>
  rw[Za5]at h
  simp only[Bool.and_eq_true,Bool.or_eq_true]at h
  obtain⟨h1,h2,h3⟩:=h
  refine⟨⟨List.cons_ne_nil _ _,fun x hx=> ?_⟩, ?_⟩
  ·rcases List.mem_cons.1 hx with rfl|hx
   ·exact Zm4 (by rw[h2];rfl)
   ·exact Zm4 (List.all_eq_true.1 h3 x hx)
  ·exact Nat.le_of_ble_eq_true h1
theorem ZkA (m:Nat):decDigits m≠ []∧ ∀c∈decDigits m,isSp c=false∧c.toNat<128:=by
 induction m using Nat.strongRecOn with
 |ind m ih=>
  have one: ∀d,d<10→isSp (UInt8.ofNat (48+d))=false∧(UInt8.ofNat (48+d)).toNat<128:=by decide+kernel
  by_cases hm:10≤m
  ·rw[decDigits.eq_1 m,dif_neg (by omega)]
   refine⟨by simp,fun c hc=> ?_⟩
   rcases List.mem_append.1 hc with hc|hc
   ·exact(ih (m/10) (by omega)).2 c hc
   ·rw[List.mem_singleton.1 hc];exact one _ (Nat.mod_lt _ (by decide))
  ·rw[decDigits_one (by omega)]
   exact⟨by simp,fun c hc=>by rw[List.mem_singleton.1 hc];exact one _ (by omega)⟩
theorem Zrg (v:Int):Zle (ZjR v):=by
 have h:=ZkA v.natAbs
 unfold ZjR
 cases decide (v<0)with
 |true=>
  refine⟨List.cons_ne_nil _ _,fun c hc=> ?_⟩
  rcases List.mem_cons.1 hc with rfl|hc
  ·decide
  ·exact h.2 c hc
 |false=>exact h
def Zdh:List Txt→Txt
 | []=> []
 | [w]=>w
 |w::v::r=>w++32::Zdh (v::r)
theorem Zes {w:Txt} {r:List Txt} (h:r≠ []):Zdh (w::r)=w++32::Zdh r:=by
 cases r with
 |nil=>exact absurd rfl h
 |cons v r=>rfl
theorem ZkD: ∀ {l:List Txt},l≠ []→l.flatMap (fun w=>w++ [32])=Zdh l++ [32]
 | [],h=>absurd rfl h
 | [w],_=>by simp[Zdh]
 |w::v::r,_=>by
  rw[List.flatMap_cons,ZkD (List.cons_ne_nil v r),Zes (List.cons_ne_nil v r)]
  simp[List.append_assoc]
theorem ZeE {ws:List Txt} {vs:List Int} (h:ws≠ []):ZjN ws vs=Zdh (ws++vs.map ZjR):=by
 have e:ZbC ws++Zdj vs=Zdh (ws++vs.map ZjR)++ [32]:=by
  rw[←ZkD (by simp[h]),List.flatMap_append,ZbC,Zdj,List.flatMap_map]
 rw[ZjN,e]
 simp
theorem ZdS: ∀ (w cur l:Txt),(∀c∈w,isSp c=false)→fieldsGo cur (w++l)=fieldsGo (cur++w) l
 | [],cur,l,_=>by simp
 |c::w,cur,l,h=>by
  rw[List.cons_append,fieldsGo,h c (List.mem_cons_self ..),if_neg (by decide),ZdS w _ l fun x hx=>h x (List.mem_cons_of_mem _ hx)]
  simp
theorem Zib: ∀ {l:List Txt},(∀w∈l,Zle w)→fields (Zdh l)=l
 | [],_=>rfl
 | [w],h=>by
  have hw:=h w (List.mem_cons_self ..)
  have e:=ZdS w [] [] fun c hc=>(hw.2 c hc).1
  rw[List.append_nil,List.nil_append]at e
  rw[fields,Zdh,e,fieldsGo]
  cases w with
  |nil=>exact absurd rfl hw.1
  |cons c r=>rfl
 |w::v::r,h=>by
  have hw:=h w (List.mem_cons_self ..)
  rw[fields,Zdh,ZdS w [] _ fun c hc=>(hw.2 c hc).1,List.nil_append,fieldsGo,if_pos (by decide)]
  have hr:=Zib (l:=v::r) fun x hx=>h x (List.mem_cons_of_mem _ hx)
  rw[fields]at hr
  cases w with
  |nil=>exact absurd rfl hw.1
  |cons c t=>rw[if_neg (by simp),hr]
theorem ZiT: ∀ {l:List Txt},(∀w∈l,Zle w)→ ∀c∈Zdh l,c.toNat<128
 | [],_,c,hc=>absurd hc List.not_mem_nil
 | [w],h,c,hc=>((h w (List.mem_cons_self ..)).2 c hc).2
 |w::v::r,h,c,hc=>by
  rw[Zdh]at hc
  rcases List.mem_append.1 hc with hc|hc
  ·exact((h w (List.mem_cons_self ..)).2 c hc).2
  ·rcases List.mem_cons.1 hc with rfl|hc
   ·decide
   ·exact ZiT (l:=v::r) (fun x hx=>h x (List.mem_cons_of_mem _ hx)) c hc
theorem ZkY: ∀ (a sub b:Txt),0≤index (a++(sub++b)) sub
 | [],sub,b=>by
  rw[List.nil_append]
  cases h:sub++b with
  |nil=>
   have:sub=[]:=(List.append_eq_nil_iff.1 h).1
   rw[this];decide
  |cons c r=>
   rw[index,←h,if_pos]
   ·exact Int.le_refl 0
   ·exact List.isPrefixOf_iff_prefix.2 (List.prefix_append sub b)
 |c::a,sub,b=>by
  have ih:=ZkY a sub b
  rw[List.cons_append,index]
  split
  ·exact Int.le_refl 0
  ·rw[if_neg (by intro e;have:=eq_of_beq e;omega)]
   omega
theorem Zlp (a sub b:Txt):contains (a++(sub++b)) sub=true:=decide_eq_true (ZkY a sub b)
structure DevLine (x nm:Txt):Prop where
 ex: ∃k v r,x=Zdh (k::nm::v::r)∧Zle k∧Zle nm∧Zle v∧(∀w∈r,Zle w)∧Zkd x [110,111,100,101,32]=false∧x.length≤1000000
theorem DevLine.fields {x nm:Txt} (h:DevLine x nm):2≤(Lib.fields x).length∧(Lib.fields x)[1]? =some nm:=by
 obtain⟨k,v,r,rfl,h1,h2,h3,h4,_⟩:=h.ex
 rw[Zib]
 ·exact⟨by simp,rfl⟩
 ·intro w hw
  rcases List.mem_cons.1 hw with rfl|hw
  ·exact h1
  ·rcases List.mem_cons.1 hw with rfl|hw
   ·exact h2
   ·rcases List.mem_cons.1 hw with rfl|hw
    ·exact h3
    ·exact h4 w hw
theorem DevLine.ascii {x nm:Txt} (h:DevLine x nm): ∀c∈x,c.toNat<128:=by
 obtain⟨k,v,r,rfl,h1,h2,h3,h4,_⟩:=h.ex
 refine ZiT ?_
 intro w hw
 rcases List.mem_cons.1 hw with rfl|hw
 ·exact h1
 ·rcases List.mem_cons.1 hw with rfl|hw
  ·exact h2
  ·rcases List.mem_cons.1 hw with rfl|hw
   ·exact h3
   ·exact h4 w hw
theorem DevLine.has {x nm:Txt} (h:DevLine x nm):contains x ([32]++nm++ [32])=true:=by
 obtain⟨k,v,r,rfl,_⟩:=h.ex
 rw[Zes (List.cons_ne_nil _ _),Zes (List.cons_ne_nil _ _)]
 have e:k++32::(nm++32::Zdh (v::r))=k++(([32]++nm++ [32])++Zdh (v::r)):=by simp[List.append_assoc]
 rw[e]
 exact Zlp ..
def Zby (nm x:Txt):Bool:=bif Zkd x [110,111,100,101,32]then false else bif contains x ([32]++nm++ [32])then(Lib.fields x)[1]? ==some nm else false
theorem Zoe {x a:Txt} (h:DevLine x a) (nm:Txt):Zby nm x=(a==nm):=by
 have hp:Zkd x [110,111,100,101,32]=false:=by obtain⟨_,_,_,_,_,_,_,_,hp,_⟩:=h.ex;exact hp
 rw[Zby,hp,cond_false,h.fields.2]
 cases h1:(a==nm)with
 |true=>rw[eq_of_beq h1]at h⊢;rw[h.has];simp
 |false=>
  have hne:a≠nm:=fun e=>by rw[e,beq_self_eq_true]at h1;cases h1
  cases contains x ([32]++nm++ [32])with
  |true=>simp[hne]
  |false=>rfl
theorem ZqB (nm s:Txt):Zby nm (Za3 s)=false:=by
 have e:Zkd (Za3 s) [110,111,100,101,32]=true:=by
  unfold Zkd Za3
  rw[decide_eq_true (by simp only[List.length_append,List.length_cons,List.length_nil];omega)]
  simp
 rw[Zby,e];rfl
theorem Zk1: ∀ {l:List Txt} {B:Nat},(∀w∈l,w.length≤B)→(Zdh l).length≤l.length*(B+1)
 | [],B,_=>Nat.zero_le _
 | [w],B,h=>by
  have:=h w (List.mem_cons_self ..)
  simp only[Zdh,List.length_cons,List.length_nil]
  omega
 |w::v::r,B,h=>by
  have h1:=h w (List.mem_cons_self ..)
  have h2:=Zk1 (l:=v::r) (B:=B) fun x hx=>h x (List.mem_cons_of_mem _ hx)
  rw[Zdh,List.length_append,List.length_cons]
  rw[List.length_cons,Nat.succ_mul]
  omega
theorem Zu7 {c:UInt8} {r l:Txt} (h:c≠110):Zkd ((c::r)++l) [110,111,100,101,32]=false:=by
 unfold Zkd
 cases decide ((((c::r)++l).length:Int)≥(([110,111,100,101,32]:Txt).length:Int))with
 |false=>rfl
 |true=>
  rw[cond_true,List.cons_append]
  show(c::(r++l).take 4==110::[111,100,101,32])=false
  rw[beq_eq_false_iff_ne]
  intro e
  exact h (List.cons.inj e).1
theorem Zeq {c:UInt8} {k nm v:Txt} {r:List Txt} (hc:c≠110) (h1:Zle (c::k)) (h2:Zle nm) (h3:Zle v) (h4: ∀w∈r,Zle w) (hk:k.length≤999) (hn:nm.length≤1000) (hv:v.length≤1000) (hr: ∀w∈r,w.length≤1000) (hl:r.length≤10):DevLine (Zdh ((c::k)::nm::v::r)) nm:=by
 refine⟨⟨c::k,v,r,rfl,h1,h2,h3,h4, ?_, ?_⟩⟩
 ·rw[Zes (List.cons_ne_nil _ _)]
  exact Zu7 hc
 ·have:=Zk1 (l:=(c::k)::nm::v::r) (B:=1000) (by
   intro w hw
   rcases List.mem_cons.1 hw with rfl|hw
   ·simpa using hk
   ·rcases List.mem_cons.1 hw with rfl|hw
    ·exact hn
    ·rcases List.mem_cons.1 hw with rfl|hw
     ·exact hv
     ·exact hr w hw)
  simp only[List.length_cons]at this
  omega
end Go.Proofs.YtgngdcpglnfkeaaDoor
