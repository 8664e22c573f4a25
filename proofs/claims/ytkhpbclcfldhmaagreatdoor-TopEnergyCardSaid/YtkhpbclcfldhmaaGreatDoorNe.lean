/-
 What is wrong with a network: plain Lean.
-/
import Derived.Test.YtkhpbclcfldhmaaGreatDoorGp
set_option linter.constructorNameAsVariable false
set_option linter.unusedSimpArgs false
set_option linter.unusedVariables false
namespace Ne
abbrev Txt:=List UInt8
abbrev Item:=Txt×(List Txt×(Bool×Bool))
abbrev Sw:=Txt×(Txt×(Txt×(Bool×Bool)))
abbrev Br:=Txt×(Txt×(Txt×(Int×(Int×(Int×(Int×(Int×Int)))))))
abbrev Ge:=Txt×(Txt×(Int×(Int×Int)))
abbrev Lo:=Txt×(Txt×Int)
abbrev Sto:=Txt×(Txt×(Int×(Int×Int)))
structure Net where
 nodes:List Txt
 sws:List Sw
 brs:List Br
 gens:List Ge
 loads:List Lo
 stores:List Sto
def Zu2 (c:UInt8):Bool:=decide (65≤c.toNat)&&decide (c.toNat≤90)
def Zso (c:UInt8):Bool:=decide (48≤c.toNat)&&decide (c.toNat≤57)
def ZbJ:Txt→Bool
 | []=>false
 |c::r=>Nat.ble (r.length+1) 8&&(Zu2 c&&r.all fun c=>Zu2 c||Zso c)
def inR (n lo hi:Int):Bool:=decide (lo≤n)&&decide (n≤hi)
def Zqq (b:Br):Bool:= !(inR b.2.2.2.1 1 10000&&inR b.2.2.2.2.1 500 1500&&inR b.2.2.2.2.2.1 (-1000) 1000&&inR b.2.2.2.2.2.2.1 0 100000&&inR b.2.2.2.2.2.2.2.1 b.2.2.2.2.2.2.1 100000&&inR b.2.2.2.2.2.2.2.2 0 200000)
def swI (s:Sw):Item:=(s.1,[s.2.1,s.2.2.1],true,false)
def brI (b:Br):Item:=(b.1,[b.2.1,b.2.2.1],true,Zqq b)
def geI (g:Ge):Item:=(g.1,[g.2.1],false, !(inR g.2.2.1 0 100000)|| !(inR g.2.2.2.1 g.2.2.1 100000)|| !(inR g.2.2.2.2 0 100000))
def loI (d:Lo):Item:=(d.1,[d.2.1],false, !(inR d.2.2 0 100000))
def stI (s:Sto):Item:=(s.1,[s.2.1],false, !(inR s.2.2.1 0 100000)|| !(inR s.2.2.2.1 0 100000)|| !(inR s.2.2.2.2 0 100000))
def noI (s:Txt):Item:=(s,[],false,false)
def ZyK (n:Net):List Item:=n.sws.map swI++(n.brs.map brI++(n.gens.map geI++(n.loads.map loI++n.stores.map stI)))
def Zfc (s:Txt):List Txt→Bool
 | []=>false
 |k::r=>bif s==k then true else Zfc s r
def Zbv (nodes met:List Txt) (it:Item):Int:=
 bif !ZbJ it.1 then 5 else bif Zfc it.1 met then 7 else bif it.2.1.all fun s=>Zfc s nodes then
  (bif it.2.2.1&&(it.2.1.getD 0 []==it.2.1.getD 1 [])then 3 else bif it.2.2.2 then 4 else 0)else 6
def ZaN (nodes:List Txt):List Txt→List Item→Int
 |_,[]=>0
 |met,it::r=>match decide (Zbv nodes met it=0)with
  |true=>ZaN nodes (met++ [it.1]) r
  |false=>Zbv nodes met it
def big (n:Net):Bool:=decide (24<n.nodes.length)||(decide (32<n.sws.length)||(decide (24<n.brs.length)||(decide (10<n.gens.length)||(decide (12<n.loads.length)||decide (4<n.stores.length)))))
def ZgW (n:Net):Int:=bif big n then 2 else ZaN n.nodes [] (n.nodes.map noI++ZyK n)
def Zcy (e f:Int):Int:=match decide (e=0)with
 |true=>f
 |false=>e
def Zdk (s:Txt):List Txt→Nat→Int
 | [],_=> -1
 |k::r,i=>bif s==k then(i:Int)else Zdk s r (i+1)
theorem ZlO (s:Txt): ∀ (l:List Txt) (i:Nat),Zfc s l=decide (0≤Zdk s l i)
 | [],_=>rfl
 |k::r,i=>by
  rw[Zfc,Zdk]
  cases s==k with
  |true=>simp
  |false=>simp only[cond_false];exact ZlO s r (i+1)
theorem ZlA (nodes:List Txt): ∀ (l r:List Item) (met:List Txt),ZaN nodes met (l++r)=Zcy (ZaN nodes met l) (ZaN nodes (met++l.map (·.1)) r)
 | [],r,met=>by simp[ZaN,Zcy]
 |it::l,r,met=>by
  rw[List.cons_append,ZaN,ZaN]
  cases h:decide (Zbv nodes met it=0)with
  |true=>
   simp only[]
   rw[ZlA nodes l r,List.map_cons,List.append_assoc];rfl
  |false=>
   simp only[]
   rw[Zcy,h]
end Ne
/-
 A network in order. (Plain.)
-/
namespace Go.Proofs.YtkhpbclcfldhmaaGreatDoor
open Ne
set_option maxRecDepth 100000
theorem Zk6 (s:Txt): ∀l:List Txt,Zfc s l=decide (s∈l)
 | []=>by simp[Zfc]
 |k::r=>by
  rw[Zfc,Zk6 s r]
  cases h:(s==k)with
  |true=>rw[eq_of_beq h];simp
  |false=>
   have hne:s≠k:=fun e=>by rw[e,beq_self_eq_true]at h;cases h
   simp[hne]
theorem Zvw {nodes met:List Txt} {it:Ne.Item} (h:Zbv nodes met it=0):ZbJ it.1=true∧Zfc it.1 met=false∧(∀s∈it.2.1,s∈nodes)∧it.2.2.2=false:=by
 unfold Zbv at h
 cases h1:ZbJ it.1 with
 |false=>rw[h1]at h;simp at h
 |true=>
  rw[h1]at h
  cases h2:Zfc it.1 met with
  |true=>rw[h2]at h;simp at h
  |false=>
   rw[h2]at h
   cases h3:(it.2.1.all fun s=>Zfc s nodes)with
   |false=>rw[h3]at h;simp at h
   |true=>
    rw[h3]at h
    cases h4:(it.2.2.1&&(it.2.1.getD 0 []==it.2.1.getD 1 []))with
    |true=>rw[h4]at h;simp at h
    |false=>
     rw[h4]at h
     cases h5:it.2.2.2 with
     |true=>rw[h5]at h;simp at h
     |false=>
      refine⟨rfl,rfl,fun s hs=> ?_,rfl⟩
      have:=List.all_eq_true.1 h3 s hs
      rw[Zk6]at this
      exact of_decide_eq_true this
theorem Zjq {nodes:List Txt}: ∀ {l:List Ne.Item} {met:List Txt},ZaN nodes met l=0→met.Nodup→(∀it∈l,ZbJ it.1=true∧(∀s∈it.2.1,s∈nodes)∧it.2.2.2=false)∧(met++l.map (·.1)).Nodup
 | [],met,_,hn=>⟨fun _ h=>absurd h List.not_mem_nil,by simpa using hn⟩
 |it::l,met,h,hn=>by
  rw[ZaN]at h
  cases h1:decide (Zbv nodes met it=0)with
  |false=>rw[h1]at h;exact absurd h (of_decide_eq_false h1)
  |true=>
   rw[h1]at h
   have hd:=Zvw (of_decide_eq_true h1)
   have hm:(met++ [it.1]).Nodup:=by
    rw[List.nodup_append]
    refine⟨hn,by simp,fun a ha b hb e=> ?_⟩
    rw[List.mem_singleton.1 hb]at e
    have h2:=hd.2.1
    rw[Zk6]at h2
    exact(of_decide_eq_false h2) (e▸ha)
   obtain⟨g1,g2⟩:=Zjq (l:=l) h hm
   refine⟨fun x hx=> ?_, ?_⟩
   ·rcases List.mem_cons.1 hx with rfl|hx
    ·exact⟨hd.1,hd.2.2.1,hd.2.2.2⟩
    ·exact g1 x hx
   ·rw[List.map_cons]
    simpa[List.append_assoc]using g2
structure Fine (n:Ne.Net):Prop where
 big:Ne.big n=false
 node: ∀s∈n.nodes,ZbJ s=true
 dev: ∀it∈ZyK n,ZbJ it.1=true∧(∀s∈it.2.1,s∈n.nodes)∧it.2.2.2=false
 nd:(n.nodes++(ZyK n).map (·.1)).Nodup
theorem Zx6 {n:Ne.Net} (h:ZgW n=0):big n=false:=by
 cases hb:big n with
 |false=>rfl
 |true=>unfold ZgW at h;rw[hb,cond_true]at h;cases h
theorem Zno {n:Ne.Net} (h:ZgW n=0):Fine n:=by
 have hb:=Zx6 h
 unfold ZgW at h
 rw[hb,cond_false]at h
 obtain⟨g1,g2⟩:=Zjq h List.nodup_nil
 refine⟨hb,fun s hs=>(g1 (noI s) (List.mem_append_left _ (List.mem_map_of_mem hs))).1,fun it hi=> ?_, ?_⟩
 ·exact g1 it (List.mem_append_right _ hi)
 ·rw[List.nil_append,List.map_append,List.map_map]at g2
  have e:((fun x:Ne.Item=>x.1)∘noI)=id:=rfl
  rw[e,List.map_id]at g2
  exact g2
theorem ZuX {n:Ne.Net} (hf:Fine n) {x:Ge} (hx:x∈n.gens):ZbJ x.1=true∧x.2.1∈n.nodes∧(geI x).2.2.2=false:=by
 have h:=hf.dev (geI x) (List.mem_append_right _ (List.mem_append_right _ (List.mem_append_left _ (List.mem_map_of_mem hx))))
 exact⟨h.1,h.2.1 _ (by simp[geI]),h.2.2⟩
theorem Zyx {n:Ne.Net} (hf:Fine n) {x:Lo} (hx:x∈n.loads):ZbJ x.1=true∧x.2.1∈n.nodes∧(loI x).2.2.2=false:=by
 have h:=hf.dev (loI x) (List.mem_append_right _ (List.mem_append_right _ (List.mem_append_right _ (List.mem_append_left _ (List.mem_map_of_mem hx)))))
 exact⟨h.1,h.2.1 _ (by simp[loI]),h.2.2⟩
theorem Zxh {x lo hi:Int} (h:inR x lo hi=true):lo≤x∧x≤hi:=by
 unfold inR at h
 simpa using h
theorem ZxD {x:Lo} (h:(loI x).2.2.2=false):0≤x.2.2∧x.2.2≤100000:=by
 simp only[loI,Bool.not_eq_false']at h
 exact Zxh h
theorem Zu6 {n:Ne.Net} (hf:Fine n) {x:Sw} (hx:x∈n.sws):x.2.1∈n.nodes∧x.2.2.1∈n.nodes:=by
 have h:=hf.dev (swI x) (List.mem_append_left _ (List.mem_map_of_mem hx))
 exact⟨h.2.1 _ (by simp[swI]),h.2.1 _ (by simp[swI])⟩
theorem Zu9 {n:Ne.Net} (hf:Fine n) {x:Br} (hx:x∈n.brs):x.2.1∈n.nodes∧x.2.2.1∈n.nodes∧Zqq x=false:=by
 have h:=hf.dev (brI x) (List.mem_append_right _ (List.mem_append_left _ (List.mem_map_of_mem hx)))
 exact⟨h.2.1 _ (by simp[brI]),h.2.1 _ (by simp[brI]),h.2.2⟩
theorem ZoZ {t:Txt}: ∀ {nodes:List Txt} (i:Nat),t∈nodes→ ∃j,Zdk t nodes i=((i+j:Nat):Int)∧j<nodes.length
 | [],i,h=>absurd h List.not_mem_nil
 |k::r,i,h=>by
  rw[Zdk]
  cases hb:(t==k)with
  |true=>exact⟨0,rfl,Nat.succ_pos _⟩
  |false=>
   have hr:t∈r:=by
    rcases List.mem_cons.1 h with rfl|hr
    ·rw[beq_self_eq_true]at hb;cases hb
    ·exact hr
   obtain⟨j,h1,h2⟩:=ZoZ (i+1) hr
   exact⟨j+1,by rw[cond_false,h1];congr 1;omega,Nat.succ_lt_succ h2⟩
theorem Zbl {n:Ne.Net} (hf:Fine n):n.nodes.length≤24∧n.sws.length≤32∧n.brs.length≤24∧n.gens.length≤10∧n.loads.length≤12∧n.stores.length≤4:=by
 have hb:=hf.big
 simp only[big,Bool.or_eq_false_iff,decide_eq_false_iff_not]at hb
 omega
end Go.Proofs.YtkhpbclcfldhmaaGreatDoor
/-
 The topology of a network as the program finds it. (Plain.)
-/
namespace Go.Proofs.YtkhpbclcfldhmaaGreatDoor
open Ne
def plN (n:Ne.Net) (s:Txt):Nat:=(Zdk s n.nodes 0).toNat
def swE (n:Ne.Net) (s:Sw):Nat×Nat:=(plN n s.2.1,plN n s.2.2.1)
def Zw2 (s:Sw):Bool:=s.2.2.2.2==false
def Zew (n:Ne.Net):List (Nat×Nat):=(n.sws.filter Zw2).map (swE n)
def ZeR (n:Ne.Net):List Int:=Zeg (-1) (Zew n) n.nodes.length
def Zc3 (l:List Int):Int:=l.foldl (fun m b=>if b+1>m then b+1 else m) 0
def ZcI (n:Ne.Net):Nat:=(Zc3 (ZeR n)).toNat
def bAt (n:Ne.Net) (s:Txt):Nat:=((ZeR n).getD (plN n s) 0).toNat
def brE (n:Ne.Net) (b:Br):Nat×Nat:=(bAt n b.2.1,bAt n b.2.2.1)
def Zcx (n:Ne.Net):List Int:=Zeg (-1) (n.brs.map (brE n)) (ZcI n)
theorem Zgf {n:Ne.Net} {s:Txt} (h:s∈n.nodes):Zdk s n.nodes 0=((plN n s:Nat):Int)∧plN n s<n.nodes.length:=by
 obtain⟨j,h1,h2⟩:=ZoZ 0 h
 rw[Nat.zero_add]at h1
 have e:plN n s=j:=by rw[plN,h1,Int.toNat_natCast]
 rw[e]
 exact⟨h1,h2⟩
theorem ZjJ (l:List Int) (b:Int):Zc3 (l++ [b])=if b+1>Zc3 l then b+1 else Zc3 l:=by rw[Zc3,List.foldl_append];rfl
theorem Zol (k:Int): ∀ (l:List Int) (m:Int),m≤k→(∀x∈l,x<k)→(∀x∈l,x<l.foldl (fun m b=>if b+1>m then b+1 else m) m)∧m≤l.foldl (fun m b=>if b+1>m then b+1 else m) m∧l.foldl (fun m b=>if b+1>m then b+1 else m) m≤k
 | [],m,hm,_=>⟨fun x h=>absurd h List.not_mem_nil,Int.le_refl _,hm⟩
 |a::l,m,hm,h=>by
  have ha:=h a List.mem_cons_self
  obtain⟨g1,g2,g3⟩:=Zol k l (if a+1>m then a+1 else m) (by split<;>omega) (fun x hx=>h x (List.mem_cons_of_mem _ hx))
  rw[List.foldl_cons]
  refine⟨fun x hx=> ?_, ?_,g3⟩
  ·rcases List.mem_cons.1 hx with rfl|hx
   ·revert g2;split<;>omega
   ·exact g1 x hx
  ·revert g2;split<;>omega
theorem ZhR {l:List Int} {k:Nat} (h: ∀x∈l,x<(k:Int)):(∀x∈l,x<Zc3 l)∧0≤Zc3 l∧Zc3 l≤(k:Int):=Zol k l 0 (Int.natCast_nonneg k) h
theorem Zjm {n:Ne.Net} (hf:Fine n):okL n.nodes.length (Zew n)∧(Zew n).length≤64:=by
 refine⟨fun x hx=> ?_, ?_⟩
 ·obtain⟨s,hs,rfl⟩:=List.mem_map.1 hx
  have h:=Zu6 hf (List.mem_filter.1 hs).1
  exact⟨(Zgf h.1).2,(Zgf h.2).2⟩
 ·have h1:=(Zbl hf).2.1
  have h2:=List.length_filter_le Zw2 n.sws
  rw[Zew,List.length_map];omega
theorem ZfK (n:Ne.Net):(ZeR n).length=n.nodes.length:=ZdJ _ _ _
theorem Zj8 (n:Ne.Net): ∀x∈ZeR n,0≤x∧x<(n.nodes.length:Int):=ZjR _ _ _
theorem Zd5 (n:Ne.Net):Zc3 (ZeR n)=(ZcI n:Int)∧ZcI n≤n.nodes.length:=by
 have h:=ZhR (l:=ZeR n) fun x hx=>(Zj8 n x hx).2
 have e:Zc3 (ZeR n)=(ZcI n:Int):=by rw[ZcI];omega
 exact⟨e,by omega⟩
theorem Zni {n:Ne.Net} {i:Nat} (hi:i<n.nodes.length): ∃b:Nat,(ZeR n)[i]? =some (b:Int)∧b<ZcI n:=by
 have hl:=ZfK n
 have hi':i<(ZeR n).length:=by omega
 have h:=ZhR (l:=ZeR n) fun x hx=>(Zj8 n x hx).2
 have h1:=Zj8 n _ (List.getElem_mem hi')
 have h2:=h.1 _ (List.getElem_mem hi')
 have h3:=(Zd5 n).1
 refine⟨((ZeR n)[i]).toNat, ?_,by omega⟩
 rw[List.getElem?_eq_getElem hi']
 congr 1
 omega
theorem Zdr {n:Ne.Net} {s:Txt} (h:s∈n.nodes):(ZeR n)[plN n s]? =some ((bAt n s:Nat):Int)∧bAt n s<ZcI n:=by
 obtain⟨b,h1,h2⟩:=Zni (Zgf h).2
 have e:bAt n s=b:=by rw[bAt,List.getD_eq_getElem?_getD,h1];exact Int.toNat_natCast b
 rw[e]
 exact⟨h1,h2⟩
theorem Zvl {n:Ne.Net} (hf:Fine n):okL (ZcI n) (n.brs.map (brE n))∧(n.brs.map (brE n)).length≤64:=by
 refine⟨fun x hx=> ?_, ?_⟩
 ·obtain⟨b,hb,rfl⟩:=List.mem_map.1 hx
  have h:=Zu9 hf hb
  exact⟨(Zdr h.1).2,(Zdr h.2.1).2⟩
 ·have h1:=(Zbl hf).2.2.1
  rw[List.length_map];omega
theorem ZlF (n:Ne.Net):(Zcx n).length=ZcI n:=ZdJ _ _ _
theorem Zh5 (n:Ne.Net): ∀x∈Zcx n,0≤x∧x<(ZcI n:Int):=ZjR _ _ _
end Go.Proofs.YtkhpbclcfldhmaaGreatDoor
