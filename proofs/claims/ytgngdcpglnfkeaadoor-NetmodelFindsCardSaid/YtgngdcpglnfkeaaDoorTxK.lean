/-
 Slices of rows at places known by an equation: parts, parts with their room told, 'clear', 'append' in place.
-/
import Derived.Test.YtgngdcpglnfkeaaDoorTxG
set_option linter.constructorNameAsVariable false
set_option linter.unusedSimpArgs false
set_option linter.unusedVariables false
namespace Go.Tx
open Go.Am
section
variable {P : Program} {h : Hints} {T : TypeId → TI} {hp : List SM} {tm : TM} {op : Op} {k : SV → List SM → Prop}
theorem ZoG {t e:TypeId} {x a b c:Operand} {id i n:Nat} {m:Option Nat} {ct:CT} {l:List ct.D} {bb:Bool} {k1 k2 k3:IntKind} {u v w:Int} (ho:op= .slice t x (some a) (some b) (some c)) (hx:evS tm x=some (.ref id i n m)) (hk1:(T t).k= .slice e) (h3:ZcQ (T e).k=false) (hn:nth hp id=some (.row ct l bb)) (hz:Nat.beq ct.w (T e).sz=true)
 (ha:evS tm a=some (.v (.i k1) u)) (hb:evS tm b=some (.v (.i k2) v)) (hc:evS tm c=some (.v (.i k3) w)) (hj:0≤u∧u≤v∧v≤w∧w≤((m.getD n:Nat):Int)) (hk:k (.ref id (i+u.toNat) (v.toNat-u.toNat) (some (w.toNat-u.toNat))) hp):opT P h T op tm hp k:=by
 subst ho
 simp only[opT,hx,Zki,hk1,hn,ha,hb,hc,hz]
 generalize(T e).k=q at*
 cases q<;>first|(cases h3;done)|(simp only[];rw[hz];exact⟨hj,hk⟩)
theorem Zf9 {t e:TypeId} {x b:Operand} {id i n:Nat} {m:Option Nat} {ct:CT} {l:List ct.D} {bb:Bool} {k2:IntKind} {v:Int} (ho:op= .slice t x none (some b) none) (hx:evS tm x=some (.ref id i n m)) (hk1:(T t).k= .slice e) (h3:ZcQ (T e).k=false) (hn:nth hp id=some (.row ct l bb)) (hz:Nat.beq ct.w (T e).sz=true)
 (hb:evS tm b=some (.v (.i k2) v)) (hj:0≤v∧v≤((m.getD n:Nat):Int)) (hk:k (.ref id (i+0) (v.toNat-0) (some (m.getD n-0))) hp):opT P h T op tm hp k:=by
 subst ho
 simp only[opT,hx,Zi0,hk1,hn,hz,ZqQ,hb]
 generalize(T e).k=q at*
 cases q<;>first|(cases h3;done)|(simp only[];rw[hz];exact⟨hj,hk⟩)
theorem ZgH {t e:TypeId} {x a:Operand} {id i n:Nat} {ct:CT} {l:List ct.D} {bb:Bool} {k1:IntKind} {u:Int} (ho:op= .slice t x (some a) none none) (hx:evS tm x=some (.ref id i n none)) (hk1:(T t).k= .slice e) (h3:ZcQ (T e).k=false) (hn:nth hp id=some (.row ct l bb)) (hz:Nat.beq ct.w (T e).sz=true)
 (ha:evS tm a=some (.v (.i k1) u)) (hj:0≤u∧u≤(n:Int)) (hk:k (.ref id (i+u.toNat) (n-u.toNat) none) hp):opT P h T op tm hp k:=by
 subst ho
 simp only[opT,hx,Zi0,hk1,hn,hz,ZqQ,ha]
 generalize(T e).k=q at*
 cases q<;>first|(cases h3;done)|(simp only[];rw[hz];exact⟨hj,hk⟩)
theorem ZgO {t e:TypeId} {x a b:Operand} {id i n:Nat} {m:Option Nat} {ct:CT} {l:List ct.D} {bb:Bool} {k1 k2:IntKind} {u v:Int} (ho:op= .slice t x (some a) (some b) none) (hx:evS tm x=some (.ref id i n m)) (hk1:(T t).k= .slice e) (h3:ZcQ (T e).k=false) (hn:nth hp id=some (.row ct l bb)) (hz:Nat.beq ct.w (T e).sz=true)
 (ha:evS tm a=some (.v (.i k1) u)) (hb:evS tm b=some (.v (.i k2) v)) (hj:0≤u∧u≤v∧v≤((m.getD n:Nat):Int)) (hk:k (.ref id (i+u.toNat) (v.toNat-u.toNat) (some (m.getD n-u.toNat))) hp):opT P h T op tm hp k:=by
 subst ho
 simp only[opT,hx,Zi0,hk1,hn,hz,ZqQ,ha,hb]
 generalize(T e).k=q at*
 cases q<;>first|(cases h3;done)|(simp only[];rw[hz];exact⟨hj,hk⟩)
theorem ZtQ {α:Type} (l:List α) (i:Nat):spl l i []=l:=by
 rw[spl,List.nil_append,List.length_nil,Nat.add_zero,List.take_append_drop]
theorem Zr9 {α:Type} {l:List α} {i:Nat} {x:α} (h:nth l i=some x):l.set i x=l:=by
 rw[Za1]at h
 obtain⟨hi,rfl⟩:=List.getElem?_eq_some_iff.1 h
 exact List.set_getElem_self hi
theorem ZiP {ct:CT} {by_ id i n c0 id2 i2 n2:Nat} {m2:Option Nat} {b:Bool} {l l2:List ct.D}
 {c:Call} {t t2 e e2:TypeId} {ts:List TypeId} (ho:op= .call c) (hc:c.callee= .builtin .append) (ha:evL tm c.args.toList=some [.ref id i n (some c0), .ref id2 i2 n2 m2]) (ht:c.argTypes.toList=t::t2::ts) (hk1:(T t).k= .slice e) (hk2:(T t2).k= .slice e2) (hct:(T e).ct=some ct) (hby:(T e).by_=by_) (hok:(ZcQ (T e).k,Nat.ble 1 (T e).by_&&Nat.ble 1 (T e).sz,h.frz t)=(false,true,false))
 (hn:nth hp id=some (.row ct l true)) (hn2:nth hp id2=some (.row ct l2 b)) (h1:i+(n+n2)≤l.length) (h2:i2+n2≤l2.length) (hr:n+n2≤c0)
 (hk:k (.ref id i (n+n2) (some c0)) (hp.set id (.row ct (spl l (i+n) (sub l2 i2 n2)) true))):opT P h T op tm hp k:=by
 have hg:ZoK ct hp (.ref id2 i2 n2 m2) (fun new=>ZqN ct by_ hp (.ref id i n (some c0)) new k):=by
  refine Zm0 hn2 h2 ?_
  have hl:(sub l2 i2 n2).length=n2:=by rw[sub,List.length_take,List.length_drop];omega
  revert hk
  generalize sub l2 i2 n2=new at hl
  intro hk
  simp only[ZqN,hn]
  rw[dif_pos (Zc3 ct)]
  refine⟨by omega, ?_⟩
  cases new with
  |nil=>
   have e0:n2=0:=hl.symm
   subst e0
   rw[ZtQ,Zr9 hn]at hk
   exact hk
  |cons x r=>
   have e1:r.length+1=n2:=hl
   subst e1
   exact⟨fun _=>⟨h1,hk⟩,fun h=>absurd h (by omega)⟩
 simp only[Prod.mk.injEq]at hok
 obtain⟨ok1,ok2,ok3⟩:=hok
 simp only[ho,opT,Zmw,ha,hc,ZgA,ht,hk1,hk2,hct,ok2,ok3]
 subst hby
 generalize(T e).k=kk at*
 cases kk<;>first|(cases ok1;done)|exact hg
theorem ZeK {ct:CT} {id i n:Nat} {m:Option Nat} {l:List ct.D} {c:Call} {t e:TypeId} {ts:List TypeId} (ho:op= .call c) (hc:c.callee= .builtin .clear) (ha:evL tm c.args.toList=some [.ref id i n m]) (ht:c.argTypes.toList=t::ts) (hk1:(T t).k= .slice e) (hct:(T e).ct=some ct) (hok:(ZcQ (T e).k,Nat.ble 1 (T e).sz)=(false,true))
 (hn:nth hp id=some (.row ct l true)) (h1:i+n≤l.length) (hk:k (.tup []) (hp.set id (.row ct (spl l i (List.replicate n ct.z)) true))):opT P h T op tm hp k:=by
 simp only[Prod.mk.injEq]at hok
 obtain⟨ok1,ok2⟩:=hok
 simp only[ho,opT,Zmw,ha,hc,ZnH,ht,hk1,hct,ok2,hn]
 generalize(T e).k=kk at*
 cases kk<;>first|(cases ok1;done)|(simp only[];rw[dif_pos (Zc3 ct)];exact⟨h1,hk⟩)
end
end Go.Tx
