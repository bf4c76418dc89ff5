/- .. -/
import Derived.Test.YtanhdliaaccacaaGreatUB4
import Derived.Test.YtanhdliaaccacaaGreatUB3
import Derived.Lib.SmallJoins
import Derived.Test.YtanhdliaaccacaaGreatUB2
import Derived.Deep.MidRow
import Derived.Laws.Rows
import Derived.LoopTactic
import Derived.Deep.DeepCutAuto
namespace Go.Proofs.YtanhdliaaccacaaGreat
open Go.RowKit Go.ChangeShapes Go.WideShapes Go.Deep
open Go.RowKit
set_option linter.unusedVariables false
set_option maxHeartbeats 64000000
set_option maxRecDepth 100000
structure AB (w:World) (v:Value) (bs:List UInt8):Prop where
 ex:∃ a c,v=.slice a bs.length c∧Src w a bs.length 1 (eB bs)∧bs.length≤c∧c≤maxLen
structure JL {α:Type} (Rd:World→Value→α→Prop) (w:World) (a:Option Addr) (len cap:Nat) (L:List α):Prop where
 length:L.length=len
 room:len≤cap
 most:cap≤maxLen
 at':∀ i x,L[i]?=some x→∃ g o v,a=some ⟨g,o,none⟩∧w.cell? ⟨g,o+i,none⟩=some v∧Rd w v x
abbrev aaI:=JL AB
section
variable {H:Type} {enc:TypeId×Value→H} {P:Program} {w:World} {base:Nat} {spare:Nat→Bool} {held:Bool}
theorem PV {T E:TypeId} (ht:P.underlying T=some (.slice E)) (he:P.underlying E=some (.int .u8)) (hc:P.cellsOf E=1) {fuel:Nat} {cs:List Value} {y:DataW H×List MemPlace}
  (h:DataW.trod enc P w base spare held fuel T cs=some y):∃ v bs,cs=[v]∧AB w v bs:=by
 rcases open_ints ht he hc h with ⟨hcs,_⟩|⟨x,l,c,zs,hcs,_,hl,hm,hz,_,hcell,hws⟩
 ·exact⟨_,[],hcs,none,0,rfl,Src.nil _ _ _,Nat.le_refl _,Nat.zero_le _⟩
 ·have hle:l≤zs.length:=by rw [hz];split <;> omega
  refine⟨_,(zs.take l).map (fun z=>UInt8.ofNat z.toNat),hcs,some x,c,by simp;omega,⟨by simp [eB],fun h0=>?_⟩,by simp;omega,hm⟩
  refine⟨x,rfl,fun j u hu=>?_⟩
  have hlen:((zs.take l).map (fun z=>UInt8.ofNat z.toNat)).length=l:=by simp;omega
  have hj:j < l:=by
   have:=(List.getElem?_eq_some_iff.1 hu).1
   rw [iq,hlen] at this;exact this
  have h1:=hcell j (by omega)
  rw [h1]
  have hw:(Lit.int .u8 zs[j]).wf=true:=hws _ (List.getElem_mem (by omega))
  have hb:0≤zs[j]∧zs[j] < 256:=by
   have hmin:IntKind.u8.min=0:=rfl
   have hmax:IntKind.u8.max=255:=rfl
   simp only [Lit.wf,Bool.and_eq_true,decide_eq_true_eq] at hw
   rw [hmin,hmax] at hw
   omega
  have hgl:(eB ((zs.take l).map (fun z=>UInt8.ofNat z.toNat)))[j]?=some (.int .u8 zs[j]):=by
   simp only [eB,List.map_map,List.getElem?_map,List.getElem?_take,hj,if_true,List.getElem?_eq_getElem (show j < zs.length by omega),Option.map_some,Function.comp]
   congr 2
   rw [UInt8.toNat_ofNat']
   omega
  rw [hgl] at hu
  rw [← hu]
  congr 2
  rw [List.getD_eq_getElem?_getD,List.getElem?_eq_getElem (show j < zs.length by omega)];rfl
theorem Ny {T B:TypeId} (he:P.underlying T=some (.slice B)) (hb:P.underlying B=some (.int .u8)) (hcb:P.cellsOf B=1) {a:Option Addr} {len cap:Nat} {d:DataW H} {p:List MemPlace}
  (h:DataW.Trod enc P w base spare held T (.slice a len cap) d p):∃ bs,AB w (.slice a len cap) bs:=by
 obtain⟨fuel,hf⟩:=h
 obtain⟨v',bs,e,hb⟩:=PV he hb hcb hf
 simp [Value.cells] at e
 subst e
 exact⟨bs,hb⟩
end
section
variable {w0 w:World} {R:List ax}
theorem GZ (h:Own w0 w R) {a:Addr} {v:Value} (hc:w0.cell? a=some v):w.cell? a=some v:=by
 have hb:=World.block_lt_of_cell? _ _ hc
 rw [← hc]
 exact World.cell?_of_block (h.mod.block _ hb (by simp))
theorem Src.old (h:Own w0 w R) {A:Option Addr} {n k:Nat} {xs:List Value} (hs:Src w0 A n k xs):Src w A n k xs:=
 ⟨hs.len,fun h0=>by
  obtain⟨ad,e,hc⟩:=hs.at' h0
  exact⟨ad,e,fun j u hu=>GZ h (hc j u hu)⟩⟩
theorem PW {w:World} {A:Option Addr} {bs:List UInt8} (h:Src w A bs.length 1 (eB bs)):A=none→bs.length=0:=fun e=>by
 subst e
 rcases Nat.eq_zero_or_pos bs.length with h0 | h0
 ·exact h0
 ·obtain⟨ad,e,_⟩:=h.at' h0
  cases e
end
theorem dS {n j:Nat} (h:(j:Int) < (n:Int)):n - (intOf (.int .i64 ((j:Int)+1))).toNat < n - (intOf (.int .i64 (j:Int))).toNat:=by
 simp only [intOf];omega
structure FrI where
 kind:Int
 ak:Int
 body:List UInt8
def ZB (w:World) (g o:Nat) (f:FrI):Prop:=w.cell? ⟨g,o,none⟩=some (.int .i64 f.kind)∧w.cell? ⟨g,o+1,none⟩=some (.int .i64 f.ak)∧∃ v,w.cell? ⟨g,o+2,none⟩=some v∧AB w v f.body
structure PX {α:Type} (k:Nat) (Rd:World→Nat→Nat→α→Prop) (w:World) (v:Value) (L:List α):Prop where
 ex:∃ a c,v=.slice a L.length c∧L.length≤c∧c≤maxLen∧∀ i x,L[i]?=some x→∃ g o,a=some ⟨g,o,none⟩∧Rd w g (o+i * k) x
abbrev Xg:=PX 3 ZB
structure ZC where
 act:Int
 n:Int
 b:List UInt8
 rows:List FrI
def Uc (w:World) (g o:Nat) (c:ZC):Prop:=w.cell? ⟨g,o,none⟩=some (.int .i64 c.act)∧w.cell? ⟨g,o+1,none⟩=some (.int .i64 c.n)∧(∃ v,w.cell? ⟨g,o+2,none⟩=some v∧AB w v c.b)∧∃ v,w.cell? ⟨g,o+3,none⟩=some v∧Xg w v c.rows
abbrev Zh:=PX 4 Uc
section
variable {H:Type} {enc:TypeId×Value→H} {w:World} {base:Nat} {spare:Nat→Bool} {held:Bool}
end
section
variable {w0 w:World} {R:List ax}
end
def encK:List IntKind→List Int→List Value
 | k::ks,n::ns=>.int k n::encK ks ns
 | _,_=>[]
theorem yI:∀ {ks:List IntKind} {ns:List Int} (ks':List IntKind) (ns':List Int),ns.length=ks.length→encK ks ns++encK ks' ns'=encK (ks++ks') (ns++ns')
 | [],[],_,_,_=>rfl
 | k::ks,n::ns,_,_,h=>by simp [encK,yI (ks:=ks) (ns:=ns) _ _ (by simpa using h)]
def Zi (ks:List IntKind) (ns:List Int):Prop:=∀ (j:Nat) (k:IntKind) (n:Int),ks[j]?=some k→ns[j]?=some n→(Lit.int k n).wf=true
theorem JM {ks ks':List IntKind} {ns ns':List Int} (hl:ns.length=ks.length) (h:Zi ks ns) (h':Zi ks' ns'):Zi (ks++ks') (ns++ns'):=by
 intro j k n h1 h2
 by_cases hj:j < ks.length
 ·rw [List.getElem?_append_left hj] at h1
  rw [List.getElem?_append_left (by omega)] at h2
  exact h j k n h1 h2
 ·rw [List.getElem?_append_right (by omega)] at h1
  rw [List.getElem?_append_right (by omega)] at h2
  rw [hl] at h2
  exact h' _ k n h1 h2
section
variable {H:Type} (enc:TypeId×Value→H) (P:Program)
def Aj (T:TypeId) (ks:List IntKind):Prop:=∀ (w:World) (base:Nat) (spare:Nat→Bool) (held:Bool) (n:Nat) (cs:List Value) (x:DataW H×List MemPlace),
 DataW.trod enc P w base spare held n T cs=some x→∃ ns:List Int,ns.length=ks.length∧cs=encK ks ns∧Zi ks ns
variable {enc P}
theorem Ak {T:TypeId} {k:IntKind} (h:P.underlying T=some (.int k)):Aj enc P T [k]:=by
 intro w base spare held n cs x hx
 obtain⟨m,e,_,hw⟩:=DataW.trod_int h hx
 refine⟨[m],rfl,by rw [e];rfl,fun j k' n' h1 h2=>?_⟩
 cases j with
 | zero=>simp at h1 h2;subst h1;subst h2;exact hw
 | succ j=>simp at h1
def Xh:Nat→List (Field×List IntKind)→Prop
 | _,[]=>True
 | o,(f,ks)::r=>f.offset=o∧P.cellsOf f.type=ks.length∧Xh (o+ks.length) r
theorem yJ:∀ (fk:List (Field×List IntKind)) (o:Nat),Xh (P:=P) o fk→(∀ p∈fk,Aj enc P p.1.type p.2)→∀ (w:World) (base:Nat) (spare:Nat→Bool) (held:Bool) (n:Nat) (cs:List Value) (xs:List (DataW H×List MemPlace)),
  (∀ (j:Nat) (f:Field),(fk.map (·.1))[j]?=some f→DataW.trod enc P w base spare held n f.type ((cs.drop f.offset).take (P.cellsOf f.type))=xs[j]?)→xs.length=fk.length→cs.length=o+((fk.map (·.2)).flatten).length →
  ∃ ns:List Int,ns.length=((fk.map (·.2)).flatten).length∧cs.drop o=encK ((fk.map (·.2)).flatten) ns∧Zi ((fk.map (·.2)).flatten) ns
 | [],o,_,_,_,_,_,_,_,cs,_,_,_,hl=>⟨[],rfl,by
   have:cs.drop o=[]:=List.drop_eq_nil_of_le (by simpa using Nat.le_of_eq hl)
   simp [this,encK],fun j k n h1=>by simp at h1⟩
 | (f,ks)::r,o,ho,hf,w,base,spare,held,n,cs,xs,hx,hxl,hl=>by
  obtain⟨o1,o2,o3⟩:=ho
  cases xs with
  | nil=>simp at hxl
  | cons x xs=>
   have h0:=hx 0 f (by simp)
   rw [o1,o2] at h0
   simp only [List.getElem?_cons_zero] at h0
   obtain⟨ns,n1,n2,n3⟩:=hf (f,ks) (by simp) w base spare held n _ x h0
   obtain⟨ms,m1,m2,m3⟩:=yJ r (o+ks.length) o3 (fun p hp=>hf p (List.mem_cons_of_mem _ hp)) w base spare held n cs xs (fun j g hg=>hx (j+1) g (by simpa using hg)) (by simpa using hxl)
    (by rw [hl];simp only [List.map_cons,List.flatten_cons,List.length_append];omega)
   refine⟨ns++ms,by simp only [List.map_cons,List.flatten_cons,List.length_append];rw [n1,m1],?_,by simpa using JM n1 n3 m3⟩
   have:cs.drop o=(cs.drop o).take ks.length++(cs.drop o).drop ks.length:=(List.take_append_drop _ _).symm
   rw [this,List.drop_drop,m2,n2,yI _ _ n1]
   simp
theorem sF {T:TypeId} {fs:Array Field} (h:P.underlying T=some (.struct fs)) (fk:List (Field×List IntKind)) (Xi:fk.map (·.1)=fs.toList) (ho:Xh (P:=P) 0 fk) (hf:∀ p∈fk,Aj enc P p.1.type p.2)
  (hc:P.cellsOf T=((fk.map (·.2)).flatten).length):Aj enc P T ((fk.map (·.2)).flatten):=by
 intro w base spare held n cs x hx
 obtain⟨xs,n',_,_,hl,hlen,hfl⟩:=DataW.trod_struct h hx
 have:=yJ fk 0 ho hf w base spare held n' cs xs (fun j f hj=>hfl j f (by rw [Xi] at hj;simpa using hj)) (by rw [hlen,← Array.length_toList,← Xi,List.length_map]) (by rw [hl,hc];omega)
 simpa using this
structure aaB (ks:List IntKind) (w:World) (a:Option Addr) (len cap:Nat) (ps:List (List Int)):Prop where
 length:ps.length=len
 room:len≤cap
 most:cap≤maxLen
 shape:∀ x∈ps,x.length=ks.length∧Zi ks x
 at':len=0∨∃ b o,a=some ⟨b,o,none⟩∧b < w.heap.size∧∀ i x,ps[i]?=some x→∀ j v,(encK ks x)[j]?=some v→w.cell? ⟨b,o+(i * ks.length+j),none⟩=some v
end
theorem PY {H:Type} {enc:TypeId×Value→H}:Aj enc Tryz.prog 47 [.u32,.u32,.i64,.i64,.i64]:=by
 refine sF Tryz.underlying47 [(_,[.u32]),(_,[.u32]),(_,[.i64]),(_,[.i64]),(_,[.i64])] rfl ⟨rfl,by kernel_rfl,rfl,by kernel_rfl,rfl,by kernel_rfl,rfl,by kernel_rfl,rfl,by kernel_rfl,trivial⟩ ?_ (by kernel_rfl)
 intro p hp
 simp only [List.mem_cons,List.not_mem_nil,or_false] at hp
 rcases hp with rfl | rfl | rfl | rfl | rfl
 all_goals exact Ak (by kernel_rfl)
theorem Ud {H:Type} {enc:TypeId×Value→H}:Aj enc Tryz.prog 49 [.u32,.u32,.i64,.i64,.i64,.i64,.i64,.i64]:=by
 refine sF Tryz.underlying49 [(_,[.u32,.u32,.i64,.i64,.i64]),(_,[.i64]),(_,[.i64]),(_,[.i64])] rfl ⟨rfl,by kernel_rfl,rfl,by kernel_rfl,rfl,by kernel_rfl,rfl,by kernel_rfl,trivial⟩ ?_ (by kernel_rfl)
 intro p hp
 simp only [List.mem_cons,List.not_mem_nil,or_false] at hp
 rcases hp with rfl | rfl | rfl | rfl
 ·exact PY
 all_goals exact Ak (by kernel_rfl)
theorem Ue {H:Type} {enc:TypeId×Value→H}:Aj enc Tryz.prog 103 [.i64,.u32,.i64]:=by
 refine sF Tryz.underlying103 [(_,[.i64]),(_,[.u32]),(_,[.i64])] rfl ⟨rfl,by kernel_rfl,rfl,by kernel_rfl,rfl,by kernel_rfl,trivial⟩ ?_ (by kernel_rfl)
 intro p hp
 simp only [List.mem_cons,List.not_mem_nil,or_false] at hp
 rcases hp with rfl | rfl | rfl
 all_goals exact Ak (by kernel_rfl)
theorem sG {n:Int} (h:(Lit.int .i64 n).wf=true):-9223372036854775808≤n∧n < 9223372036854775808:=by
 simp [Lit.wf,IntKind.min,IntKind.max,IntKind.signed,IntKind.bits] at h
 omega
theorem Al {n:Int} (h:(Lit.int .u32 n).wf=true):0≤n∧n < 4294967296:=by
 simp [Lit.wf,IntKind.min,IntKind.max,IntKind.signed,IntKind.bits] at h
 omega
abbrev lD (b:Bk):List Value:=[.int .i64 b.id,.int .u32 b.addr,.int .i64 b.weight]
def pQ (l:List Bk):List Value:=(l.map lD).flatten
theorem qV (l:List Bk):(pQ l).length=l.length * 3:=by
 induction l with
 | nil=>rfl
 | cons b l ih=>
  have e:pQ (b::l)=lD b++pQ l:=by simp [pQ]
  have e1:(lD b).length=3:=rfl
  have e2:(b::l).length=l.length+1:=rfl
  rw [e,List.length_append,ih,e1,e2]
  omega
theorem JN:∀ {l:List Bk} {i:Nat} {b:Bk},l[i]?=some b→(pQ l)[i * 3]?=some (.int .i64 b.id)∧(pQ l)[i * 3+1]?=some (.int .u32 b.addr)∧(pQ l)[i * 3+2]?=some (.int .i64 b.weight)
 | [],_,_,h=>by simp at h
 | x::l,0,b,h=>by
  simp at h;subst h
  simp [pQ,lD]
 | x::l,i+1,b,h=>by
  have e:pQ (x::l)=lD x++pQ l:=by simp [pQ]
  obtain⟨h0,h1,h2⟩:=JN (l:=l) (i:=i) (by simpa using h)
  have hl:(lD x).length=3:=rfl
  rw [e]
  refine⟨?_,?_,?_⟩
  ·rw [List.getElem?_append_right (by rw [hl];omega),hl,show (i+1) * 3 - 3=i * 3 by omega];exact h0
  ·rw [List.getElem?_append_right (by rw [hl];omega),hl,show (i+1) * 3+1 - 3=i * 3+1 by omega];exact h1
  ·rw [List.getElem?_append_right (by rw [hl];omega),hl,show (i+1) * 3+2 - 3=i * 3+2 by omega];exact h2
theorem Uf (l:List Bk):∀ u∈pQ l,u.oneCell'=true:=by
 intro u hu
 simp only [pQ,List.mem_flatten,List.mem_map] at hu
 obtain⟨x,⟨b,_,rfl⟩,hx⟩:=hu
 simp at hx
 rcases hx with rfl | rfl | rfl <;> rfl
theorem PZ (l:List Bk) (b:Bk):pQ (l++[b])=pQ l++lD b:=by simp [pQ]
theorem Ug {l:List Bk} {t:Nat} {u:Value} (h:(pQ l)[t]?=some u):∃ b,l[t / 3]?=some b∧(lD b)[t % 3]?=some u:=by
 have hlt:t < l.length * 3:=by rw [← qV];exact (List.getElem?_eq_some_iff.1 h).1
 obtain⟨b,hb⟩:∃ b,l[t / 3]?=some b:=⟨l[t / 3]'(by omega),List.getElem?_eq_getElem _⟩
 refine⟨b,hb,?_⟩
 obtain⟨h0,h1,h2⟩:=JN hb
 have hd:=Nat.div_add_mod t 3
 have hm:=Nat.mod_lt t (show 0 < 3 by decide)
 rcases (by omega:t % 3=0∨t % 3=1∨t % 3=2) with e | e | e
 ·rw [show t / 3 * 3=t by omega,h] at h0;rw [e];exact h0.symm
 ·rw [show t / 3 * 3+1=t by omega,h] at h1;rw [e];exact h1.symm
 ·rw [show t / 3 * 3+2=t by omega,h] at h2;rw [e];exact h2.symm
structure JO (w:World) (v:Value) (l:List Bk):Prop where
 ex:∃ a c,v=.slice a l.length c∧Src w a l.length 3 (pQ l)∧l.length≤c∧c≤maxLen∧(a=none→c=0)
 wf:∀ b∈l,Xc b
abbrev aC (r:Rec) (v:Value):List Value:=[.int .i64 r.kind,.int .u32 r.fl.t.src,.int .u32 r.fl.t.dst,.int .i64 r.fl.t.proto,.int .i64 r.fl.t.ag,.int .i64 r.fl.t.ah,.int .i64 r.fl.bk,.int .i64 r.fl.gen,.int .i64 r.fl.seen,.int .i64 r.gen,v,.int .i64 r.bk,.int .i64 r.till,.int .i64 r.count]
structure Xj (r:Rec):Prop where
 rr:nS r
 bb:∀ b∈r.au,Xc b
def Qa (w:World) (cs:List Value) (r:Rec):Prop:=∃ v,cs=aC r v∧JO w v r.au∧Xj r
structure Qb {α:Type} (k:Nat) (Q:World→List Value→α→Prop) (w:World) (v:Value) (L:List α):Prop where
 ex:∃ a c,v=.slice a L.length c∧L.length≤c∧c≤maxLen∧(a=none→c=0)∧∀ i x,L[i]?=some x→∃ g o cs,a=some ⟨g,o,none⟩∧Q w cs x∧∀ j u,cs[j]?=some u→w.cell? ⟨g,o+i * k+j,none⟩=some u
abbrev En:=Qb 14 Qa
structure kS where
 act:Int
 n:Int
 r:Rec
 rows:List Rec
 picks:List UInt8
def zD (w:World) (cs:List Value) (c:kS):Prop:=∃ v vr vp,cs=.int .i64 c.act::.int .i64 c.n::(aC c.r v++[vr,vp])∧JO w v c.r.au∧Xj c.r∧En w vr c.rows∧AB w vp c.picks
abbrev uW:=Qb 18 zD
section
variable {H:Type} {enc:TypeId×Value→H} {P:Program} {w:World} {base:Nat} {spare:Nat→Bool} {held:Bool}
theorem JP {α:Type} {Q:World→List Value→α→Prop} {T E:TypeId} {k:Nat} (ht:P.underlying T=some (.slice E)) (hC:P.cellsOf E=k) (hpos:0 < k)
  (one:∀ n cs y,DataW.trod enc P w base spare held n E cs=some y→cs.length=k→∃ x,Q w cs x) {fuel:Nat} {cs:List Value} {y:DataW H×List MemPlace}
  (hf:DataW.trod enc P w base spare held fuel T cs=some y):∃ v L,cs=[v]∧Qb k Q w v L:=by
 rcases open_slice ht hf with ⟨hcs,_⟩|⟨x,l,c,m,n,D,Pl,hcs,_,hl,hm,hmm,_,hi⟩
 ·exact⟨_,[],hcs,none,0,rfl,Nat.le_refl _,Nat.zero_le _,fun _=>rfl,by simp⟩
 ·have hle:l≤m:=by rw [hmm];split <;> omega
  have one':∀ i,i < l→∃ z:α,∃ cs',Q w cs' z∧cs'.length=k∧∀ j v,cs'[j]?=some v→w.cell? (x.add (i * k+j))=some v:=by
   intro i hil
   obtain⟨cs',hc,ht'⟩:=hi i (by omega)
   obtain⟨_,hcl,hat⟩:=World.cells?_some hc
   have hcl':cs'.length=k:=by rw [← hC];exact hcl
   obtain⟨z,hz⟩:=one _ _ _ ht' hcl'
   refine⟨z,cs',hz,hcl',fun j v hv=>?_⟩
   have hj:j < P.cellsOf E:=by
    have:=(List.getElem?_eq_some_iff.1 hv).1
    omega
   rw [← Go.Deep.add_add,← hC,hat j hj];exact hv
  obtain⟨L,hl1,hp⟩:=yH l one'
  refine⟨_,L,hcs,some x,c,by rw [hl1],by omega,hm,(fun e=>by cases e),fun i z hz=>?_⟩
  obtain⟨hi2,rfl⟩:=List.getElem?_eq_some_iff.1 hz
  have ZE:0 < L.length:=by omega
  obtain⟨cs0,q1,q2,q3⟩:=hp 0 ZE
  have c0:=q3 0 _ (List.getElem?_eq_getElem (by omega))
  have e:=CJ (a:=x) (by simpa using c0)
  obtain⟨cs',q4,_,q5⟩:=hp i hi2
  refine⟨x.block,x.off,cs',by rw [← e],q4,fun j u hu=>?_⟩
  have:=q5 j u hu
  rw [e,add_plain] at this
  rw [Nat.add_assoc];exact this
theorem Uh {fuel:Nat} {cs:List Value} {y:DataW H×List MemPlace} (h:DataW.trod enc Tryz.prog w base spare held fuel 22 cs=some y):∃ v l,cs=[v]∧JO w v l:=by
 obtain⟨v,L,e,hv⟩:=JP (k:=3) (Q:=fun _ cs (b:Bk)=>cs=lD b∧Xc b) Tryz.underlying22 (by kernel_rfl) (by decide) (fun n cs y hy hl=>by
  obtain⟨ns,n1,n2,n3⟩:=Ue w base spare held n cs y hy
  match ns,n1,n2,n3 with
  | [a,b,c],_,e,hw=>
   obtain⟨a0,a1⟩:=sG (hw 0 _ _ rfl rfl)
   obtain⟨b0,b1⟩:=Al (hw 1 _ _ rfl rfl)
   obtain⟨c0,c1⟩:=sG (hw 2 _ _ rfl rfl)
   exact⟨⟨a,b,c⟩,by rw [e];rfl,⟨a0,a1,b0,b1,c0,c1⟩⟩) h
 obtain⟨a,c,e1,h1,h2,hn,h3⟩:=hv.ex
 refine⟨v,L,e,⟨⟨a,c,e1,⟨qV L,fun h0=>?_⟩,h1,h2,hn⟩,fun b hb=>?_⟩⟩
 ·obtain⟨g,o,cs0,e0,_,_⟩:=h3 0 _ (List.getElem?_eq_getElem h0)
  refine⟨⟨g,o,none⟩,e0,fun j u hu=>?_⟩
  obtain⟨b,hb,hbu⟩:=Ug hu
  obtain⟨g',o',cs',e',⟨ec,_⟩,hc⟩:=h3 _ _ hb
  rw [e0] at e';cases e'
  subst ec
  have:=hc _ _ hbu
  rw [lq,show o+j=o+j / 3 * 3+j % 3 by omega]
  exact this
 ·obtain⟨i,hi,rfl⟩:=List.mem_iff_getElem.1 hb
  obtain⟨_,_,_,_,⟨_,hw⟩,_⟩:=h3 i _ (List.getElem?_eq_getElem hi)
  exact hw
theorem Ps {fs:Array Field} {n':Nat} {cs:List Value} {xs:List (DataW H×List MemPlace)} (hfl:∀ (i:Nat) (f:Field),fs[i]?=some f→DataW.trod enc P w base spare held n' f.type ((cs.drop f.offset).take (P.cellsOf f.type))=xs[i]?) {j o k T:Nat} {f:Field} (hj:fs[j]?=some f) (ht:f.type=T) (ho:f.offset=o) (hk:P.cellsOf T=k) (hx:j < xs.length) :
  ∃ z,DataW.trod enc P w base spare held n' T ((cs.drop o).take k)=some z:=by
 subst ht ho hk
 exact⟨xs[j],by rw [hfl j f hj];exact List.getElem?_eq_getElem hx⟩
theorem Xk {cs:List Value} (h:cs.length=14):∃ c0 c1 c2 c3 c4 c5 c6 c7 c8 c9 c10 c11 c12 c13,cs=[c0,c1,c2,c3,c4,c5,c6,c7,c8,c9,c10,c11,c12,c13]:=by
 match cs,h with
 | [c0,c1,c2,c3,c4,c5,c6,c7,c8,c9,c10,c11,c12,c13],_=>exact⟨c0,c1,c2,c3,c4,c5,c6,c7,c8,c9,c10,c11,c12,c13,rfl⟩
theorem Xl {cs:List Value} (h:cs.length=18):∃ c0 c1 c2 c3 c4 c5 c6 c7 c8 c9 c10 c11 c12 c13 c14 c15 c16 c17,cs=[c0,c1,c2,c3,c4,c5,c6,c7,c8,c9,c10,c11,c12,c13,c14,c15,c16,c17]:=by
 match cs,h with
 | [c0,c1,c2,c3,c4,c5,c6,c7,c8,c9,c10,c11,c12,c13,c14,c15,c16,c17],_=>exact⟨c0,c1,c2,c3,c4,c5,c6,c7,c8,c9,c10,c11,c12,c13,c14,c15,c16,c17,rfl⟩
theorem Wq {n:Nat} {cs:List Value} {y:DataW H×List MemPlace} (h:DataW.trod enc Tryz.prog w base spare held n 59 cs=some y) (hl:cs.length=14):∃ r,Qa w cs r:=by
 obtain⟨xs,n',_,_,hlc,hlen,hfl⟩:=DataW.trod_struct Tryz.underlying59 h
 have hxl:xs.length=7:=by rw [hlen];rfl
 obtain⟨z0,t0⟩:=Ps hfl (j:=0) rfl rfl rfl (show Tryz.prog.cellsOf 3=1 by kernel_rfl) (by omega)
 obtain⟨z1,t1⟩:=Ps hfl (j:=1) rfl rfl rfl (show Tryz.prog.cellsOf 49=8 by kernel_rfl) (by omega)
 obtain⟨z2,t2⟩:=Ps hfl (j:=2) rfl rfl rfl (show Tryz.prog.cellsOf 3=1 by kernel_rfl) (by omega)
 obtain⟨z3,t3⟩:=Ps hfl (j:=3) rfl rfl rfl (show Tryz.prog.cellsOf 22=1 by kernel_rfl) (by omega)
 obtain⟨z4,t4⟩:=Ps hfl (j:=4) rfl rfl rfl (show Tryz.prog.cellsOf 3=1 by kernel_rfl) (by omega)
 obtain⟨z5,t5⟩:=Ps hfl (j:=5) rfl rfl rfl (show Tryz.prog.cellsOf 2=1 by kernel_rfl) (by omega)
 obtain⟨z6,t6⟩:=Ps hfl (j:=6) rfl rfl rfl (show Tryz.prog.cellsOf 3=1 by kernel_rfl) (by omega)
 obtain⟨k,e0,-,-⟩:=DataW.trod_int (k:=.i64) (by kernel_rfl) t0
 obtain⟨ns,n1,n2,n3⟩:=Ud w base spare held n' _ _ t1
 obtain⟨g,e2,-,-⟩:=DataW.trod_int (k:=.i64) (by kernel_rfl) t2
 obtain⟨v,l,e3,hb⟩:=Uh t3
 obtain⟨b,e4,-,-⟩:=DataW.trod_int (k:=.i64) (by kernel_rfl) t4
 obtain⟨u,e5,-,-⟩:=DataW.trod_int (k:=.i64) (by kernel_rfl) t5
 obtain⟨c,e6,-,-⟩:=DataW.trod_int (k:=.i64) (by kernel_rfl) t6
 obtain⟨c0,c1,c2,c3,c4,c5,c6,c7,c8,c9,c10,c11,c12,c13,rfl⟩:=Xk hl
 match ns,n1,n2,n3 with
 | [s,d,p,sp,dp,bk,gn,sn],_,e1,hw=>
  change [c0]=_ at e0
  change [c1,c2,c3,c4,c5,c6,c7,c8]=_ at e1
  change [c9]=_ at e2
  change [c10]=_ at e3
  change [c11]=_ at e4
  change [c12]=_ at e5
  change [c13]=_ at e6
  simp only [encK,List.cons.injEq,and_true] at e0 e1 e2 e3 e4 e5 e6
  obtain⟨s0,s1⟩:=Al (hw 0 _ _ rfl rfl)
  obtain⟨d0,d1⟩:=Al (hw 1 _ _ rfl rfl)
  obtain⟨p0,p1⟩:=sG (hw 2 _ _ rfl rfl)
  obtain⟨Zy,sp1⟩:=sG (hw 3 _ _ rfl rfl)
  obtain⟨Zz,dp1⟩:=sG (hw 4 _ _ rfl rfl)
  obtain⟨q1,q2,q3,q4,q5,q6,q7,q8⟩:=e1
  subst e0 e2 e3 e4 e5 e6 q1 q2 q3 q4 q5 q6 q7 q8
  exact⟨⟨k,⟨⟨s,d,p,sp,dp⟩,bk,gn,sn⟩,g,l,b,u,c⟩,_,rfl,hb,⟨⟨⟨s0,s1,d0,d1,p0,by show p≤_;omega,Zy,by show sp≤_;omega,Zz,by show dp≤_;omega⟩,fun b hb'=>⟨(hb.wf b hb').a0,(hb.wf b hb').a1⟩⟩,hb.wf⟩⟩
theorem Qc {fuel:Nat} {cs:List Value} {y:DataW H×List MemPlace} (h:DataW.trod enc Tryz.prog w base spare held fuel 51 cs=some y):∃ v L,cs=[v]∧En w v L:=
 JP (k:=14) (Q:=Qa) Tryz.underlying51 (by kernel_rfl) (by decide) (fun n cs y hy hl=>Wq hy hl) h
theorem Xm {n:Nat} {cs:List Value} {y:DataW H×List MemPlace} (h:DataW.trod enc Tryz.prog w base spare held n 67 cs=some y) (hl:cs.length=18):∃ c,zD w cs c:=by
 obtain⟨xs,n',_,_,hlc,hlen,hfl⟩:=DataW.trod_struct Tryz.underlying67 h
 have hxl:xs.length=5:=by rw [hlen];rfl
 obtain⟨z0,t0⟩:=Ps hfl (j:=0) rfl rfl rfl (show Tryz.prog.cellsOf 3=1 by kernel_rfl) (by omega)
 obtain⟨z1,t1⟩:=Ps hfl (j:=1) rfl rfl rfl (show Tryz.prog.cellsOf 3=1 by kernel_rfl) (by omega)
 obtain⟨z2,t2⟩:=Ps hfl (j:=2) rfl rfl rfl (show Tryz.prog.cellsOf 59=14 by kernel_rfl) (by omega)
 obtain⟨z3,t3⟩:=Ps hfl (j:=3) rfl rfl rfl (show Tryz.prog.cellsOf 51=1 by kernel_rfl) (by omega)
 obtain⟨z4,t4⟩:=Ps hfl (j:=4) rfl rfl rfl (show Tryz.prog.cellsOf 65=1 by kernel_rfl) (by omega)
 obtain⟨k,e0,-,-⟩:=DataW.trod_int (k:=.i64) (by kernel_rfl) t0
 obtain⟨g,e1,-,-⟩:=DataW.trod_int (k:=.i64) (by kernel_rfl) t1
 obtain⟨r,v,er,hb,hw⟩:=Wq t2 (by rw [List.length_take,List.length_drop,hl];rfl)
 obtain⟨vr,L,e3,hL⟩:=Qc t3
 obtain⟨vp,bs,e4,hp⟩:=PV Tryz.underlying65 Tryz.underlying5 (by kernel_rfl) t4
 obtain⟨c0,c1,c2,c3,c4,c5,c6,c7,c8,c9,c10,c11,c12,c13,c14,c15,c16,c17,rfl⟩:=Xl hl
 change [c0]=_ at e0
 change [c1]=_ at e1
 change [c2,c3,c4,c5,c6,c7,c8,c9,c10,c11,c12,c13,c14,c15]=_ at er
 change [c16]=_ at e3
 change [c17]=_ at e4
 simp only [List.cons.injEq,and_true] at e0 e1 er e3 e4
 obtain⟨q1,q2,q3,q4,q5,q6,q7,q8,q9,q10,q11,q12,q13,q14⟩:=er
 subst e0 e1 e3 e4 q1 q2 q3 q4 q5 q6 q7 q8 q9 q10 q11 q12 q13 q14
 exact⟨⟨k,g,r,L,bs⟩,_,_,_,rfl,hb,hw,hL,hp⟩
theorem Ui {a:Option Addr} {len cap:Nat} {d:DataW H} {p:List MemPlace} (h:DataW.Trod enc Tryz.prog w base spare held 34 (.slice a len cap) d p):∃ L,uW w (.slice a len cap) L:=by
 obtain⟨fuel,hf⟩:=h
 obtain⟨v,L,e,hL⟩:=JP (k:=18) (Q:=zD) Tryz.underlying34 (by kernel_rfl) (by decide) (fun n cs y hy hl=>Xm hy hl) hf
 simp [Value.cells] at e
 subst e
 exact⟨L,hL⟩
end
section
variable {w0 w:World} {R:List ax}
end
theorem nO (w:World) (A B C:Obj):(((w.alloc A).alloc B).alloc C).heap[w.heap.size+1]?=some B:=by
 rw [heap_alloc_old _ _ (by rw [World.size_alloc,World.size_alloc];omega),heap_alloc2_new]
def setL:Nat→List Value→Array Value→Array Value
 | _,[],C=>C
 | o,x::xs,C=>setL (o+1) xs (C.setIfInBounds o x)
theorem sH:∀ (xs:List Value) (o:Nat) (C:Array Value),o+xs.length≤C.size→(setL o xs C).toList=C.toList.take o++(xs++C.toList.drop (o+xs.length))
 | [],o,C,h=>by simp [setL]
 | x::xs,o,C,h=>by
  simp only [List.length_cons] at h
  have h1:=sH xs (o+1) (C.setIfInBounds o x) (by simp;omega)
  show (setL (o+1) xs (C.setIfInBounds o x)).toList=_
  rw [h1,Array.toList_setIfInBounds]
  have e1:(C.toList.set o x).take (o+1)=C.toList.take o++[x]:=by
   rw [List.take_add_one,List.take_set_of_le (Nat.le_refl _),List.getElem?_set_self (by simp;omega)];rfl
  have e2:(C.toList.set o x).drop (o+1+xs.length)=C.toList.drop (o+1+xs.length):=List.drop_set_of_lt (by omega)
  rw [e1,e2,List.append_assoc]
  simp only [List.length_cons,List.cons_append,List.nil_append]
  rw [show o+1+xs.length=o+(xs.length+1) by omega]
theorem Nz {xs:List Value} {C:Array Value} (h:xs.length=C.size):setL 0 xs C=xs.toArray:=by
 apply Array.toList_inj.1
 rw [sH xs 0 C (by omega)]
 simp [h]
theorem jc {xs ys:List Value} {o:Nat} {C:Array Value} (h:o+xs.length≤C.size) (hy:C.toList.take o++(xs++C.toList.drop (o+xs.length))=ys):setL o xs C=ys.toArray:=by
 apply Array.toList_inj.1
 rw [sH xs o C h,hy]
theorem In.ku {F0:List Nat} {w0:World} {b:Nat} {T:TypeId}:∀ (xs:List Value) (o:Nat) {w:World} {R:List ax} {C:Array Value} (i:Nat),In F0 w0 w R→R[i]?=some (Cells b C T)→In F0 w0 (w.setCells b o xs) (R.set i (Cells b (setL o xs C) T))
 | [],o,w,R,C,i,h,hA=>by
  have:R.set i (Cells b C T)=R:=pX hA
  show In F0 w0 w (R.set i (Cells b C T))
  rw [this];exact h
 | x::xs,o,w,R,C,i,h,hA=>by
  have h1:=h.put i hA o x
  have hi:i < R.length:=(List.getElem?_eq_some_iff.1 hA).1
  have h2:=In.ku (b:=b) (T:=T) xs (o+1) (C:=C.setIfInBounds o x) i h1 (by simp [hi])
  rw [List.set_set] at h2
  exact h2
theorem In.eX {F0:List Nat} {w0 w:World} {R:List ax} {b:Nat} {T:TypeId} {C:Array Value} (h:In F0 w0 w R) (i:Nat) (hA:R[i]?=some (Cells b C T)) {xs:List Value} (hl:xs.length=C.size):In F0 w0 (w.setCells b 0 xs) (R.set i (Cells b xs.toArray T)):=by
 have h1:=In.ku xs 0 i h hA
 rwa [Nz hl] at h1
theorem dX {w:World} {b:Nat} {C:Array Value} {T:TypeId} (h:w.heap[b]?=some (.cells C T (0,0))):w.there b 0 C.size:=fun j hj=>by
 rw [Nat.zero_add]
 refine⟨?_,aK h⟩
 rw [cell_of h (Array.getElem?_eq_getElem hj)];rfl
def CK:Array Value:=#[.int .i64 0,.int .i64 0,.int .i64 0,.int .u32 0,.int .u32 0,.int .i64 0,.int .i64 0,.int .i64 0,.int .i64 0,.int .i64 0,.int .i64 0,.int .i64 0,.slice none 0 0,.int .i64 0,.int .i64 0,.int .i64 0,.slice none 0 0,.slice none 0 0]
def abB:Array Value:=#[.int .i64 0,.int .u32 0,.int .u32 0,.int .i64 0,.int .i64 0,.int .i64 0,.int .i64 0,.int .i64 0,.int .i64 0,.int .i64 0,.slice none 0 0,.int .i64 0,.int .i64 0,.int .i64 0]
def nT (c:kS) (ab:Option Addr) (cb:Nat) (ar:Option Addr) (cr:Nat) (ap:Option Addr) (cp:Nat):List Value:=.int .i64 c.act::.int .i64 c.n::(aC c.r (.slice ab c.r.au.length cb)++[.slice ar c.rows.length cr,.slice ap c.picks.length cp])
def Qd (r:Rec) (ab:Option Addr) (cb:Nat):List Value:=aC r (.slice ab r.au.length cb)
section
variable {c:kS} {ab ar ap:Option Addr} {cb cr cp:Nat} {r:Rec}
theorem Ha:(nT c ab cb ar cr ap cp).toArray[12]?=some (.slice ab c.r.au.length cb):=rfl
theorem CL:(nT c ab cb ar cr ap cp).toArray.all (·.oneCell')=true:=by simp [nT,aC,Value.oneCell']
theorem NA {j:Nat} {u:Value} (h:(Qd c.r ab cb)[j]?=some u):(nT c ab cb ar cr ap cp).toArray[2+j]?=some u:=by
 have hj:j < 14:=(List.getElem?_eq_some_iff.1 h).1
 rw [List.getElem?_toArray]
 show (.int .i64 c.act::.int .i64 c.n::(Qd c.r ab cb++_):List Value)[2+j]?=some u
 rw [show 2+j=j+1+1 by omega,List.getElem?_cons_succ,List.getElem?_cons_succ,List.getElem?_append_left (by show j < 14;exact hj)]
 exact h
end
theorem Ml {W:World} {cs:List Value} {c:kS} (h:zD W cs c):∃ ab cb ar cr ap cp,cs=nT c ab cb ar cr ap cp∧Src W ab c.r.au.length 3 (pQ c.r.au)∧(ab=none→cb=0)∧c.r.au.length≤maxLen∧Xj c.r∧En W (.slice ar c.rows.length cr) c.rows∧AB W (.slice ap c.picks.length cp) c.picks∧c.rows.length≤maxLen:=by
 obtain⟨v,vr,vp,rfl,h1,h2,h3,h4⟩:=h
 obtain⟨ab,cb,rfl,s1,s2,s3,s4⟩:=h1.ex
 obtain⟨ar,cr,rfl,t1,t2,t3,t4⟩:=h3.ex
 obtain⟨ap,cp,rfl,u1,u2,u3⟩:=h4.ex
 exact⟨ab,cb,ar,cr,ap,cp,rfl,s1,s4,Nat.le_trans s2 s3,h2,h3,h4,Nat.le_trans t1 t2⟩
theorem CO {w0 w:World} {R:List ax} (h:Own w0 w R) {b o:Nat} {cs:List Value} (hc:∀ j u,cs[j]?=some u→w0.cell? ⟨b,o+j,none⟩=some u):w.rangeAt b o cs:=fun j u hu=>GZ h (hc j u hu)
section
variable {F0:List Nat} {w0 w:World} {R:List ax}
theorem Hd (h:In F0 w0 w R) (c:kS) (ab:Option Addr) (cb:Nat) (ar:Option Addr) (cr:Nat) (ap:Option Addr) (cp:Nat):(w.alloc (.cells CK 67)).there w.heap.size 0 18∧In F0 w0 ((w.alloc (.cells CK 67)).setCells w.heap.size 0 (nT c ab cb ar cr ap cp).toArray.toList) (Cells w.heap.size (nT c ab cb ar cr ap cp).toArray 67::R):=by
 have g1:=h.cells CK 67
 exact⟨dX (g1.block 0 rfl),g1.eX 0 rfl (xs:=nT c ab cb ar cr ap cp) (b:=w.heap.size) (C:=CK) (T:=67) rfl⟩
theorem Am {b:Nat} {c:kS} {ab ar ap:Option Addr} {cb cr cp:Nat} {W:World} (h:W.heap[b]?=some (.cells (nT c ab cb ar cr ap cp).toArray 67 (0,0))):W.rangeAt b 2 (Qd c.r ab cb):=fun j u hu=>cell_of h (NA hu)
end
structure Qe (c:kS):Prop where
 n:c.rows.length≤30
 b:c.r.au.length≤40
 rows:∀ r∈c.rows,r.au.length≤40
structure Xn (cs:List kS):Prop where
 len:cs.length≤60
 each:∀ c∈cs,Qe c
section
variable {w0 w:World} {R:List ax}
def abh (cs:List kS) (w0:World) (R:List ax) (i:Value) (wr:World):Prop:=
 ∃ k:Nat,k≤cs.length∧k≤60∧i=.int .i64 k∧(∀ c∈cs.take k,Qe c)∧In [] w0 wr R
def aaJ (rs:List Rec) (w0:World) (R:List ax) (i:Value) (wr:World):Prop:=
 ∃ k:Nat,k≤rs.length∧i=.int .i64 k∧(∀ r∈rs.take k,r.au.length≤40)∧In [] w0 wr R
def Zj (cs:List kS) (w0:World) (R:List ax) (e:Ending) (w':World):Prop:=∃ b:Bool,e=.returned (.bool b)∧(b=true→Xn cs)∧In [] w0 w' R
end
end Go.Proofs.YtanhdliaaccacaaGreat
