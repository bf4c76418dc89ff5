/- Parts of the proofs that a compaction keeps what lives, and done again is as once. -/
import Derived.Test.YtogclkhpbjfadaaGreatCK4
import Derived.Test.YtogclkhpbjfadaaGreatCK3
import Derived.Lib.SmallJoins
import Derived.Test.YtogclkhpbjfadaaGreatCK2
import Derived.Deep.MidRow
import Derived.Laws.Rows
import Derived.LoopTactic
import Derived.Deep.DeepCutAuto
namespace Go.Proofs.YtogclkhpbjfadaaGreat
open Go.RowKit Go.ChangeShapes Go.WideShapes Go.Deep
open Go.RowKit
set_option linter.unusedVariables false
set_option maxHeartbeats 64000000
set_option maxRecDepth 100000
structure AB (w:World) (v:Value) (bs:List UInt8):Prop where
 ex:∃ a c,v=.slice a bs.length c∧Src w a bs.length 1 (eD bs)∧bs.length≤c∧c≤maxLen
structure JC {α:Type} (Rd:World→Value→α→Prop) (w:World) (a:Option Addr) (len cap:Nat) (L:List α):Prop where
 length:L.length=len
 room:len≤cap
 most:cap≤maxLen
 at':∀ i x,L[i]?=some x→∃ g o v,a=some ⟨g,o,none⟩∧w.cell? ⟨g,o+i,none⟩=some v∧Rd w v x
abbrev aaq:=JC AB
section
variable {H:Type} {enc:TypeId×Value→H} {P:Program} {w:World} {base:Nat} {spare:Nat→Bool} {held:Bool}
theorem Xc {T E:TypeId} (ht:P.underlying T=some (.slice E)) (he:P.underlying E=some (.int .u8)) (hc:P.cellsOf E=1) {fuel:Nat} {cs:List Value} {y:DataW H×List MemPlace}
  (h:DataW.trod enc P w base spare held fuel T cs=some y):∃ v bs,cs=[v]∧AB w v bs:=by
 rcases open_ints ht he hc h with ⟨hcs,_⟩|⟨x,l,c,zs,hcs,_,hl,hm,hz,_,hcell,hws⟩
 ·exact⟨_,[],hcs,none,0,rfl,Src.nil _ _ _,Nat.le_refl _,Nat.zero_le _⟩
 ·have hle:l≤zs.length:=by rw [hz];split <;> omega
  refine⟨_,(zs.take l).map (fun z=>UInt8.ofNat z.toNat),hcs,some x,c,by simp;omega,⟨by simp [eD],fun h0=>?_⟩,by simp;omega,hm⟩
  refine⟨x,rfl,fun j u hu=>?_⟩
  have hlen:((zs.take l).map (fun z=>UInt8.ofNat z.toNat)).length=l:=by simp;omega
  have hj:j < l:=by
   have:=(List.getElem?_eq_some_iff.1 hu).1
   rw [il,hlen] at this;exact this
  have h1:=hcell j (by omega)
  rw [h1]
  have hw:(Lit.int .u8 zs[j]).wf=true:=hws _ (List.getElem_mem (by omega))
  have hb:0≤zs[j]∧zs[j] < 256:=by
   have hmin:IntKind.u8.min=0:=rfl
   have hmax:IntKind.u8.max=255:=rfl
   simp only [Lit.wf,Bool.and_eq_true,decide_eq_true_eq] at hw
   rw [hmin,hmax] at hw
   omega
  have hgl:(eD ((zs.take l).map (fun z=>UInt8.ofNat z.toNat)))[j]?=some (.int .u8 zs[j]):=by
   simp only [eD,List.map_map,List.getElem?_map,List.getElem?_take,hj,if_true,List.getElem?_eq_getElem (show j < zs.length by omega),Option.map_some,Function.comp]
   congr 2
   rw [UInt8.toNat_ofNat']
   omega
  rw [hgl] at hu
  rw [← hu]
  congr 2
  rw [List.getD_eq_getElem?_getD,List.getElem?_eq_getElem (show j < zs.length by omega)];rfl
end
section
variable {w0 w:World} {R:List az}
theorem GN (h:Own w0 w R) {a:Addr} {v:Value} (hc:w0.cell? a=some v):w.cell? a=some v:=by
 have hb:=World.block_lt_of_cell? _ _ hc
 rw [← hc]
 exact World.cell?_of_block (h.mod.block _ hb (by simp))
theorem Src.old (h:Own w0 w R) {A:Option Addr} {n k:Nat} {xs:List Value} (hs:Src w0 A n k xs):Src w A n k xs:=
 ⟨hs.len,fun h0=>by
  obtain⟨ad,e,hc⟩:=hs.at' h0
  exact⟨ad,e,fun j u hu=>GN h (hc j u hu)⟩⟩
theorem PD {w:World} {A:Option Addr} {bs:List UInt8} (h:Src w A bs.length 1 (eD bs)):A=none→bs.length=0:=fun e=>by
 subst e
 rcases Nat.eq_zero_or_pos bs.length with h0 | h0
 ·exact h0
 ·obtain⟨ad,e,_⟩:=h.at' h0
  cases e
end
theorem dV {n j:Nat} (h:(j:Int) < (n:Int)):n - (intOf (.int .i64 ((j:Int)+1))).toNat < n - (intOf (.int .i64 (j:Int))).toNat:=by
 simp only [intOf];omega
structure FrI where
 kind:Int
 aj:Int
 body:List UInt8
def Zl (w:World) (g o:Nat) (f:FrI):Prop:=w.cell? ⟨g,o,none⟩=some (.int .i64 f.kind)∧w.cell? ⟨g,o+1,none⟩=some (.int .i64 f.aj)∧∃ v,w.cell? ⟨g,o+2,none⟩=some v∧AB w v f.body
structure PE {α:Type} (k:Nat) (Rd:World→Nat→Nat→α→Prop) (w:World) (v:Value) (L:List α):Prop where
 ex:∃ a c,v=.slice a L.length c∧L.length≤c∧c≤maxLen∧∀ i x,L[i]?=some x→∃ g o,a=some ⟨g,o,none⟩∧Rd w g (o+i * k) x
abbrev Xd:=PE 3 Zl
structure Zm where
 act:Int
 n:Int
 b:List UInt8
 rows:List FrI
def Ua (w:World) (g o:Nat) (c:Zm):Prop:=w.cell? ⟨g,o,none⟩=some (.int .i64 c.act)∧w.cell? ⟨g,o+1,none⟩=some (.int .i64 c.n)∧(∃ v,w.cell? ⟨g,o+2,none⟩=some v∧AB w v c.b)∧∃ v,w.cell? ⟨g,o+3,none⟩=some v∧Xd w v c.rows
abbrev YR:=PE 4 Ua
section
variable {H:Type} {enc:TypeId×Value→H} {w:World} {base:Nat} {spare:Nat→Bool} {held:Bool}
end
section
variable {w0 w:World} {R:List az}
end
def encK:List IntKind→List Int→List Value
 | k::ks,n::ns=>.int k n::encK ks ns
 | _,_=>[]
theorem yG:∀ {ks:List IntKind} {ns:List Int} (ks':List IntKind) (ns':List Int),ns.length=ks.length→encK ks ns++encK ks' ns'=encK (ks++ks') (ns++ns')
 | [],[],_,_,_=>rfl
 | k::ks,n::ns,_,_,h=>by simp [encK,yG (ks:=ks) (ns:=ns) _ _ (by simpa using h)]
def YS (ks:List IntKind) (ns:List Int):Prop:=∀ (j:Nat) (k:IntKind) (n:Int),ks[j]?=some k→ns[j]?=some n→(Lit.int k n).wf=true
theorem JD {ks ks':List IntKind} {ns ns':List Int} (hl:ns.length=ks.length) (h:YS ks ns) (h':YS ks' ns'):YS (ks++ks') (ns++ns'):=by
 intro j k n h1 h2
 by_cases hj:j < ks.length
 ·rw [List.getElem?_append_left hj] at h1
  rw [List.getElem?_append_left (by omega)] at h2
  exact h j k n h1 h2
 ·rw [List.getElem?_append_right (by omega)] at h1
  rw [List.getElem?_append_right (by omega)] at h2
  rw [hl] at h2
  exact h' _ k n h1 h2
section
variable {H:Type} (enc:TypeId×Value→H) (P:Program)
def Ai (T:TypeId) (ks:List IntKind):Prop:=∀ (w:World) (base:Nat) (spare:Nat→Bool) (held:Bool) (n:Nat) (cs:List Value) (x:DataW H×List MemPlace),
 DataW.trod enc P w base spare held n T cs=some x→∃ ns:List Int,ns.length=ks.length∧cs=encK ks ns∧YS ks ns
variable {enc P}
theorem Aj {T:TypeId} {k:IntKind} (h:P.underlying T=some (.int k)):Ai enc P T [k]:=by
 intro w base spare held n cs x hx
 obtain⟨m,e,_,hw⟩:=DataW.trod_int h hx
 refine⟨[m],rfl,by rw [e];rfl,fun j k' n' h1 h2=>?_⟩
 cases j with
 | zero=>simp at h1 h2;subst h1;subst h2;exact hw
 | succ j=>simp at h1
def Xe:Nat→List (Field×List IntKind)→Prop
 | _,[]=>True
 | o,(f,ks)::r=>f.offset=o∧P.cellsOf f.type=ks.length∧Xe (o+ks.length) r
theorem yH:∀ (fk:List (Field×List IntKind)) (o:Nat),Xe (P:=P) o fk→(∀ p∈fk,Ai enc P p.1.type p.2)→∀ (w:World) (base:Nat) (spare:Nat→Bool) (held:Bool) (n:Nat) (cs:List Value) (xs:List (DataW H×List MemPlace)),
  (∀ (j:Nat) (f:Field),(fk.map (·.1))[j]?=some f→DataW.trod enc P w base spare held n f.type ((cs.drop f.offset).take (P.cellsOf f.type))=xs[j]?)→xs.length=fk.length→cs.length=o+((fk.map (·.2)).flatten).length →
  ∃ ns:List Int,ns.length=((fk.map (·.2)).flatten).length∧cs.drop o=encK ((fk.map (·.2)).flatten) ns∧YS ((fk.map (·.2)).flatten) ns
 | [],o,_,_,_,_,_,_,_,cs,_,_,_,hl=>⟨[],rfl,by
   have:cs.drop o=[]:=List.drop_eq_nil_of_le (by simpa using Nat.le_of_eq hl)
   simp [this,encK],fun j k n h1=>by simp at h1⟩
 | (f,ks)::r,o,ho,hf,w,base,spare,held,n,cs,xs,hx,hxl,hl=>by
  obtain⟨o1,o2,o3⟩:=ho
  cases xs with
  | nil=>simp at hxl
  | cons x xs=>
   have h0:=hx 0 f (by simp)
   rw [o1,o2] at h0
   simp only [List.getElem?_cons_zero] at h0
   obtain⟨ns,n1,n2,n3⟩:=hf (f,ks) (by simp) w base spare held n _ x h0
   obtain⟨ms,m1,m2,m3⟩:=yH r (o+ks.length) o3 (fun p hp=>hf p (List.mem_cons_of_mem _ hp)) w base spare held n cs xs (fun j g hg=>hx (j+1) g (by simpa using hg)) (by simpa using hxl)
    (by rw [hl];simp only [List.map_cons,List.flatten_cons,List.length_append];omega)
   refine⟨ns++ms,by simp only [List.map_cons,List.flatten_cons,List.length_append];rw [n1,m1],?_,by simpa using JD n1 n3 m3⟩
   have:cs.drop o=(cs.drop o).take ks.length++(cs.drop o).drop ks.length:=(List.take_append_drop _ _).symm
   rw [this,List.drop_drop,m2,n2,yG _ _ n1]
   simp
theorem si {T:TypeId} {fs:Array Field} (h:P.underlying T=some (.struct fs)) (fk:List (Field×List IntKind)) (TI:fk.map (·.1)=fs.toList) (ho:Xe (P:=P) 0 fk) (hf:∀ p∈fk,Ai enc P p.1.type p.2)
  (hc:P.cellsOf T=((fk.map (·.2)).flatten).length):Ai enc P T ((fk.map (·.2)).flatten):=by
 intro w base spare held n cs x hx
 obtain⟨xs,n',_,_,hl,hlen,hfl⟩:=DataW.trod_struct h hx
 have:=yH fk 0 ho hf w base spare held n' cs xs (fun j f hj=>hfl j f (by rw [TI] at hj;simpa using hj)) (by rw [hlen,← Array.length_toList,← TI,List.length_map]) (by rw [hl,hc];omega)
 simpa using this
structure aal (ks:List IntKind) (w:World) (a:Option Addr) (len cap:Nat) (ps:List (List Int)):Prop where
 length:ps.length=len
 room:len≤cap
 most:cap≤maxLen
 shape:∀ x∈ps,x.length=ks.length∧YS ks x
 at':len=0∨∃ b o,a=some ⟨b,o,none⟩∧b < w.heap.size∧∀ i x,ps[i]?=some x→∀ j v,(encK ks x)[j]?=some v→w.cell? ⟨b,o+(i * ks.length+j),none⟩=some v
end
theorem PG {H:Type} {enc:TypeId×Value→H}:Ai enc Tryz.prog 65 [.u32,.u32,.i64,.i64,.i64]:=by
 refine si Tryz.underlying65 [(_,[.u32]),(_,[.u32]),(_,[.i64]),(_,[.i64]),(_,[.i64])] rfl ⟨rfl,by kernel_rfl,rfl,by kernel_rfl,rfl,by kernel_rfl,rfl,by kernel_rfl,rfl,by kernel_rfl,trivial⟩ ?_ (by kernel_rfl)
 intro p hp
 simp only [List.mem_cons,List.not_mem_nil,or_false] at hp
 rcases hp with rfl | rfl | rfl | rfl | rfl
 all_goals exact Aj (by kernel_rfl)
theorem Ub {H:Type} {enc:TypeId×Value→H}:Ai enc Tryz.prog 67 [.u32,.u32,.i64,.i64,.i64,.i64,.i64,.i64]:=by
 refine si Tryz.underlying67 [(_,[.u32,.u32,.i64,.i64,.i64]),(_,[.i64]),(_,[.i64]),(_,[.i64])] rfl ⟨rfl,by kernel_rfl,rfl,by kernel_rfl,rfl,by kernel_rfl,rfl,by kernel_rfl,trivial⟩ ?_ (by kernel_rfl)
 intro p hp
 simp only [List.mem_cons,List.not_mem_nil,or_false] at hp
 rcases hp with rfl | rfl | rfl | rfl
 ·exact PG
 all_goals exact Aj (by kernel_rfl)
theorem Uc {H:Type} {enc:TypeId×Value→H}:Ai enc Tryz.prog 160 [.i64,.u32,.i64]:=by
 refine si Tryz.underlying160 [(_,[.i64]),(_,[.u32]),(_,[.i64])] rfl ⟨rfl,by kernel_rfl,rfl,by kernel_rfl,rfl,by kernel_rfl,trivial⟩ ?_ (by kernel_rfl)
 intro p hp
 simp only [List.mem_cons,List.not_mem_nil,or_false] at hp
 rcases hp with rfl | rfl | rfl
 all_goals exact Aj (by kernel_rfl)
theorem sj {n:Int} (h:(Lit.int .i64 n).wf=true):-9223372036854775808≤n∧n < 9223372036854775808:=by
 simp [Lit.wf,IntKind.min,IntKind.max,IntKind.signed,IntKind.bits] at h
 omega
theorem Ak {n:Int} (h:(Lit.int .u32 n).wf=true):0≤n∧n < 4294967296:=by
 simp [Lit.wf,IntKind.min,IntKind.max,IntKind.signed,IntKind.bits] at h
 omega
abbrev lF (b:Bk):List Value:=[.int .i64 b.id,.int .u32 b.addr,.int .i64 b.weight]
def oD (l:List Bk):List Value:=(l.map lF).flatten
theorem qV (l:List Bk):(oD l).length=l.length * 3:=by
 induction l with
 | nil=>rfl
 | cons b l ih=>
  have e:oD (b::l)=lF b++oD l:=by simp [oD]
  have e1:(lF b).length=3:=rfl
  have e2:(b::l).length=l.length+1:=rfl
  rw [e,List.length_append,ih,e1,e2]
  omega
theorem JE:∀ {l:List Bk} {i:Nat} {b:Bk},l[i]?=some b→(oD l)[i * 3]?=some (.int .i64 b.id)∧(oD l)[i * 3+1]?=some (.int .u32 b.addr)∧(oD l)[i * 3+2]?=some (.int .i64 b.weight)
 | [],_,_,h=>by simp at h
 | x::l,0,b,h=>by
  simp at h;subst h
  simp [oD,lF]
 | x::l,i+1,b,h=>by
  have e:oD (x::l)=lF x++oD l:=by simp [oD]
  obtain⟨h0,h1,h2⟩:=JE (l:=l) (i:=i) (by simpa using h)
  have hl:(lF x).length=3:=rfl
  rw [e]
  refine⟨?_,?_,?_⟩
  ·rw [List.getElem?_append_right (by rw [hl];omega),hl,show (i+1) * 3 - 3=i * 3 by omega];exact h0
  ·rw [List.getElem?_append_right (by rw [hl];omega),hl,show (i+1) * 3+1 - 3=i * 3+1 by omega];exact h1
  ·rw [List.getElem?_append_right (by rw [hl];omega),hl,show (i+1) * 3+2 - 3=i * 3+2 by omega];exact h2
theorem Ud (l:List Bk):∀ u∈oD l,u.oneCell'=true:=by
 intro u hu
 simp only [oD,List.mem_flatten,List.mem_map] at hu
 obtain⟨x,⟨b,_,rfl⟩,hx⟩:=hu
 simp at hx
 rcases hx with rfl | rfl | rfl <;> rfl
theorem PH (l:List Bk) (b:Bk):oD (l++[b])=oD l++lF b:=by simp [oD]
theorem Ue {l:List Bk} {t:Nat} {u:Value} (h:(oD l)[t]?=some u):∃ b,l[t / 3]?=some b∧(lF b)[t % 3]?=some u:=by
 have hlt:t < l.length * 3:=by rw [← qV];exact (List.getElem?_eq_some_iff.1 h).1
 obtain⟨b,hb⟩:∃ b,l[t / 3]?=some b:=⟨l[t / 3]'(by omega),List.getElem?_eq_getElem _⟩
 refine⟨b,hb,?_⟩
 obtain⟨h0,h1,h2⟩:=JE hb
 have hd:=Nat.div_add_mod t 3
 have hm:=Nat.mod_lt t (show 0 < 3 by decide)
 rcases (by omega:t % 3=0∨t % 3=1∨t % 3=2) with e | e | e
 ·rw [show t / 3 * 3=t by omega,h] at h0;rw [e];exact h0.symm
 ·rw [show t / 3 * 3+1=t by omega,h] at h1;rw [e];exact h1.symm
 ·rw [show t / 3 * 3+2=t by omega,h] at h2;rw [e];exact h2.symm
structure JF (w:World) (v:Value) (l:List Bk):Prop where
 ex:∃ a c,v=.slice a l.length c∧Src w a l.length 3 (oD l)∧l.length≤c∧c≤maxLen∧(a=none→c=0)
 wf:∀ b∈l,WY b
abbrev aF (r:Rec) (v:Value):List Value:=[.int .i64 r.kind,.int .u32 r.fl.t.src,.int .u32 r.fl.t.dst,.int .i64 r.fl.t.proto,.int .i64 r.fl.t.ag,.int .i64 r.fl.t.ah,.int .i64 r.fl.bk,.int .i64 r.fl.gen,.int .i64 r.fl.seen,.int .i64 r.gen,v,.int .i64 r.bk,.int .i64 r.till,.int .i64 r.count]
structure PI (r:Rec):Prop where
 rr:mQ r
 bb:∀ b∈r.ax,WY b
def LV (w:World) (cs:List Value) (r:Rec):Prop:=∃ v,cs=aF r v∧JF w v r.ax∧PI r
structure PK {α:Type} (k:Nat) (Q:World→List Value→α→Prop) (w:World) (v:Value) (L:List α):Prop where
 ex:∃ a c,v=.slice a L.length c∧L.length≤c∧c≤maxLen∧(a=none→c=0)∧∀ i x,L[i]?=some x→∃ g o cs,a=some ⟨g,o,none⟩∧Q w cs x∧∀ j u,cs[j]?=some u→w.cell? ⟨g,o+i * k+j,none⟩=some u
abbrev Ep:=PK 14 LV
structure oL where
 act:Int
 n:Int
 r:Rec
 rows:List Rec
 picks:List UInt8
def zz (w:World) (cs:List Value) (c:oL):Prop:=∃ v vr vp,cs=.int .i64 c.act::.int .i64 c.n::(aF c.r v++[vr,vp])∧JF w v c.r.ax∧PI c.r∧Ep w vr c.rows∧AB w vp c.picks
abbrev nM:=PK 18 zz
section
variable {H:Type} {enc:TypeId×Value→H} {P:Program} {w:World} {base:Nat} {spare:Nat→Bool} {held:Bool}
theorem JG {α:Type} {Q:World→List Value→α→Prop} {T E:TypeId} {k:Nat} (ht:P.underlying T=some (.slice E)) (hC:P.cellsOf E=k) (hpos:0 < k)
  (one:∀ n cs y,DataW.trod enc P w base spare held n E cs=some y→cs.length=k→∃ x,Q w cs x) {fuel:Nat} {cs:List Value} {y:DataW H×List MemPlace}
  (hf:DataW.trod enc P w base spare held fuel T cs=some y):∃ v L,cs=[v]∧PK k Q w v L:=by
 rcases open_slice ht hf with ⟨hcs,_⟩|⟨x,l,c,m,n,D,Pl,hcs,_,hl,hm,hmm,_,hi⟩
 ·exact⟨_,[],hcs,none,0,rfl,Nat.le_refl _,Nat.zero_le _,fun _=>rfl,by simp⟩
 ·have hle:l≤m:=by rw [hmm];split <;> omega
  have one':∀ i,i < l→∃ z:α,∃ cs',Q w cs' z∧cs'.length=k∧∀ j v,cs'[j]?=some v→w.cell? (x.add (i * k+j))=some v:=by
   intro i hil
   obtain⟨cs',hc,ht'⟩:=hi i (by omega)
   obtain⟨_,hcl,hat⟩:=World.cells?_some hc
   have hcl':cs'.length=k:=by rw [← hC];exact hcl
   obtain⟨z,hz⟩:=one _ _ _ ht' hcl'
   refine⟨z,cs',hz,hcl',fun j v hv=>?_⟩
   have hj:j < P.cellsOf E:=by
    have:=(List.getElem?_eq_some_iff.1 hv).1
    omega
   rw [← Go.Deep.add_add,← hC,hat j hj];exact hv
  obtain⟨L,hl1,hp⟩:=yF l one'
  refine⟨_,L,hcs,some x,c,by rw [hl1],by omega,hm,(fun e=>by cases e),fun i z hz=>?_⟩
  obtain⟨hi2,rfl⟩:=List.getElem?_eq_some_iff.1 hz
  have Zn:0 < L.length:=by omega
  obtain⟨cs0,q1,q2,q3⟩:=hp 0 Zn
  have c0:=q3 0 _ (List.getElem?_eq_getElem (by omega))
  have e:=CL (a:=x) (by simpa using c0)
  obtain⟨cs',q4,_,q5⟩:=hp i hi2
  refine⟨x.block,x.off,cs',by rw [← e],q4,fun j u hu=>?_⟩
  have:=q5 j u hu
  rw [e,add_plain] at this
  rw [Nat.add_assoc];exact this
theorem Uf {fuel:Nat} {cs:List Value} {y:DataW H×List MemPlace} (h:DataW.trod enc Tryz.prog w base spare held fuel 58 cs=some y):∃ v l,cs=[v]∧JF w v l:=by
 obtain⟨v,L,e,hv⟩:=JG (k:=3) (Q:=fun _ cs (b:Bk)=>cs=lF b∧WY b) Tryz.underlying58 (by kernel_rfl) (by decide) (fun n cs y hy hl=>by
  obtain⟨ns,n1,n2,n3⟩:=Uc w base spare held n cs y hy
  match ns,n1,n2,n3 with
  | [a,b,c],_,e,hw=>
   obtain⟨a0,a1⟩:=sj (hw 0 _ _ rfl rfl)
   obtain⟨b0,b1⟩:=Ak (hw 1 _ _ rfl rfl)
   obtain⟨c0,c1⟩:=sj (hw 2 _ _ rfl rfl)
   exact⟨⟨a,b,c⟩,by rw [e];rfl,⟨a0,a1,b0,b1,c0,c1⟩⟩) h
 obtain⟨a,c,e1,h1,h2,hn,h3⟩:=hv.ex
 refine⟨v,L,e,⟨⟨a,c,e1,⟨qV L,fun h0=>?_⟩,h1,h2,hn⟩,fun b hb=>?_⟩⟩
 ·obtain⟨g,o,cs0,e0,_,_⟩:=h3 0 _ (List.getElem?_eq_getElem h0)
  refine⟨⟨g,o,none⟩,e0,fun j u hu=>?_⟩
  obtain⟨b,hb,hbu⟩:=Ue hu
  obtain⟨g',o',cs',e',⟨ec,_⟩,hc⟩:=h3 _ _ hb
  rw [e0] at e';cases e'
  subst ec
  have:=hc _ _ hbu
  rw [lv,show o+j=o+j / 3 * 3+j % 3 by omega]
  exact this
 ·obtain⟨i,hi,rfl⟩:=List.mem_iff_getElem.1 hb
  obtain⟨_,_,_,_,⟨_,hw⟩,_⟩:=h3 i _ (List.getElem?_eq_getElem hi)
  exact hw
theorem OZ {fs:Array Field} {n':Nat} {cs:List Value} {xs:List (DataW H×List MemPlace)} (hfl:∀ (i:Nat) (f:Field),fs[i]?=some f→DataW.trod enc P w base spare held n' f.type ((cs.drop f.offset).take (P.cellsOf f.type))=xs[i]?) {j o k T:Nat} {f:Field} (hj:fs[j]?=some f) (ht:f.type=T) (ho:f.offset=o) (hk:P.cellsOf T=k) (hx:j < xs.length) :
  ∃ z,DataW.trod enc P w base spare held n' T ((cs.drop o).take k)=some z:=by
 subst ht ho hk
 exact⟨xs[j],by rw [hfl j f hj];exact List.getElem?_eq_getElem hx⟩
theorem Xf {cs:List Value} (h:cs.length=14):∃ c0 c1 c2 c3 c4 c5 c6 c7 c8 c9 c10 c11 c12 c13,cs=[c0,c1,c2,c3,c4,c5,c6,c7,c8,c9,c10,c11,c12,c13]:=by
 match cs,h with
 | [c0,c1,c2,c3,c4,c5,c6,c7,c8,c9,c10,c11,c12,c13],_=>exact⟨c0,c1,c2,c3,c4,c5,c6,c7,c8,c9,c10,c11,c12,c13,rfl⟩
theorem Xg {cs:List Value} (h:cs.length=18):∃ c0 c1 c2 c3 c4 c5 c6 c7 c8 c9 c10 c11 c12 c13 c14 c15 c16 c17,cs=[c0,c1,c2,c3,c4,c5,c6,c7,c8,c9,c10,c11,c12,c13,c14,c15,c16,c17]:=by
 match cs,h with
 | [c0,c1,c2,c3,c4,c5,c6,c7,c8,c9,c10,c11,c12,c13,c14,c15,c16,c17],_=>exact⟨c0,c1,c2,c3,c4,c5,c6,c7,c8,c9,c10,c11,c12,c13,c14,c15,c16,c17,rfl⟩
theorem PL {n:Nat} {cs:List Value} {y:DataW H×List MemPlace} (h:DataW.trod enc Tryz.prog w base spare held n 69 cs=some y) (hl:cs.length=14):∃ r,LV w cs r:=by
 obtain⟨xs,n',_,_,hlc,hlen,hfl⟩:=DataW.trod_struct Tryz.underlying69 h
 have hxl:xs.length=7:=by rw [hlen];rfl
 obtain⟨z0,t0⟩:=OZ hfl (j:=0) rfl rfl rfl (show Tryz.prog.cellsOf 3=1 by kernel_rfl) (by omega)
 obtain⟨z1,t1⟩:=OZ hfl (j:=1) rfl rfl rfl (show Tryz.prog.cellsOf 67=8 by kernel_rfl) (by omega)
 obtain⟨z2,t2⟩:=OZ hfl (j:=2) rfl rfl rfl (show Tryz.prog.cellsOf 3=1 by kernel_rfl) (by omega)
 obtain⟨z3,t3⟩:=OZ hfl (j:=3) rfl rfl rfl (show Tryz.prog.cellsOf 58=1 by kernel_rfl) (by omega)
 obtain⟨z4,t4⟩:=OZ hfl (j:=4) rfl rfl rfl (show Tryz.prog.cellsOf 3=1 by kernel_rfl) (by omega)
 obtain⟨z5,t5⟩:=OZ hfl (j:=5) rfl rfl rfl (show Tryz.prog.cellsOf 2=1 by kernel_rfl) (by omega)
 obtain⟨z6,t6⟩:=OZ hfl (j:=6) rfl rfl rfl (show Tryz.prog.cellsOf 3=1 by kernel_rfl) (by omega)
 obtain⟨k,e0,-,-⟩:=DataW.trod_int (k:=.i64) (by kernel_rfl) t0
 obtain⟨ns,n1,n2,n3⟩:=Ub w base spare held n' _ _ t1
 obtain⟨g,e2,-,-⟩:=DataW.trod_int (k:=.i64) (by kernel_rfl) t2
 obtain⟨v,l,e3,hb⟩:=Uf t3
 obtain⟨b,e4,-,-⟩:=DataW.trod_int (k:=.i64) (by kernel_rfl) t4
 obtain⟨u,e5,-,-⟩:=DataW.trod_int (k:=.i64) (by kernel_rfl) t5
 obtain⟨c,e6,-,-⟩:=DataW.trod_int (k:=.i64) (by kernel_rfl) t6
 obtain⟨c0,c1,c2,c3,c4,c5,c6,c7,c8,c9,c10,c11,c12,c13,rfl⟩:=Xf hl
 match ns,n1,n2,n3 with
 | [s,d,p,sp,dp,bk,gn,sn],_,e1,hw=>
  change [c0]=_ at e0
  change [c1,c2,c3,c4,c5,c6,c7,c8]=_ at e1
  change [c9]=_ at e2
  change [c10]=_ at e3
  change [c11]=_ at e4
  change [c12]=_ at e5
  change [c13]=_ at e6
  simp only [encK,List.cons.injEq,and_true] at e0 e1 e2 e3 e4 e5 e6
  obtain⟨s0,s1⟩:=Ak (hw 0 _ _ rfl rfl)
  obtain⟨d0,d1⟩:=Ak (hw 1 _ _ rfl rfl)
  obtain⟨p0,p1⟩:=sj (hw 2 _ _ rfl rfl)
  obtain⟨Zi,sp1⟩:=sj (hw 3 _ _ rfl rfl)
  obtain⟨Zj,dp1⟩:=sj (hw 4 _ _ rfl rfl)
  obtain⟨q1,q2,q3,q4,q5,q6,q7,q8⟩:=e1
  subst e0 e2 e3 e4 e5 e6 q1 q2 q3 q4 q5 q6 q7 q8
  exact⟨⟨k,⟨⟨s,d,p,sp,dp⟩,bk,gn,sn⟩,g,l,b,u,c⟩,_,rfl,hb,⟨⟨⟨s0,s1,d0,d1,p0,by show p≤_;omega,Zi,by show sp≤_;omega,Zj,by show dp≤_;omega⟩,fun b hb'=>⟨(hb.wf b hb').a0,(hb.wf b hb').a1⟩⟩,hb.wf⟩⟩
theorem PM {fuel:Nat} {cs:List Value} {y:DataW H×List MemPlace} (h:DataW.trod enc Tryz.prog w base spare held fuel 70 cs=some y):∃ v L,cs=[v]∧Ep w v L:=
 JG (k:=14) (Q:=LV) Tryz.underlying70 (by kernel_rfl) (by decide) (fun n cs y hy hl=>PL hy hl) h
theorem Xh {n:Nat} {cs:List Value} {y:DataW H×List MemPlace} (h:DataW.trod enc Tryz.prog w base spare held n 72 cs=some y) (hl:cs.length=18):∃ c,zz w cs c:=by
 obtain⟨xs,n',_,_,hlc,hlen,hfl⟩:=DataW.trod_struct Tryz.underlying72 h
 have hxl:xs.length=5:=by rw [hlen];rfl
 obtain⟨z0,t0⟩:=OZ hfl (j:=0) rfl rfl rfl (show Tryz.prog.cellsOf 3=1 by kernel_rfl) (by omega)
 obtain⟨z1,t1⟩:=OZ hfl (j:=1) rfl rfl rfl (show Tryz.prog.cellsOf 3=1 by kernel_rfl) (by omega)
 obtain⟨z2,t2⟩:=OZ hfl (j:=2) rfl rfl rfl (show Tryz.prog.cellsOf 69=14 by kernel_rfl) (by omega)
 obtain⟨z3,t3⟩:=OZ hfl (j:=3) rfl rfl rfl (show Tryz.prog.cellsOf 70=1 by kernel_rfl) (by omega)
 obtain⟨z4,t4⟩:=OZ hfl (j:=4) rfl rfl rfl (show Tryz.prog.cellsOf 23=1 by kernel_rfl) (by omega)
 obtain⟨k,e0,-,-⟩:=DataW.trod_int (k:=.i64) (by kernel_rfl) t0
 obtain⟨g,e1,-,-⟩:=DataW.trod_int (k:=.i64) (by kernel_rfl) t1
 obtain⟨r,v,er,hb,hw⟩:=PL t2 (by rw [List.length_take,List.length_drop,hl];rfl)
 obtain⟨vr,L,e3,hL⟩:=PM t3
 obtain⟨vp,bs,e4,hp⟩:=Xc Tryz.underlying23 Tryz.underlying5 (by kernel_rfl) t4
 obtain⟨c0,c1,c2,c3,c4,c5,c6,c7,c8,c9,c10,c11,c12,c13,c14,c15,c16,c17,rfl⟩:=Xg hl
 change [c0]=_ at e0
 change [c1]=_ at e1
 change [c2,c3,c4,c5,c6,c7,c8,c9,c10,c11,c12,c13,c14,c15]=_ at er
 change [c16]=_ at e3
 change [c17]=_ at e4
 simp only [List.cons.injEq,and_true] at e0 e1 er e3 e4
 obtain⟨q1,q2,q3,q4,q5,q6,q7,q8,q9,q10,q11,q12,q13,q14⟩:=er
 subst e0 e1 e3 e4 q1 q2 q3 q4 q5 q6 q7 q8 q9 q10 q11 q12 q13 q14
 exact⟨⟨k,g,r,L,bs⟩,_,_,_,rfl,hb,hw,hL,hp⟩
theorem vX {a:Option Addr} {len cap:Nat} {d:DataW H} {p:List MemPlace} (h:DataW.Trod enc Tryz.prog w base spare held 53 (.slice a len cap) d p):∃ L,nM w (.slice a len cap) L:=by
 obtain⟨fuel,hf⟩:=h
 obtain⟨v,L,e,hL⟩:=JG (k:=18) (Q:=zz) Tryz.underlying53 (by kernel_rfl) (by decide) (fun n cs y hy hl=>Xh hy hl) hf
 simp [Value.cells] at e
 subst e
 exact⟨L,hL⟩
end
section
variable {w0 w:World} {R:List az}
end
theorem nI (w:World) (A B C:Obj):(((w.alloc A).alloc B).alloc C).heap[w.heap.size+1]?=some B:=by
 rw [heap_alloc_old _ _ (by rw [World.size_alloc,World.size_alloc];omega),heap_alloc2_new]
def setL:Nat→List Value→Array Value→Array Value
 | _,[],C=>C
 | o,x::xs,C=>setL (o+1) xs (C.setIfInBounds o x)
theorem sw:∀ (xs:List Value) (o:Nat) (C:Array Value),o+xs.length≤C.size→(setL o xs C).toList=C.toList.take o++(xs++C.toList.drop (o+xs.length))
 | [],o,C,h=>by simp [setL]
 | x::xs,o,C,h=>by
  simp only [List.length_cons] at h
  have h1:=sw xs (o+1) (C.setIfInBounds o x) (by simp;omega)
  show (setL (o+1) xs (C.setIfInBounds o x)).toList=_
  rw [h1,Array.toList_setIfInBounds]
  have e1:(C.toList.set o x).take (o+1)=C.toList.take o++[x]:=by
   rw [List.take_add_one,List.take_set_of_le (Nat.le_refl _),List.getElem?_set_self (by simp;omega)];rfl
  have e2:(C.toList.set o x).drop (o+1+xs.length)=C.toList.drop (o+1+xs.length):=List.drop_set_of_lt (by omega)
  rw [e1,e2,List.append_assoc]
  simp only [List.singleton_append,List.length_cons,List.cons_append,List.nil_append]
  rw [show o+1+xs.length=o+(xs.length+1) by omega]
theorem Ng {xs:List Value} {C:Array Value} (h:xs.length=C.size):setL 0 xs C=xs.toArray:=by
 apply Array.toList_inj.1
 rw [sw xs 0 C (by omega)]
 simp [h]
theorem jd {xs ys:List Value} {o:Nat} {C:Array Value} (h:o+xs.length≤C.size) (hy:C.toList.take o++(xs++C.toList.drop (o+xs.length))=ys):setL o xs C=ys.toArray:=by
 apply Array.toList_inj.1
 rw [sw xs o C h,hy]
theorem In.ku {F0:List Nat} {w0:World} {b:Nat} {T:TypeId}:∀ (xs:List Value) (o:Nat) {w:World} {R:List az} {C:Array Value} (i:Nat),In F0 w0 w R→R[i]?=some (Cells b C T)→In F0 w0 (w.setCells b o xs) (R.set i (Cells b (setL o xs C) T))
 | [],o,w,R,C,i,h,hA=>by
  have:R.set i (Cells b C T)=R:=pV hA
  show In F0 w0 w (R.set i (Cells b C T))
  rw [this];exact h
 | x::xs,o,w,R,C,i,h,hA=>by
  have h1:=h.put i hA o x
  have hi:i < R.length:=(List.getElem?_eq_some_iff.1 hA).1
  have h2:=In.ku (b:=b) (T:=T) xs (o+1) (C:=C.setIfInBounds o x) i h1 (by simp [hi])
  rw [List.set_set] at h2
  exact h2
theorem In.gp {F0:List Nat} {w0 w:World} {R:List az} {b:Nat} {T:TypeId} {C:Array Value} (h:In F0 w0 w R) (i:Nat) (hA:R[i]?=some (Cells b C T)) {xs:List Value} (hl:xs.length=C.size):In F0 w0 (w.setCells b 0 xs) (R.set i (Cells b xs.toArray T)):=by
 have h1:=In.ku xs 0 i h hA
 rwa [Ng hl] at h1
theorem fG {w:World} {b:Nat} {C:Array Value} {T:TypeId} (h:w.heap[b]?=some (.cells C T (0,0))):w.there b 0 C.size:=fun j hj=>by
 rw [Nat.zero_add]
 refine⟨?_,aL h⟩
 rw [cell_of h (Array.getElem?_eq_getElem hj)];rfl
def GQ:Array Value:=#[.int .i64 0,.int .i64 0,.int .i64 0,.int .u32 0,.int .u32 0,.int .i64 0,.int .i64 0,.int .i64 0,.int .i64 0,.int .i64 0,.int .i64 0,.int .i64 0,.slice none 0 0,.int .i64 0,.int .i64 0,.int .i64 0,.slice none 0 0,.slice none 0 0]
def abb:Array Value:=#[.int .i64 0,.int .u32 0,.int .u32 0,.int .i64 0,.int .i64 0,.int .i64 0,.int .i64 0,.int .i64 0,.int .i64 0,.int .i64 0,.slice none 0 0,.int .i64 0,.int .i64 0,.int .i64 0]
def rT (c:oL) (ab:Option Addr) (cb:Nat) (ar:Option Addr) (cr:Nat) (ap:Option Addr) (cp:Nat):List Value:=.int .i64 c.act::.int .i64 c.n::(aF c.r (.slice ab c.r.ax.length cb)++[.slice ar c.rows.length cr,.slice ap c.picks.length cp])
def Nh (r:Rec) (ab:Option Addr) (cb:Nat):List Value:=aF r (.slice ab r.ax.length cb)
section
variable {c:oL} {ab ar ap:Option Addr} {cb cr cp:Nat} {r:Rec}
theorem PN:(rT c ab cb ar cr ap cp).toArray[12]?=some (.slice ab c.r.ax.length cb):=rfl
theorem Ni:(rT c ab cb ar cr ap cp).toArray.all (·.oneCell')=true:=by simp [rT,aF,Value.oneCell']
theorem Nj {j:Nat} {u:Value} (h:(Nh c.r ab cb)[j]?=some u):(rT c ab cb ar cr ap cp).toArray[2+j]?=some u:=by
 have hj:j < 14:=(List.getElem?_eq_some_iff.1 h).1
 rw [List.getElem?_toArray]
 show (.int .i64 c.act::.int .i64 c.n::(Nh c.r ab cb++_):List Value)[2+j]?=some u
 rw [show 2+j=j+1+1 by omega,List.getElem?_cons_succ,List.getElem?_cons_succ,List.getElem?_append_left (by show j < 14;exact hj)]
 exact h
end
theorem Ug {W:World} {cs:List Value} {c:oL} (h:zz W cs c):∃ ab cb ar cr ap cp,cs=rT c ab cb ar cr ap cp∧Src W ab c.r.ax.length 3 (oD c.r.ax)∧(ab=none→cb=0)∧c.r.ax.length≤maxLen∧PI c.r∧Ep W (.slice ar c.rows.length cr) c.rows∧AB W (.slice ap c.picks.length cp) c.picks∧c.rows.length≤maxLen:=by
 obtain⟨v,vr,vp,rfl,h1,h2,h3,h4⟩:=h
 obtain⟨ab,cb,rfl,s1,s2,s3,s4⟩:=h1.ex
 obtain⟨ar,cr,rfl,t1,t2,t3,t4⟩:=h3.ex
 obtain⟨ap,cp,rfl,u1,u2,u3⟩:=h4.ex
 exact⟨ab,cb,ar,cr,ap,cp,rfl,s1,s4,Nat.le_trans s2 s3,h2,h3,h4,Nat.le_trans t1 t2⟩
theorem Xi {W:World} {cs:List Value} {r:Rec} (h:LV W cs r):∃ ab cb,cs=Nh r ab cb∧Src W ab r.ax.length 3 (oD r.ax)∧(ab=none→cb=0)∧r.ax.length≤maxLen∧PI r:=by
 obtain⟨v,rfl,h1,h2⟩:=h
 obtain⟨ab,cb,rfl,s1,s2,s3,s4⟩:=h1.ex
 exact⟨ab,cb,rfl,s1,s4,Nat.le_trans s2 s3,h2⟩
theorem Nk {w0 w:World} {R:List az} (h:Own w0 w R) {b o:Nat} {cs:List Value} (hc:∀ j u,cs[j]?=some u→w0.cell? ⟨b,o+j,none⟩=some u):w.rangeAt b o cs:=fun j u hu=>GN h (hc j u hu)
section
variable {F0:List Nat} {w0 w:World} {R:List az}
theorem PO (h:In F0 w0 w R) (c:oL) (ab:Option Addr) (cb:Nat) (ar:Option Addr) (cr:Nat) (ap:Option Addr) (cp:Nat):(w.alloc (.cells GQ 72)).there w.heap.size 0 18∧In F0 w0 ((w.alloc (.cells GQ 72)).setCells w.heap.size 0 (rT c ab cb ar cr ap cp).toArray.toList) (Cells w.heap.size (rT c ab cb ar cr ap cp).toArray 72::R):=by
 have g1:=h.cells GQ 72
 exact⟨fG (g1.block 0 rfl),g1.gp 0 rfl (xs:=rT c ab cb ar cr ap cp) (b:=w.heap.size) (C:=GQ) (T:=72) rfl⟩
theorem JH {b:Nat} {c:oL} {ab ar ap:Option Addr} {cb cr cp:Nat} {W:World} (h:W.heap[b]?=some (.cells (rT c ab cb ar cr ap cp).toArray 72 (0,0))):W.rangeAt b 2 (Nh c.r ab cb):=fun j u hu=>cell_of h (Nj hu)
end
structure PR (c:oL):Prop where
 n:c.rows.length≤30
 b:c.r.ax.length≤40
 rows:∀ r∈c.rows,r.ax.length≤40
structure Xj (cs:List oL):Prop where
 len:cs.length≤60
 each:∀ c∈cs,PR c
section
variable {w0 w:World} {R:List az}
def aaW (cs:List oL) (w0:World) (R:List az) (i:Value) (wr:World):Prop:=
 ∃ k:Nat,k≤cs.length∧k≤60∧i=.int .i64 k∧(∀ c∈cs.take k,PR c)∧In [] w0 wr R
def aar (rs:List Rec) (w0:World) (R:List az) (i:Value) (wr:World):Prop:=
 ∃ k:Nat,k≤rs.length∧i=.int .i64 k∧(∀ r∈rs.take k,r.ax.length≤40)∧In [] w0 wr R
def YT (cs:List oL) (w0:World) (R:List az) (e:Ending) (w':World):Prop:=∃ b:Bool,e=.returned (.bool b)∧(b=true→Xj cs)∧In [] w0 w' R
end
end Go.Proofs.YtogclkhpbjfadaaGreat
