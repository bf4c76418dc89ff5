/- Rows.StoreRefusesSaid -/
import Derived.Test.YtpmmiljakbojaaaGreatRF4
import Derived.Test.YtpmmiljakbojaaaGreatRF3
import Derived.Lib.SmallJoins
import Derived.Test.YtpmmiljakbojaaaGreatRF2
import Derived.Deep.MidRow
import Derived.Laws.Rows
import Derived.LoopTactic
import Derived.Deep.DeepCutAuto
namespace Go.Proofs.YtpmmiljakbojaaaGreat
open Go.RowKit Go.ChangeShapes Go.WideShapes Go.Deep
open Go.RowKit
set_option linter.unusedVariables false
set_option maxHeartbeats 64000000
set_option maxRecDepth 100000
structure AB (w:World) (v:Value) (bs:List UInt8):Prop where
 ex:∃ a c,v=.slice a bs.length c∧Src w a bs.length 1 (u8s bs)∧bs.length≤c∧c≤maxLen
structure ArgCellsOf {α:Type} (Rd:World→Value→α→Prop) (w:World) (a:Option Addr) (len cap:Nat) (L:List α):Prop where
 length:L.length=len
 room:len≤cap
 most:cap≤maxLen
 at':∀ i x,L[i]?=some x→∃ g o v,a=some ⟨g,o,none⟩∧w.cell? ⟨g,o+i,none⟩=some v∧Rd w v x
abbrev ArgBss:=ArgCellsOf AB
section
variable {H:Type} {enc:TypeId×Value→H} {P:Program} {w:World} {base:Nat} {spare:Nat→Bool} {held:Bool}
theorem openAB {T E:TypeId} (ht:P.underlying T=some (.slice E)) (he:P.underlying E=some (.int .u8)) (hc:P.cellsOf E=1) {fuel:Nat} {cs:List Value} {y:DataW H×List MemPlace}
  (h:DataW.trod enc P w base spare held fuel T cs=some y):∃ v bs,cs=[v]∧AB w v bs:=by
 rcases open_ints ht he hc h with ⟨hcs,_⟩|⟨x,l,c,zs,hcs,_,hl,hm,hz,_,hcell,hws⟩
 ·exact⟨_,[],hcs,none,0,rfl,Src.nil _ _ _,Nat.le_refl _,Nat.zero_le _⟩
 ·have hle:l≤zs.length:=by rw [hz];split <;> omega
  refine⟨_,(zs.take l).map (fun z=>UInt8.ofNat z.toNat),hcs,some x,c,by simp;omega,⟨by simp [u8s],fun h0=>?_⟩,by simp;omega,hm⟩
  refine⟨x,rfl,fun j u hu=>?_⟩
  have hlen:((zs.take l).map (fun z=>UInt8.ofNat z.toNat)).length=l:=by simp;omega
  have hj:j < l:=by
   have:=(List.getElem?_eq_some_iff.1 hu).1
   rw [u8s_length,hlen] at this;exact this
  have h1:=hcell j (by omega)
  rw [h1]
  have hw:(Lit.int .u8 zs[j]).wf=true:=hws _ (List.getElem_mem (by omega))
  have hb:0≤zs[j]∧zs[j] < 256:=by
   have hmin:IntKind.u8.min=0:=rfl
   have hmax:IntKind.u8.max=255:=rfl
   simp only [Lit.wf,Bool.and_eq_true,decide_eq_true_eq] at hw
   rw [hmin,hmax] at hw
   omega
  have hgl:(u8s ((zs.take l).map (fun z=>UInt8.ofNat z.toNat)))[j]?=some (.int .u8 zs[j]):=by
   simp only [u8s,List.map_map,List.getElem?_map,List.getElem?_take,hj,if_true,List.getElem?_eq_getElem (show j < zs.length by omega),Option.map_some,Function.comp]
   congr 2
   rw [UInt8.toNat_ofNat']
   omega
  rw [hgl] at hu
  rw [← hu]
  congr 2
  rw [List.getD_eq_getElem?_getD,List.getElem?_eq_getElem (show j < zs.length by omega)];rfl
end
section
variable {w0 w:World} {R:List Asrt}
theorem cell_old (h:Own w0 w R) {a:Addr} {v:Value} (hc:w0.cell? a=some v):w.cell? a=some v:=by
 have hb:=World.block_lt_of_cell? _ _ hc
 rw [← hc]
 exact World.cell?_of_block (h.mod.block _ hb (by simp))
theorem Src.old (h:Own w0 w R) {A:Option Addr} {n k:Nat} {xs:List Value} (hs:Src w0 A n k xs):Src w A n k xs:=
 ⟨hs.len,fun h0=>by
  obtain⟨ad,e,hc⟩:=hs.at' h0
  exact⟨ad,e,fun j u hu=>cell_old h (hc j u hu)⟩⟩
end
theorem meas_lt {n j:Nat} (h:(j:Int) < (n:Int)):n - (intOf (.int .i64 ((j:Int)+1))).toNat < n - (intOf (.int .i64 (j:Int))).toNat:=by
 simp only [intOf];omega
structure FrI where
 kind:Int
 ver:Int
 body:List UInt8
def FrIAt (w:World) (g o:Nat) (f:FrI):Prop:=w.cell? ⟨g,o,none⟩=some (.int .i64 f.kind)∧w.cell? ⟨g,o+1,none⟩=some (.int .i64 f.ver)∧∃ v,w.cell? ⟨g,o+2,none⟩=some v∧AB w v f.body
structure ArgStr {α:Type} (k:Nat) (Rd:World→Nat→Nat→α→Prop) (w:World) (v:Value) (L:List α):Prop where
 ex:∃ a c,v=.slice a L.length c∧L.length≤c∧c≤maxLen∧∀ i x,L[i]?=some x→∃ g o,a=some ⟨g,o,none⟩∧Rd w g (o+i * k) x
abbrev ArgFrs:=ArgStr 3 FrIAt
structure CallI where
 act:Int
 n:Int
 b:List UInt8
 rows:List FrI
def CallIAt (w:World) (g o:Nat) (c:CallI):Prop:=w.cell? ⟨g,o,none⟩=some (.int .i64 c.act)∧w.cell? ⟨g,o+1,none⟩=some (.int .i64 c.n)∧(∃ v,w.cell? ⟨g,o+2,none⟩=some v∧AB w v c.b)∧∃ v,w.cell? ⟨g,o+3,none⟩=some v∧ArgFrs w v c.rows
abbrev ArgCalls6:=ArgStr 4 CallIAt
section
variable {H:Type} {enc:TypeId×Value→H} {w:World} {base:Nat} {spare:Nat→Bool} {held:Bool}
end
section
variable {w0 w:World} {R:List Asrt}
end
def encK:List IntKind→List Int→List Value
 | k::ks,n::ns=>.int k n::encK ks ns
 | _,_=>[]
theorem encK_append:∀ {ks:List IntKind} {ns:List Int} (ks':List IntKind) (ns':List Int),ns.length=ks.length→encK ks ns++encK ks' ns'=encK (ks++ks') (ns++ns')
 | [],[],_,_,_=>rfl
 | k::ks,n::ns,_,_,h=>by simp [encK,encK_append (ks:=ks) (ns:=ns) _ _ (by simpa using h)]
def wfK (ks:List IntKind) (ns:List Int):Prop:=∀ (j:Nat) (k:IntKind) (n:Int),ks[j]?=some k→ns[j]?=some n→(Lit.int k n).wf=true
theorem wfK_append {ks ks':List IntKind} {ns ns':List Int} (hl:ns.length=ks.length) (h:wfK ks ns) (h':wfK ks' ns'):wfK (ks++ks') (ns++ns'):=by
 intro j k n h1 h2
 by_cases hj:j < ks.length
 ·rw [List.getElem?_append_left hj] at h1
  rw [List.getElem?_append_left (by omega)] at h2
  exact h j k n h1 h2
 ·rw [List.getElem?_append_right (by omega)] at h1
  rw [List.getElem?_append_right (by omega)] at h2
  rw [hl] at h2
  exact h' _ k n h1 h2
section
variable {H:Type} (enc:TypeId×Value→H) (P:Program)
def FlatT (T:TypeId) (ks:List IntKind):Prop:=∀ (w:World) (base:Nat) (spare:Nat→Bool) (held:Bool) (n:Nat) (cs:List Value) (x:DataW H×List MemPlace),
 DataW.trod enc P w base spare held n T cs=some x→∃ ns:List Int,ns.length=ks.length∧cs=encK ks ns∧wfK ks ns
variable {enc P}
theorem flat_int {T:TypeId} {k:IntKind} (h:P.underlying T=some (.int k)):FlatT enc P T [k]:=by
 intro w base spare held n cs x hx
 obtain⟨m,e,_,hw⟩:=DataW.trod_int h hx
 refine⟨[m],rfl,by rw [e];rfl,fun j k' n' h1 h2=>?_⟩
 cases j with
 | zero=>simp at h1 h2;subst h1;subst h2;exact hw
 | succ j=>simp at h1
def offs:Nat→List (Field×List IntKind)→Prop
 | _,[]=>True
 | o,(f,ks)::r=>f.offset=o∧P.cellsOf f.type=ks.length∧offs (o+ks.length) r
theorem flat_fields:∀ (fk:List (Field×List IntKind)) (o:Nat),offs (P:=P) o fk→(∀ p∈fk,FlatT enc P p.1.type p.2)→∀ (w:World) (base:Nat) (spare:Nat→Bool) (held:Bool) (n:Nat) (cs:List Value) (xs:List (DataW H×List MemPlace)),
  (∀ (j:Nat) (f:Field),(fk.map (·.1))[j]?=some f→DataW.trod enc P w base spare held n f.type ((cs.drop f.offset).take (P.cellsOf f.type))=xs[j]?)→xs.length=fk.length→cs.length=o+((fk.map (·.2)).flatten).length →
  ∃ ns:List Int,ns.length=((fk.map (·.2)).flatten).length∧cs.drop o=encK ((fk.map (·.2)).flatten) ns∧wfK ((fk.map (·.2)).flatten) ns
 | [],o,_,_,_,_,_,_,_,cs,_,_,_,hl=>⟨[],rfl,by
   have:cs.drop o=[]:=List.drop_eq_nil_of_le (by simpa using Nat.le_of_eq hl)
   simp [this,encK],fun j k n h1=>by simp at h1⟩
 | (f,ks)::r,o,ho,hf,w,base,spare,held,n,cs,xs,hx,hxl,hl=>by
  obtain⟨o1,o2,o3⟩:=ho
  cases xs with
  | nil=>simp at hxl
  | cons x xs=>
   have h0:=hx 0 f (by simp)
   rw [o1,o2] at h0
   simp only [List.getElem?_cons_zero] at h0
   obtain⟨ns,n1,n2,n3⟩:=hf (f,ks) (by simp) w base spare held n _ x h0
   obtain⟨ms,m1,m2,m3⟩:=flat_fields r (o+ks.length) o3 (fun p hp=>hf p (List.mem_cons_of_mem _ hp)) w base spare held n cs xs (fun j g hg=>hx (j+1) g (by simpa using hg)) (by simpa using hxl)
    (by rw [hl];simp only [List.map_cons,List.flatten_cons,List.length_append];omega)
   refine⟨ns++ms,by simp only [List.map_cons,List.flatten_cons,List.length_append];rw [n1,m1],?_,by simpa using wfK_append n1 n3 m3⟩
   have:cs.drop o=(cs.drop o).take ks.length++(cs.drop o).drop ks.length:=(List.take_append_drop _ _).symm
   rw [this,List.drop_drop,m2,n2,encK_append _ _ n1]
   simp
theorem flat_struct {T:TypeId} {fs:Array Field} (h:P.underlying T=some (.struct fs)) (fk:List (Field×List IntKind)) (hfk:fk.map (·.1)=fs.toList) (ho:offs (P:=P) 0 fk) (hf:∀ p∈fk,FlatT enc P p.1.type p.2)
  (hc:P.cellsOf T=((fk.map (·.2)).flatten).length):FlatT enc P T ((fk.map (·.2)).flatten):=by
 intro w base spare held n cs x hx
 obtain⟨xs,n',_,_,hl,hlen,hfl⟩:=DataW.trod_struct h hx
 have:=flat_fields fk 0 ho hf w base spare held n' cs xs (fun j f hj=>hfl j f (by rw [hfk] at hj;simpa using hj)) (by rw [hlen,← Array.length_toList,← hfk,List.length_map]) (by rw [hl,hc];omega)
 simpa using this
structure ArgRows (ks:List IntKind) (w:World) (a:Option Addr) (len cap:Nat) (ps:List (List Int)):Prop where
 length:ps.length=len
 room:len≤cap
 most:cap≤maxLen
 shape:∀ x∈ps,x.length=ks.length∧wfK ks x
 at':len=0∨∃ b o,a=some ⟨b,o,none⟩∧b < w.heap.size∧∀ i x,ps[i]?=some x→∀ j v,(encK ks x)[j]?=some v→w.cell? ⟨b,o+(i * ks.length+j),none⟩=some v
end
theorem flatTupR {H:Type} {enc:TypeId×Value→H}:FlatT enc Tryz.prog 34 [.u32,.u32,.i64,.i64,.i64]:=by
 refine flat_struct Tryz.underlying34 [(_,[.u32]),(_,[.u32]),(_,[.i64]),(_,[.i64]),(_,[.i64])] rfl ⟨rfl,by kernel_rfl,rfl,by kernel_rfl,rfl,by kernel_rfl,rfl,by kernel_rfl,rfl,by kernel_rfl,trivial⟩ ?_ (by kernel_rfl)
 intro p hp
 simp only [List.mem_cons,List.not_mem_nil,or_false] at hp
 rcases hp with rfl | rfl | rfl | rfl | rfl
 all_goals exact flat_int (by kernel_rfl)
theorem flatFlR {H:Type} {enc:TypeId×Value→H}:FlatT enc Tryz.prog 36 [.u32,.u32,.i64,.i64,.i64,.i64,.i64,.i64]:=by
 refine flat_struct Tryz.underlying36 [(_,[.u32,.u32,.i64,.i64,.i64]),(_,[.i64]),(_,[.i64]),(_,[.i64])] rfl ⟨rfl,by kernel_rfl,rfl,by kernel_rfl,rfl,by kernel_rfl,rfl,by kernel_rfl,trivial⟩ ?_ (by kernel_rfl)
 intro p hp
 simp only [List.mem_cons,List.not_mem_nil,or_false] at hp
 rcases hp with rfl | rfl | rfl | rfl
 ·exact flatTupR
 all_goals exact flat_int (by kernel_rfl)
theorem flatBkR {H:Type} {enc:TypeId×Value→H}:FlatT enc Tryz.prog 119 [.i64,.u32,.i64]:=by
 refine flat_struct Tryz.underlying119 [(_,[.i64]),(_,[.u32]),(_,[.i64])] rfl ⟨rfl,by kernel_rfl,rfl,by kernel_rfl,rfl,by kernel_rfl,trivial⟩ ?_ (by kernel_rfl)
 intro p hp
 simp only [List.mem_cons,List.not_mem_nil,or_false] at hp
 rcases hp with rfl | rfl | rfl
 all_goals exact flat_int (by kernel_rfl)
theorem litR_i64 {n:Int} (h:(Lit.int .i64 n).wf=true):-9223372036854775808≤n∧n < 9223372036854775808:=by
 simp [Lit.wf,IntKind.min,IntKind.max,IntKind.signed,IntKind.bits] at h
 omega
theorem litR_u32 {n:Int} (h:(Lit.int .u32 n).wf=true):0≤n∧n < 4294967296:=by
 simp [Lit.wf,IntKind.min,IntKind.max,IntKind.signed,IntKind.bits] at h
 omega
abbrev encB (b:Bk):List Value:=[.int .i64 b.id,.int .u32 b.addr,.int .i64 b.weight]
def bkV (l:List Bk):List Value:=(l.map encB).flatten
theorem bkV_length (l:List Bk):(bkV l).length=l.length * 3:=by
 induction l with
 | nil=>rfl
 | cons b l ih=>
  have e:bkV (b::l)=encB b++bkV l:=by simp [bkV]
  have e1:(encB b).length=3:=rfl
  have e2:(b::l).length=l.length+1:=rfl
  rw [e,List.length_append,ih,e1,e2]
  omega
theorem bkV_at:∀ {l:List Bk} {i:Nat} {b:Bk},l[i]?=some b→(bkV l)[i * 3]?=some (.int .i64 b.id)∧(bkV l)[i * 3+1]?=some (.int .u32 b.addr)∧(bkV l)[i * 3+2]?=some (.int .i64 b.weight)
 | [],_,_,h=>by simp at h
 | x::l,0,b,h=>by
  simp at h;subst h
  simp [bkV,encB]
 | x::l,i+1,b,h=>by
  have e:bkV (x::l)=encB x++bkV l:=by simp [bkV]
  obtain⟨h0,h1,h2⟩:=bkV_at (l:=l) (i:=i) (by simpa using h)
  have hl:(encB x).length=3:=rfl
  rw [e]
  refine⟨?_,?_,?_⟩
  ·rw [List.getElem?_append_right (by rw [hl];omega),hl,show (i+1) * 3 - 3=i * 3 by omega];exact h0
  ·rw [List.getElem?_append_right (by rw [hl];omega),hl,show (i+1) * 3+1 - 3=i * 3+1 by omega];exact h1
  ·rw [List.getElem?_append_right (by rw [hl];omega),hl,show (i+1) * 3+2 - 3=i * 3+2 by omega];exact h2
theorem bkV_one (l:List Bk):∀ u∈bkV l,u.oneCell'=true:=by
 intro u hu
 simp only [bkV,List.mem_flatten,List.mem_map] at hu
 obtain⟨x,⟨b,_,rfl⟩,hx⟩:=hu
 simp at hx
 rcases hx with rfl | rfl | rfl <;> rfl
theorem bkV_snoc (l:List Bk) (b:Bk):bkV (l++[b])=bkV l++encB b:=by simp [bkV]
theorem bkV_get {l:List Bk} {t:Nat} {u:Value} (h:(bkV l)[t]?=some u):∃ b,l[t / 3]?=some b∧(encB b)[t % 3]?=some u:=by
 have hlt:t < l.length * 3:=by rw [← bkV_length];exact (List.getElem?_eq_some_iff.1 h).1
 obtain⟨b,hb⟩:∃ b,l[t / 3]?=some b:=⟨l[t / 3]'(by omega),List.getElem?_eq_getElem _⟩
 refine⟨b,hb,?_⟩
 obtain⟨h0,h1,h2⟩:=bkV_at hb
 have hd:=Nat.div_add_mod t 3
 have hm:=Nat.mod_lt t (show 0 < 3 by decide)
 rcases (by omega:t % 3=0∨t % 3=1∨t % 3=2) with e | e | e
 ·rw [show t / 3 * 3=t by omega,h] at h0;rw [e];exact h0.symm
 ·rw [show t / 3 * 3+1=t by omega,h] at h1;rw [e];exact h1.symm
 ·rw [show t / 3 * 3+2=t by omega,h] at h2;rw [e];exact h2.symm
structure ArgBks (w:World) (v:Value) (l:List Bk):Prop where
 ex:∃ a c,v=.slice a l.length c∧Src w a l.length 3 (bkV l)∧l.length≤c∧c≤maxLen∧(a=none→c=0)
 wf:∀ b∈l,WfBk b
abbrev encRL (r:Rec) (v:Value):List Value:=[.int .i64 r.kind,.int .u32 r.fl.t.src,.int .u32 r.fl.t.dst,.int .i64 r.fl.t.proto,.int .i64 r.fl.t.sport,.int .i64 r.fl.t.dport,.int .i64 r.fl.bk,.int .i64 r.fl.gen,.int .i64 r.fl.seen,.int .i64 r.gen,v,.int .i64 r.bk,.int .i64 r.till,.int .i64 r.count]
structure WfRI (r:Rec):Prop where
 rr:WfR r
 bb:∀ b∈r.bks,WfBk b
def RecIs (w:World) (cs:List Value) (r:Rec):Prop:=∃ v,cs=encRL r v∧ArgBks w v r.bks∧WfRI r
structure ArgSl {α:Type} (k:Nat) (Q:World→List Value→α→Prop) (w:World) (v:Value) (L:List α):Prop where
 ex:∃ a c,v=.slice a L.length c∧L.length≤c∧c≤maxLen∧(a=none→c=0)∧∀ i x,L[i]?=some x→∃ g o cs,a=some ⟨g,o,none⟩∧Q w cs x∧∀ j u,cs[j]?=some u→w.cell? ⟨g,o+i * k+j,none⟩=some u
abbrev ArgRecs:=ArgSl 14 RecIs
structure CallR where
 act:Int
 n:Int
 r:Rec
 rows:List Rec
 picks:List UInt8
def CallRIs (w:World) (cs:List Value) (c:CallR):Prop:=∃ v vr vp,cs=.int .i64 c.act::.int .i64 c.n::(encRL c.r v++[vr,vp])∧ArgBks w v c.r.bks∧WfRI c.r∧ArgRecs w vr c.rows∧AB w vp c.picks
abbrev ArgCalls15:=ArgSl 18 CallRIs
section
variable {H:Type} {enc:TypeId×Value→H} {P:Program} {w:World} {base:Nat} {spare:Nat→Bool} {held:Bool}
theorem openSl {α:Type} {Q:World→List Value→α→Prop} {T E:TypeId} {k:Nat} (ht:P.underlying T=some (.slice E)) (hC:P.cellsOf E=k) (hpos:0 < k)
  (one:∀ n cs y,DataW.trod enc P w base spare held n E cs=some y→cs.length=k→∃ x,Q w cs x) {fuel:Nat} {cs:List Value} {y:DataW H×List MemPlace}
  (hf:DataW.trod enc P w base spare held fuel T cs=some y):∃ v L,cs=[v]∧ArgSl k Q w v L:=by
 rcases open_slice ht hf with ⟨hcs,_⟩|⟨x,l,c,m,n,D,Pl,hcs,_,hl,hm,hmm,_,hi⟩
 ·exact⟨_,[],hcs,none,0,rfl,Nat.le_refl _,Nat.zero_le _,fun _=>rfl,by simp⟩
 ·have hle:l≤m:=by rw [hmm];split <;> omega
  have one':∀ i,i < l→∃ z:α,∃ cs',Q w cs' z∧cs'.length=k∧∀ j v,cs'[j]?=some v→w.cell? (x.add (i * k+j))=some v:=by
   intro i hil
   obtain⟨cs',hc,ht'⟩:=hi i (by omega)
   obtain⟨_,hcl,hat⟩:=World.cells?_some hc
   have hcl':cs'.length=k:=by rw [← hC];exact hcl
   obtain⟨z,hz⟩:=one _ _ _ ht' hcl'
   refine⟨z,cs',hz,hcl',fun j v hv=>?_⟩
   have hj:j < P.cellsOf E:=by
    have:=(List.getElem?_eq_some_iff.1 hv).1
    omega
   rw [← Go.Deep.add_add,← hC,hat j hj];exact hv
  obtain⟨L,hl1,hp⟩:=exists_list l one'
  refine⟨_,L,hcs,some x,c,by rw [hl1],by omega,hm,(fun e=>by cases e),fun i z hz=>?_⟩
  obtain⟨hi2,rfl⟩:=List.getElem?_eq_some_iff.1 hz
  have hlen0:0 < L.length:=by omega
  obtain⟨cs0,q1,q2,q3⟩:=hp 0 hlen0
  have c0:=q3 0 _ (List.getElem?_eq_getElem (by omega))
  have e:=addr_none (a:=x) (by simpa using c0)
  obtain⟨cs',q4,_,q5⟩:=hp i hi2
  refine⟨x.block,x.off,cs',by rw [← e],q4,fun j u hu=>?_⟩
  have:=q5 j u hu
  rw [e,add_plain] at this
  rw [Nat.add_assoc];exact this
theorem openBks {fuel:Nat} {cs:List Value} {y:DataW H×List MemPlace} (h:DataW.trod enc Tryz.prog w base spare held fuel 37 cs=some y):∃ v l,cs=[v]∧ArgBks w v l:=by
 obtain⟨v,L,e,hv⟩:=openSl (k:=3) (Q:=fun _ cs (b:Bk)=>cs=encB b∧WfBk b) Tryz.underlying37 (by kernel_rfl) (by decide) (fun n cs y hy hl=>by
  obtain⟨ns,n1,n2,n3⟩:=flatBkR w base spare held n cs y hy
  match ns,n1,n2,n3 with
  | [a,b,c],_,e,hw=>
   obtain⟨a0,a1⟩:=litR_i64 (hw 0 _ _ rfl rfl)
   obtain⟨b0,b1⟩:=litR_u32 (hw 1 _ _ rfl rfl)
   obtain⟨c0,c1⟩:=litR_i64 (hw 2 _ _ rfl rfl)
   exact⟨⟨a,b,c⟩,by rw [e];rfl,⟨a0,a1,b0,b1,c0,c1⟩⟩) h
 obtain⟨a,c,e1,h1,h2,hn,h3⟩:=hv.ex
 refine⟨v,L,e,⟨⟨a,c,e1,⟨bkV_length L,fun h0=>?_⟩,h1,h2,hn⟩,fun b hb=>?_⟩⟩
 ·obtain⟨g,o,cs0,e0,_,_⟩:=h3 0 _ (List.getElem?_eq_getElem h0)
  refine⟨⟨g,o,none⟩,e0,fun j u hu=>?_⟩
  obtain⟨b,hb,hbu⟩:=bkV_get hu
  obtain⟨g',o',cs',e',⟨ec,_⟩,hc⟩:=h3 _ _ hb
  rw [e0] at e';cases e'
  subst ec
  have:=hc _ _ hbu
  rw [add_at,show o+j=o+j / 3 * 3+j % 3 by omega]
  exact this
 ·obtain⟨i,hi,rfl⟩:=List.mem_iff_getElem.1 hb
  obtain⟨_,_,_,_,⟨_,hw⟩,_⟩:=h3 i _ (List.getElem?_eq_getElem hi)
  exact hw
theorem fld {fs:Array Field} {n':Nat} {cs:List Value} {xs:List (DataW H×List MemPlace)} (hfl:∀ (i:Nat) (f:Field),fs[i]?=some f→DataW.trod enc P w base spare held n' f.type ((cs.drop f.offset).take (P.cellsOf f.type))=xs[i]?) {j o k T:Nat} {f:Field} (hj:fs[j]?=some f) (ht:f.type=T) (ho:f.offset=o) (hk:P.cellsOf T=k) (hx:j < xs.length) :
  ∃ z,DataW.trod enc P w base spare held n' T ((cs.drop o).take k)=some z:=by
 subst ht ho hk
 exact⟨xs[j],by rw [hfl j f hj];exact List.getElem?_eq_getElem hx⟩
theorem list14 {cs:List Value} (h:cs.length=14):∃ c0 c1 c2 c3 c4 c5 c6 c7 c8 c9 c10 c11 c12 c13,cs=[c0,c1,c2,c3,c4,c5,c6,c7,c8,c9,c10,c11,c12,c13]:=by
 match cs,h with
 | [c0,c1,c2,c3,c4,c5,c6,c7,c8,c9,c10,c11,c12,c13],_=>exact⟨c0,c1,c2,c3,c4,c5,c6,c7,c8,c9,c10,c11,c12,c13,rfl⟩
theorem list18 {cs:List Value} (h:cs.length=18):∃ c0 c1 c2 c3 c4 c5 c6 c7 c8 c9 c10 c11 c12 c13 c14 c15 c16 c17,cs=[c0,c1,c2,c3,c4,c5,c6,c7,c8,c9,c10,c11,c12,c13,c14,c15,c16,c17]:=by
 match cs,h with
 | [c0,c1,c2,c3,c4,c5,c6,c7,c8,c9,c10,c11,c12,c13,c14,c15,c16,c17],_=>exact⟨c0,c1,c2,c3,c4,c5,c6,c7,c8,c9,c10,c11,c12,c13,c14,c15,c16,c17,rfl⟩
theorem recOf {n:Nat} {cs:List Value} {y:DataW H×List MemPlace} (h:DataW.trod enc Tryz.prog w base spare held n 39 cs=some y) (hl:cs.length=14):∃ r,RecIs w cs r:=by
 obtain⟨xs,n',_,_,hlc,hlen,hfl⟩:=DataW.trod_struct Tryz.underlying39 h
 have hxl:xs.length=7:=by rw [hlen];rfl
 obtain⟨z0,t0⟩:=fld hfl (j:=0) rfl rfl rfl (show Tryz.prog.cellsOf 3=1 by kernel_rfl) (by omega)
 obtain⟨z1,t1⟩:=fld hfl (j:=1) rfl rfl rfl (show Tryz.prog.cellsOf 36=8 by kernel_rfl) (by omega)
 obtain⟨z2,t2⟩:=fld hfl (j:=2) rfl rfl rfl (show Tryz.prog.cellsOf 3=1 by kernel_rfl) (by omega)
 obtain⟨z3,t3⟩:=fld hfl (j:=3) rfl rfl rfl (show Tryz.prog.cellsOf 37=1 by kernel_rfl) (by omega)
 obtain⟨z4,t4⟩:=fld hfl (j:=4) rfl rfl rfl (show Tryz.prog.cellsOf 3=1 by kernel_rfl) (by omega)
 obtain⟨z5,t5⟩:=fld hfl (j:=5) rfl rfl rfl (show Tryz.prog.cellsOf 2=1 by kernel_rfl) (by omega)
 obtain⟨z6,t6⟩:=fld hfl (j:=6) rfl rfl rfl (show Tryz.prog.cellsOf 3=1 by kernel_rfl) (by omega)
 obtain⟨k,e0,-,-⟩:=DataW.trod_int (k:=.i64) (by kernel_rfl) t0
 obtain⟨ns,n1,n2,n3⟩:=flatFlR w base spare held n' _ _ t1
 obtain⟨g,e2,-,-⟩:=DataW.trod_int (k:=.i64) (by kernel_rfl) t2
 obtain⟨v,l,e3,hb⟩:=openBks t3
 obtain⟨b,e4,-,-⟩:=DataW.trod_int (k:=.i64) (by kernel_rfl) t4
 obtain⟨u,e5,-,-⟩:=DataW.trod_int (k:=.i64) (by kernel_rfl) t5
 obtain⟨c,e6,-,-⟩:=DataW.trod_int (k:=.i64) (by kernel_rfl) t6
 obtain⟨c0,c1,c2,c3,c4,c5,c6,c7,c8,c9,c10,c11,c12,c13,rfl⟩:=list14 hl
 match ns,n1,n2,n3 with
 | [s,d,p,sp,dp,bk,gn,sn],_,e1,hw=>
  change [c0]=_ at e0
  change [c1,c2,c3,c4,c5,c6,c7,c8]=_ at e1
  change [c9]=_ at e2
  change [c10]=_ at e3
  change [c11]=_ at e4
  change [c12]=_ at e5
  change [c13]=_ at e6
  simp only [encK,List.cons.injEq,and_true] at e0 e1 e2 e3 e4 e5 e6
  obtain⟨s0,s1⟩:=litR_u32 (hw 0 _ _ rfl rfl)
  obtain⟨d0,d1⟩:=litR_u32 (hw 1 _ _ rfl rfl)
  obtain⟨p0,p1⟩:=litR_i64 (hw 2 _ _ rfl rfl)
  obtain⟨sp0,sp1⟩:=litR_i64 (hw 3 _ _ rfl rfl)
  obtain⟨dp0,dp1⟩:=litR_i64 (hw 4 _ _ rfl rfl)
  obtain⟨q1,q2,q3,q4,q5,q6,q7,q8⟩:=e1
  subst e0 e2 e3 e4 e5 e6 q1 q2 q3 q4 q5 q6 q7 q8
  exact⟨⟨k,⟨⟨s,d,p,sp,dp⟩,bk,gn,sn⟩,g,l,b,u,c⟩,_,rfl,hb,⟨⟨⟨s0,s1,d0,d1,p0,by show p≤_;omega,sp0,by show sp≤_;omega,dp0,by show dp≤_;omega⟩,fun b hb'=>⟨(hb.wf b hb').a0,(hb.wf b hb').a1⟩⟩,hb.wf⟩⟩
theorem openRecs {fuel:Nat} {cs:List Value} {y:DataW H×List MemPlace} (h:DataW.trod enc Tryz.prog w base spare held fuel 40 cs=some y):∃ v L,cs=[v]∧ArgRecs w v L:=
 openSl (k:=14) (Q:=RecIs) Tryz.underlying40 (by kernel_rfl) (by decide) (fun n cs y hy hl=>recOf hy hl) h
theorem callOf {n:Nat} {cs:List Value} {y:DataW H×List MemPlace} (h:DataW.trod enc Tryz.prog w base spare held n 43 cs=some y) (hl:cs.length=18):∃ c,CallRIs w cs c:=by
 obtain⟨xs,n',_,_,hlc,hlen,hfl⟩:=DataW.trod_struct Tryz.underlying43 h
 have hxl:xs.length=5:=by rw [hlen];rfl
 obtain⟨z0,t0⟩:=fld hfl (j:=0) rfl rfl rfl (show Tryz.prog.cellsOf 3=1 by kernel_rfl) (by omega)
 obtain⟨z1,t1⟩:=fld hfl (j:=1) rfl rfl rfl (show Tryz.prog.cellsOf 3=1 by kernel_rfl) (by omega)
 obtain⟨z2,t2⟩:=fld hfl (j:=2) rfl rfl rfl (show Tryz.prog.cellsOf 39=14 by kernel_rfl) (by omega)
 obtain⟨z3,t3⟩:=fld hfl (j:=3) rfl rfl rfl (show Tryz.prog.cellsOf 40=1 by kernel_rfl) (by omega)
 obtain⟨z4,t4⟩:=fld hfl (j:=4) rfl rfl rfl (show Tryz.prog.cellsOf 41=1 by kernel_rfl) (by omega)
 obtain⟨k,e0,-,-⟩:=DataW.trod_int (k:=.i64) (by kernel_rfl) t0
 obtain⟨g,e1,-,-⟩:=DataW.trod_int (k:=.i64) (by kernel_rfl) t1
 obtain⟨r,v,er,hb,hw⟩:=recOf t2 (by rw [List.length_take,List.length_drop,hl];rfl)
 obtain⟨vr,L,e3,hL⟩:=openRecs t3
 obtain⟨vp,bs,e4,hp⟩:=openAB Tryz.underlying41 Tryz.underlying5 (by kernel_rfl) t4
 obtain⟨c0,c1,c2,c3,c4,c5,c6,c7,c8,c9,c10,c11,c12,c13,c14,c15,c16,c17,rfl⟩:=list18 hl
 change [c0]=_ at e0
 change [c1]=_ at e1
 change [c2,c3,c4,c5,c6,c7,c8,c9,c10,c11,c12,c13,c14,c15]=_ at er
 change [c16]=_ at e3
 change [c17]=_ at e4
 simp only [List.cons.injEq,and_true] at e0 e1 er e3 e4
 obtain⟨q1,q2,q3,q4,q5,q6,q7,q8,q9,q10,q11,q12,q13,q14⟩:=er
 subst e0 e1 e3 e4 q1 q2 q3 q4 q5 q6 q7 q8 q9 q10 q11 q12 q13 q14
 exact⟨⟨k,g,r,L,bs⟩,_,_,_,rfl,hb,hw,hL,hp⟩
theorem openCalls15A {a:Option Addr} {len cap:Nat} {d:DataW H} {p:List MemPlace} (h:DataW.Trod enc Tryz.prog w base spare held 22 (.slice a len cap) d p):∃ L,ArgCalls15 w (.slice a len cap) L:=by
 obtain⟨fuel,hf⟩:=h
 obtain⟨v,L,e,hL⟩:=openSl (k:=18) (Q:=CallRIs) Tryz.underlying22 (by kernel_rfl) (by decide) (fun n cs y hy hl=>callOf hy hl) hf
 simp [Value.cells] at e
 subst e
 exact⟨L,hL⟩
end
section
variable {w0 w:World} {R:List Asrt}
end
theorem heap3_mid (w:World) (A B C:Obj):(((w.alloc A).alloc B).alloc C).heap[w.heap.size+1]?=some B:=by
 rw [heap_alloc_old _ _ (by rw [World.size_alloc,World.size_alloc];omega),heap_alloc2_new]
def setL:Nat→List Value→Array Value→Array Value
 | _,[],C=>C
 | o,x::xs,C=>setL (o+1) xs (C.setIfInBounds o x)
theorem setL_toList:∀ (xs:List Value) (o:Nat) (C:Array Value),o+xs.length≤C.size→(setL o xs C).toList=C.toList.take o++(xs++C.toList.drop (o+xs.length))
 | [],o,C,h=>by simp [setL]
 | x::xs,o,C,h=>by
  simp only [List.length_cons] at h
  have h1:=setL_toList xs (o+1) (C.setIfInBounds o x) (by simp;omega)
  show (setL (o+1) xs (C.setIfInBounds o x)).toList=_
  rw [h1,Array.toList_setIfInBounds]
  have e1:(C.toList.set o x).take (o+1)=C.toList.take o++[x]:=by
   rw [List.take_add_one,List.take_set_of_le (Nat.le_refl _),List.getElem?_set_self (by simp;omega)];rfl
  have e2:(C.toList.set o x).drop (o+1+xs.length)=C.toList.drop (o+1+xs.length):=List.drop_set_of_lt (by omega)
  rw [e1,e2,List.append_assoc]
  simp only [List.length_cons,List.cons_append,List.nil_append]
  rw [show o+1+xs.length=o+(xs.length+1) by omega]
theorem setL_full {xs:List Value} {C:Array Value} (h:xs.length=C.size):setL 0 xs C=xs.toArray:=by
 apply Array.toList_inj.1
 rw [setL_toList xs 0 C (by omega)]
 simp [h]
theorem setL_at {xs ys:List Value} {o:Nat} {C:Array Value} (h:o+xs.length≤C.size) (hy:C.toList.take o++(xs++C.toList.drop (o+xs.length))=ys):setL o xs C=ys.toArray:=by
 apply Array.toList_inj.1
 rw [setL_toList xs o C h,hy]
theorem In.setCs {F0:List Nat} {w0:World} {b:Nat} {T:TypeId}:∀ (xs:List Value) (o:Nat) {w:World} {R:List Asrt} {C:Array Value} (i:Nat),In F0 w0 w R→R[i]?=some (Cells b C T)→In F0 w0 (w.setCells b o xs) (R.set i (Cells b (setL o xs C) T))
 | [],o,w,R,C,i,h,hA=>by
  have:R.set i (Cells b C T)=R:=set_same hA
  show In F0 w0 w (R.set i (Cells b C T))
  rw [this];exact h
 | x::xs,o,w,R,C,i,h,hA=>by
  have h1:=h.put i hA o x
  have hi:i < R.length:=(List.getElem?_eq_some_iff.1 hA).1
  have h2:=In.setCs (b:=b) (T:=T) xs (o+1) (C:=C.setIfInBounds o x) i h1 (by simp [hi])
  rw [List.set_set] at h2
  exact h2
theorem In.setFull {F0:List Nat} {w0 w:World} {R:List Asrt} {b:Nat} {T:TypeId} {C:Array Value} (h:In F0 w0 w R) (i:Nat) (hA:R[i]?=some (Cells b C T)) {xs:List Value} (hl:xs.length=C.size):In F0 w0 (w.setCells b 0 xs) (R.set i (Cells b xs.toArray T)):=by
 have h1:=In.setCs xs 0 i h hA
 rwa [setL_full hl] at h1
theorem there_of {w:World} {b:Nat} {C:Array Value} {T:TypeId} (h:w.heap[b]?=some (.cells C T (0,0))):w.there b 0 C.size:=fun j hj=>by
 rw [Nat.zero_add]
 refine⟨?_,free_of h⟩
 rw [cell_of h (Array.getElem?_eq_getElem hj)];rfl
def zCall:Array Value:=#[.int .i64 0,.int .i64 0,.int .i64 0,.int .u32 0,.int .u32 0,.int .i64 0,.int .i64 0,.int .i64 0,.int .i64 0,.int .i64 0,.int .i64 0,.int .i64 0,.slice none 0 0,.int .i64 0,.int .i64 0,.int .i64 0,.slice none 0 0,.slice none 0 0]
def zRec:Array Value:=#[.int .i64 0,.int .u32 0,.int .u32 0,.int .i64 0,.int .i64 0,.int .i64 0,.int .i64 0,.int .i64 0,.int .i64 0,.int .i64 0,.slice none 0 0,.int .i64 0,.int .i64 0,.int .i64 0]
def callV (c:CallR) (ab:Option Addr) (cb:Nat) (ar:Option Addr) (cr:Nat) (ap:Option Addr) (cp:Nat):List Value:=.int .i64 c.act::.int .i64 c.n::(encRL c.r (.slice ab c.r.bks.length cb)++[.slice ar c.rows.length cr,.slice ap c.picks.length cp])
def recV (r:Rec) (ab:Option Addr) (cb:Nat):List Value:=encRL r (.slice ab r.bks.length cb)
section
variable {c:CallR} {ab ar ap:Option Addr} {cb cr cp:Nat} {r:Rec}
theorem callV_12:(callV c ab cb ar cr ap cp).toArray[12]?=some (.slice ab c.r.bks.length cb):=rfl
theorem callV_16:(callV c ab cb ar cr ap cp).toArray[16]?=some (.slice ar c.rows.length cr):=rfl
theorem callV_one:(callV c ab cb ar cr ap cp).toArray.all (·.oneCell')=true:=by simp [callV,encRL,Value.oneCell']
theorem callV_rec {j:Nat} {u:Value} (h:(recV c.r ab cb)[j]?=some u):(callV c ab cb ar cr ap cp).toArray[2+j]?=some u:=by
 have hj:j < 14:=(List.getElem?_eq_some_iff.1 h).1
 rw [List.getElem?_toArray]
 show (.int .i64 c.act::.int .i64 c.n::(recV c.r ab cb++_):List Value)[2+j]?=some u
 rw [show 2+j=j+1+1 by omega,List.getElem?_cons_succ,List.getElem?_cons_succ,List.getElem?_append_left (by show j < 14;exact hj)]
 exact h
theorem recV_10:(recV r ab cb).toArray[10]?=some (.slice ab r.bks.length cb):=rfl
theorem recV_one:(recV r ab cb).toArray.all (·.oneCell')=true:=by simp [recV,encRL,Value.oneCell']
end
theorem call_of {W:World} {cs:List Value} {c:CallR} (h:CallRIs W cs c):∃ ab cb ar cr ap cp,cs=callV c ab cb ar cr ap cp∧Src W ab c.r.bks.length 3 (bkV c.r.bks)∧(ab=none→cb=0)∧c.r.bks.length≤maxLen∧WfRI c.r∧ArgRecs W (.slice ar c.rows.length cr) c.rows∧AB W (.slice ap c.picks.length cp) c.picks∧c.rows.length≤maxLen:=by
 obtain⟨v,vr,vp,rfl,h1,h2,h3,h4⟩:=h
 obtain⟨ab,cb,rfl,s1,s2,s3,s4⟩:=h1.ex
 obtain⟨ar,cr,rfl,t1,t2,t3,t4⟩:=h3.ex
 obtain⟨ap,cp,rfl,u1,u2,u3⟩:=h4.ex
 exact⟨ab,cb,ar,cr,ap,cp,rfl,s1,s4,Nat.le_trans s2 s3,h2,h3,h4,Nat.le_trans t1 t2⟩
theorem rec_of {W:World} {cs:List Value} {r:Rec} (h:RecIs W cs r):∃ ab cb,cs=recV r ab cb∧Src W ab r.bks.length 3 (bkV r.bks)∧(ab=none→cb=0)∧r.bks.length≤maxLen∧WfRI r:=by
 obtain⟨v,rfl,h1,h2⟩:=h
 obtain⟨ab,cb,rfl,s1,s2,s3,s4⟩:=h1.ex
 exact⟨ab,cb,rfl,s1,s4,Nat.le_trans s2 s3,h2⟩
theorem range_old {w0 w:World} {R:List Asrt} (h:Own w0 w R) {b o:Nat} {cs:List Value} (hc:∀ j u,cs[j]?=some u→w0.cell? ⟨b,o+j,none⟩=some u):w.rangeAt b o cs:=fun j u hu=>cell_old h (hc j u hu)
section
variable {F0:List Nat} {w0 w:World} {R:List Asrt}
theorem call_box (h:In F0 w0 w R) (c:CallR) (ab:Option Addr) (cb:Nat) (ar:Option Addr) (cr:Nat) (ap:Option Addr) (cp:Nat):(w.alloc (.cells zCall 43)).there w.heap.size 0 18∧In F0 w0 ((w.alloc (.cells zCall 43)).setCells w.heap.size 0 (callV c ab cb ar cr ap cp).toArray.toList) (Cells w.heap.size (callV c ab cb ar cr ap cp).toArray 43::R):=by
 have g1:=h.cells zCall 43
 exact⟨there_of (g1.block 0 rfl),g1.setFull 0 rfl (xs:=callV c ab cb ar cr ap cp) (b:=w.heap.size) (C:=zCall) (T:=43) rfl⟩
theorem rec_box (h:In F0 w0 w R) (r:Rec) (ab:Option Addr) (cb:Nat):(w.alloc (.cells zRec 39)).there w.heap.size 0 14∧In F0 w0 ((w.alloc (.cells zRec 39)).setCells w.heap.size 0 (recV r ab cb).toArray.toList) (Cells w.heap.size (recV r ab cb).toArray 39::R):=by
 have g1:=h.cells zRec 39
 exact⟨there_of (g1.block 0 rfl),g1.setFull 0 rfl (xs:=recV r ab cb) (b:=w.heap.size) (C:=zRec) (T:=39) rfl⟩
theorem call_range {b:Nat} {c:CallR} {ab ar ap:Option Addr} {cb cr cp:Nat} {W:World} (h:W.heap[b]?=some (.cells (callV c ab cb ar cr ap cp).toArray 43 (0,0))):W.rangeAt b 2 (recV c.r ab cb):=fun j u hu=>cell_of h (callV_rec hu)
end
structure LightC (c:CallR):Prop where
 n:c.rows.length≤30
 b:c.r.bks.length≤40
 rows:∀ r∈c.rows,r.bks.length≤40
structure LightP (cs:List CallR):Prop where
 len:cs.length≤60
 each:∀ c∈cs,LightC c
section
variable {w0 w:World} {R:List Asrt}
def LiRel (cs:List CallR) (w0:World) (R:List Asrt) (i:Value) (wr:World):Prop:=
 ∃ k:Nat,k≤cs.length∧k≤60∧i=.int .i64 k∧(∀ c∈cs.take k,LightC c)∧In [] w0 wr R
def LiRel2 (rs:List Rec) (w0:World) (R:List Asrt) (i:Value) (wr:World):Prop:=
 ∃ k:Nat,k≤rs.length∧i=.int .i64 k∧(∀ r∈rs.take k,r.bks.length≤40)∧In [] w0 wr R
def LightPost (cs:List CallR) (w0:World) (R:List Asrt) (e:Ending) (w':World):Prop:=∃ b:Bool,e=.returned (.bool b)∧(b=true→LightP cs)∧In [] w0 w' R
theorem light_no {cs:List CallR} (h:In [] w0 w R):LightPost cs w0 R (.returned (.bool false)) w:=⟨false,rfl,(fun e=>by cases e),h⟩
theorem lirel2_step {rs:List Rec} {j:Nat} {y:Rec} (hy:rs[j]?=some y) (hall:∀ r∈rs.take j,r.bks.length≤40) (hb:y.bks.length≤40) (ho:In [] w0 w R):LiRel2 rs w0 R (.int .i64 ((j:Int)+1)) w:=by
 have hj:=(List.getElem?_eq_some_iff.1 hy).1
 refine⟨j+1,hj,by rw [Int.natCast_add];rfl,fun r hr=>?_,ho⟩
 rw [List.take_add_one,hy] at hr
 rcases List.mem_append.1 hr with hr | hr
 ·exact hall r hr
 ·simp at hr;subst hr;exact hb
theorem lirel_step {cs:List CallR} {k:Nat} {x:CallR} (hx:cs[k]?=some x) (hk:¬ 60≤k) (hall:∀ c∈cs.take k,LightC c) (hc:LightC x) (ho:In [] w0 w R):LiRel cs w0 R (.int .i64 ((k:Int)+1)) w:=by
 have hj:=(List.getElem?_eq_some_iff.1 hx).1
 refine⟨k+1,hj,by omega,by rw [Int.natCast_add];rfl,fun r hr=>?_,ho⟩
 rw [List.take_add_one,hx] at hr
 rcases List.mem_append.1 hr with hr | hr
 ·exact hall r hr
 ·simp at hr;subst hr;exact hc
theorem o_light {v:Value} {cs:List CallR} (h:In [] w0 w R) (hv:ArgCalls15 w0 v cs):Calls Tryz.prog 4 #[v] w (LightPost cs w0 R):=by
 obtain⟨a,cap,rfl,hc1,hc2,hcn,hc⟩:=hv.ex
 unfold maxLen at hc2
 have HC:=Lib.hid hc
 have HR:Hid (LiRel cs w0 R (.int .i64 0) w):=Lib.hid ⟨0,Nat.zero_le _,Nat.zero_le _,rfl,by simp,h⟩
 clear h hv hc hcn
 go_enter Tryz.func4,Tryz.ntmps4
 go_wp2_with fail
 go_loopw [9] (LiRel cs w0 R) (fun k _=>cs.length - (intOf k).toNat)
 case atStart=>exact HR.out
 case round=>
  obtain⟨k,hk,hk60,rfl,hall,ho⟩:=hrel
  clear HR
  by_cases hlt:k < cs.length
  ·obtain⟨x,hx⟩:∃ x,cs[k]?=some x:=⟨cs[k],List.getElem?_eq_getElem hlt⟩
   obtain⟨g,o,csx,rfl,hcr,hcell⟩:=HC.out k x hx
   obtain⟨ab,cb,ar,cr,ap,cp,rfl,_,_,hbl,_,hvr,_,hrl⟩:=call_of hcr
   obtain⟨ar',cr',er,hr1,hr2,hr3,hr⟩:=hvr.ex
   cases er
   have hlt':(k:Int) < (cs.length:Int):=by omega
   have hw2:wrap64 ((k:Int)+1)=(k:Int)+1:=by unfold wrap64;omega
   have HRG:=Lib.hid (range_old ho hcell)
   obtain⟨hth,h4⟩:=call_box ho x ab cb ar cr ap cp
   have HTH:=Lib.hid hth
   unfold maxLen at hbl hrl
   obtain⟨w4,hw4⟩:∃ w4,w4=(wr.alloc (.cells zCall 43)).setCells wr.heap.size 0 (callV x ab cb ar cr ap cp).toArray.toList:=⟨_,rfl⟩
   rw [← hw4] at h4
   have c12:w4.cell? ⟨wr.heap.size,12,none⟩=some (.slice ab x.r.bks.length cb):=cell_of (h4.block 0 rfl) callV_12
   have c16:w4.cell? ⟨wr.heap.size,16,none⟩=some (.slice ar x.rows.length cr):=cell_of (h4.block 0 rfl) callV_16
   have H4:=Lib.hid h4
   have HW4:=Lib.hid hw4
   have HNO:Hid (LightPost cs w0 R (.returned (.bool false)) w4):=Lib.hid (light_no h4.drop)
   have HALL:=Lib.hid (And.intro hall hx)
   have HVR:=Lib.hid hr
   have HLEN:Hid (x.rows.length < 9223372036854775808∧x.r.bks.length < 9223372036854775808):=Lib.hid ⟨by omega,by omega⟩
   clear ho h4 hvr hr hall hx hlt hcell hcr hw4 hth hr1 hr2 hr3 hc1
   go_upto_region 3 with fail
   go_cut [3,4] (fun x3 x4 wx=>x3=.int .i64 k∧x4=.pointer (some ⟨wr.heap.size,0,none⟩)∧wx=w4)
   case first=>
    have hzz:(.cells #[.int .i64 0,.int .i64 0,.int .i64 0,.int .u32 0,.int .u32 0,.int .i64 0,.int .i64 0,.int .i64 0,.int .i64 0,.int .i64 0,.int .i64 0,.int .i64 0,.slice none 0 0,.int .i64 0,.int .i64 0,.int .i64 0,.slice none 0 0,.slice none 0 0] 43:Obj)=.cells zCall 43:=rfl
    go_wp2_with (first | (refine wpList_load_mid (by rfl) 43 (.tmp 12) rfl g (o+k * 18) rfl (callV x ab cb ar cr ap cp) _ HRG.out Tryz.underlying43 rfl (by kernel_rfl) ?_) | (refine wpList_store_mid (by rfl) 43 (.tmp 4) (.tmp 13) rfl wr.heap.size 0 (callV x ab cb ar cr ap cp).toArray (by rfl) (by rfl) HTH.out (by kernel_rfl) callV_one ?_))
    go_meet
    exact⟨rfl,rfl,HW4.out.symm⟩
   case rest=>
   obtain⟨rfl,rfl,rfl⟩:=hcut
   clear HRG HTH HW4
   by_cases q1:60≤k
   ·have q1':(60:Int)≤(k:Int):=by omega
    clear q1
    go_wp2_with fail
    go_ret
    exact HNO.out
   have q1':decide ((60:Int)≤(k:Int))=false:=by simp;omega
   by_cases q2:30 < x.rows.length
   ·have q2':(30:Int) < (x.rows.length:Int):=by omega
    clear q2
    go_wp2_with fail
    go_ret
    exact HNO.out
   have q2':decide ((30:Int) < (x.rows.length:Int))=false:=by simp;omega
   by_cases q3:40 < x.r.bks.length
   ·have q3':(40:Int) < (x.r.bks.length:Int):=by omega
    clear q3
    go_wp2_with fail
    go_ret
    exact HNO.out
   have q3':decide ((40:Int) < (x.r.bks.length:Int))=false:=by simp;omega
   have HR2:Hid (LiRel2 x.rows w0 R (.int .i64 0) wc):=Lib.hid ⟨0,Nat.zero_le _,rfl,by simp,H4.out.drop⟩
   clear HNO H4
   generalize wr.heap.size=fb at *
   go_wp2_with fail
   go_loopw [32] (LiRel2 x.rows w0 R) (fun j _=>x.rows.length - (intOf j).toNat)
   case atStart=>exact HR2.out
   case round=>
    obtain⟨j,hj,rfl,hallj,hoj⟩:=hrel
    clear HR2 c12 c16
    by_cases hltj:j < x.rows.length
    ·obtain⟨y,hy⟩:∃ y,x.rows[j]?=some y:=⟨x.rows[j],List.getElem?_eq_getElem hltj⟩
     obtain⟨gy,oy,csy,rfl,hyr,hcy⟩:=HVR.out j y hy
     obtain⟨ay,cy,rfl,_,_,hyl,_⟩:=rec_of hyr
     have hltj':(j:Int) < (x.rows.length:Int):=by omega
     have hw3:wrap64 ((j:Int)+1)=(j:Int)+1:=by have:=HLEN.out.1;unfold wrap64;omega
     have HRY:=Lib.hid (range_old hoj hcy)
     obtain⟨hth,h6⟩:=rec_box hoj y ay cy
     have HTY:=Lib.hid hth
     unfold maxLen at hyl
     obtain⟨w6,hw6⟩:∃ w6,w6=(wr.alloc (.cells zRec 39)).setCells wr.heap.size 0 (recV y ay cy).toArray.toList:=⟨_,rfl⟩
     rw [← hw6] at h6
     have d10:w6.cell? ⟨wr.heap.size,10,none⟩=some (.slice ay y.bks.length cy):=cell_of (h6.block 0 rfl) recV_10
     have HW6:=Lib.hid hw6
     have HNO2:Hid (LightPost cs w0 R (.returned (.bool false)) w6):=Lib.hid (light_no h6.drop)
     have HYJ:=Lib.hid (And.intro hallj hy)
     have H6:=Lib.hid h6
     clear hoj h6 hyr hcy hallj hy hltj hw6 hth
     go_upto_region 8 with fail
     go_cut [6] (fun x6 wx=>x6=.pointer (some ⟨wr.heap.size,0,none⟩)∧wx=w6)
     case first=>
      go_wp2_with (first | (refine wpList_load_mid (by rfl) 39 (.tmp 34) rfl gy (oy+j * 14) rfl (recV y ay cy) _ HRY.out Tryz.underlying39 rfl (by kernel_rfl) ?_) | (refine wpList_store_mid (by rfl) 39 (.tmp 6) (.tmp 35) rfl wr.heap.size 0 (recV y ay cy).toArray (by rfl) (by rfl) HTY.out (by kernel_rfl) recV_one ?_))
      go_meet
      exact⟨rfl,HW6.out.symm⟩
     case rest=>
     obtain⟨rfl,rfl⟩:=hcut
     clear HRY HTY HW6
     by_cases q4:40 < y.bks.length
     ·have q4':(40:Int) < (y.bks.length:Int):=by omega
      clear q4
      go_wp2_with fail
      go_ret
      exact HNO2.out
     have q4':decide ((40:Int) < (y.bks.length:Int))=false:=by simp;omega
     have HRN:Hid (LiRel2 x.rows w0 R (.int .i64 ((j:Int)+1)) wc):=Lib.hid (lirel2_step HYJ.out.2 HYJ.out.1 (Nat.le_of_not_lt q4) H6.out.drop)
     clear HNO2 H6 HYJ
     go_wp2_with fail
     go_roundw
     case rel=>(try rw [hw3]);exact HRN.out
     case measure=>(try rw [hw3]);exact meas_lt hltj'
    ·have hgej:(x.rows.length:Int)≤(j:Int):=by omega
     obtain rfl:j=x.rows.length:=by omega
     have HRN:Hid (LiRel cs w0 R (.int .i64 ((k:Int)+1)) wr):=Lib.hid (lirel_step HALL.out.2 q1 HALL.out.1 ⟨Nat.le_of_not_lt q2,Nat.le_of_not_lt q3,by rw [List.take_length] at hallj;exact hallj⟩ hoj)
     clear hoj hallj hltj
     go_wp2_with fail
     go_roundw
     case rel=>(try rw [hw2]);exact HRN.out
     case measure=>(try rw [hw2]);exact meas_lt hlt'
  ·have hge:(cs.length:Int)≤(k:Int):=by omega
   obtain rfl:k=cs.length:=by omega
   have HF:Hid (LightPost cs w0 R (.returned (.bool true)) wr):=Lib.hid ⟨true,rfl,fun _=>⟨hk60,by rw [List.take_length] at hall;exact hall⟩,ho⟩
   clear ho hall hlt
   go_wp2_with fail
   go_ret
   exact HF.out
end
end Go.Proofs.YtpmmiljakbojaaaGreat
