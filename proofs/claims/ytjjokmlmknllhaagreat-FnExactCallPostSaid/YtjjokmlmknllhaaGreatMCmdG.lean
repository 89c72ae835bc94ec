/- Programs of our own: rows of commands in blocks of an interval, no two parts of which share a block. -/
import Derived.Test.YtjjokmlmknllhaaGreatMCmdA
set_option linter.unusedSimpArgs false
set_option linter.unusedVariables false
namespace Go.Proofs.YtjjokmlmknllhaaGreat
open Go Go.RowKit Go.Proofs
abbrev tC:Nat:=54
def Ten (cs:Array Value) (o:Nat) (k a b:Int) (t:Fct) (vF vA vB vE:Value):Prop:=
 cs[o]? = some (.int .i64 k)∧cs[o+1]? = some (.int .i64 a)∧cs[o+2]? = some (.int .i64 b)∧cs[o+3]? = some (.bool t.eq)∧cs[o+4]? = some (.int .i64 t.a)∧cs[o+5]? = some (.int .i64 t.b)∧
  cs[o+6]? = some vF∧cs[o+7]? = some vA∧cs[o+8]? = some vB∧cs[o+9]? = some vE
def CmsOAt (w:World):Cms→Array Value→Nat→Nat→Nat→Prop
 | .nil,_,_,lo,hi=>lo≤hi
 | .cons k a b t i body els r,cs,o,lo,hi=>∃ vF vA gB gE csB csE m1 m2 m3,Ten cs o k a b t vF vA (.slice (some ⟨gB,0,none⟩) body.len body.len) (.slice (some ⟨gE,0,none⟩) els.len els.len)∧
   (lo≤m1∧AsnI w lo m1 (.agg #[vF,vA]) i)∧
   (m1≤gB∧Blk w gB tC csB∧csB.size=body.len * 10∧body.len≤1049600∧CmsOAt w body csB 0 (gB+1) m2)∧
   (m2≤gE∧Blk w gE tC csE∧csE.size=els.len * 10∧els.len≤1049600∧CmsOAt w els csE 0 (gE+1) m3)∧
   CmsOAt w r cs (o+10) m3 hi
def CmsO (w:World) (lo hi:Nat) (v:Value) (L:Cms):Prop:=∃ g cs,v=.slice (some ⟨g,0,none⟩) L.len L.len∧lo≤g∧Blk w g tC cs∧cs.size=L.len * 10∧L.len≤1049600∧CmsOAt w L cs 0 (g+1) hi
section
variable {w w':World} {lo hi lo' hi':Nat}
theorem CmsOAt.le:∀ {L:Cms} {cs:Array Value} {o lo hi:Nat},CmsOAt w L cs o lo hi→lo≤hi
 | .nil,_,_,_,_,h=>h
 | .cons k a b t i body els r,cs,o,lo,hi,h=>by
  obtain ⟨vF,vA,gB,gE,csB,csE,m1,m2,m3,hT,⟨h1,_⟩,⟨h2,_,_,_,h3⟩,⟨h4,_,_,_,h5⟩,h6⟩:=h
  have e1:=CmsOAt.le h3
  have e2:=CmsOAt.le h5
  have e3:=CmsOAt.le h6
  omega
theorem CmsOAt.mono:∀ {L:Cms} {cs:Array Value} {o lo hi:Nat},CmsOAt w L cs o lo hi→hi≤hi'→CmsOAt w L cs o lo hi'
 | .nil,_,_,_,_,h,e=>Nat.le_trans h e
 | .cons k a b t i body els r,cs,o,lo,hi,h,e=>by
  obtain ⟨vF,vA,gB,gE,csB,csE,m1,m2,m3,hT,h1,h2,h4,h6⟩:=h
  exact ⟨vF,vA,gB,gE,csB,csE,m1,m2,m3,hT,h1,h2,h4,CmsOAt.mono h6 e⟩
theorem CmsOAt.below (hb:Below w.heap.size w w'):∀ {L:Cms} {cs:Array Value} {o lo hi:Nat},CmsOAt w L cs o lo hi→CmsOAt w' L cs o lo hi
 | .nil,_,_,_,_,h=>h
 | .cons k a b t i body els r,cs,o,lo,hi,h=>by
  obtain ⟨vF,vA,gB,gE,csB,csE,m1,m2,m3,hT,⟨h1,h1'⟩,⟨h2,k2,z2,l2,h3⟩,⟨h4,k4,z4,l4,h5⟩,h6⟩:=h
  exact ⟨vF,vA,gB,gE,csB,csE,m1,m2,m3,hT,⟨h1,h1'.below hb⟩,⟨h2,k2.next hb,z2,l2,CmsOAt.below hb h3⟩,⟨h4,k4.next hb,z4,l4,CmsOAt.below hb h5⟩,CmsOAt.below hb h6⟩
theorem CmsOAt.mk {a b:Nat} (hb:Mk (fun g=>a≤g∧g<b) w w'):∀ {L:Cms} {cs:Array Value} {o lo hi:Nat},CmsOAt w L cs o lo hi→(hi≤a∨b≤lo)→CmsOAt w' L cs o lo hi
 | .nil,_,_,_,_,h,_=>h
 | .cons k a' b' t i body els r,cs,o,lo,hi,h,hd=>by
  obtain ⟨vF,vA,gB,gE,csB,csE,m1,m2,m3,hT,⟨h1,h1'⟩,⟨h2,k2,z2,l2,h3⟩,⟨h4,k4,z4,l4,h5⟩,h6⟩:=h
  have e1:=CmsOAt.le h3
  have e2:=CmsOAt.le h5
  have e3:=CmsOAt.le h6
  exact ⟨vF,vA,gB,gE,csB,csE,m1,m2,m3,hT,⟨h1,h1'.mk hb (by omega)⟩,⟨h2,hb.blk k2 (by omega),z2,l2,CmsOAt.mk hb h3 (by omega)⟩,⟨h4,hb.blk k4 (by omega),z4,l4,CmsOAt.mk hb h5 (by omega)⟩,CmsOAt.mk hb h6 (by omega)⟩
theorem CmsOAt.cells {cs':Array Value}:∀ {L:Cms} {cs:Array Value} {o lo hi:Nat},CmsOAt w L cs o lo hi→(∀ j,o≤j→j<o+L.len * 10→cs'[j]? = cs[j]?)→CmsOAt w L cs' o lo hi
 | .nil,_,_,_,_,h,_=>h
 | .cons k a b t i body els r,cs,o,lo,hi,h,hc=>by
  obtain ⟨vF,vA,gB,gE,csB,csE,m1,m2,m3,⟨t0,t1,t2,t3,t4,t5,t6,t7,t8,t9⟩,h1,h2,h4,h6⟩:=h
  have hl:(Cms.cons k a b t i body els r).len=r.len+1:=rfl
  rw[hl] at hc
  have hx:∀ j,j<10→cs'[o+j]? = cs[o+j]?:=fun j hj=>hc _ (by omega) (by omega)
  exact ⟨vF,vA,gB,gE,csB,csE,m1,m2,m3,⟨(hx 0 (by omega)).trans t0,(hx 1 (by omega)).trans t1,(hx 2 (by omega)).trans t2,(hx 3 (by omega)).trans t3,(hx 4 (by omega)).trans t4,(hx 5 (by omega)).trans t5,(hx 6 (by omega)).trans t6,(hx 7 (by omega)).trans t7,(hx 8 (by omega)).trans t8,(hx 9 (by omega)).trans t9⟩,h1,h2,h4,CmsOAt.cells h6 fun j e1 e2=>hc j (by omega) (by omega)⟩
theorem CmsOAt.at_:∀ {L:Cms} {cs:Array Value} {g o lo hi:Nat},CmsOAt w L cs o lo hi→Blk w g tC cs→lo'≤lo→CmsAt w lo' w.heap.size L g o
 | .nil,_,_,_,_,_,_,_,_=>trivial
 | .cons k a b t i body els r,cs,g,o,lo,hi,h,hK,hl=>by
  obtain ⟨vF,vA,gB,gE,csB,csE,m1,m2,m3,⟨t0,t1,t2,t3,t4,t5,t6,t7,t8,t9⟩,⟨h1,h1'⟩,⟨h2,k2,z2,l2,h3⟩,⟨h4,k4,z4,l4,h5⟩,h6⟩:=h
  have e1:=CmsOAt.le h3
  have e2:=CmsOAt.le h5
  have hc:∀ {j:Nat} {v:Value},cs[j]? = some v→w.cell? ⟨g,j,none⟩=some v:=fun {j v} h=>(hK.cell (i:=j)).trans h
  obtain ⟨A1,c1,A2,c2,e,f1,f2⟩:=h1'.reads
  have e':vF=.slice A1 i.facts.length c1∧vA=.slice A2 i.atoms.length c2:=by
   injection e with e;injection e with e;injection e with ea eb;injection eb with eb;exact ⟨ea,eb⟩
  obtain ⟨rfl,rfl⟩:=e'
  exact ⟨⟨hc t0,hc t1,hc t2,hc t3,hc t4,hc t5⟩,⟨A1,c1,hc t6,f1.1.mono hl (Nat.le_refl _)⟩,⟨A2,c2,hc t7,f2.1.mono hl (Nat.le_refl _)⟩,
   ⟨_,_,hc t8,fun _=>⟨gB,0,rfl,by omega,k2.lt,CmsOAt.at_ h3 k2 (by omega)⟩⟩,⟨_,_,hc t9,fun _=>⟨gE,0,rfl,by omega,k4.lt,CmsOAt.at_ h5 k4 (by omega)⟩⟩,CmsOAt.at_ h6 hK (by omega)⟩
variable {v:Value} {L:Cms}
theorem CmsO.form (h:CmsO w lo hi v L):∃ A c,v=.slice A L.len c∧CmsV w lo w.heap.size A L:=by
 obtain ⟨g,cs,rfl,h1,hK,hs,hl,hc⟩:=h
 exact ⟨_,_,rfl,fun _=>⟨g,0,rfl,h1,hK.lt,hc.at_ hK (by omega)⟩⟩
theorem CmsO.below (h:CmsO w lo hi v L) (hb:Below w.heap.size w w'):CmsO w' lo hi v L:=by
 obtain ⟨g,cs,rfl,h1,hK,hs,hl,hc⟩:=h
 exact ⟨g,cs,rfl,h1,hK.next hb,hs,hl,hc.below hb⟩
theorem CmsO.mk {a b:Nat} (h:CmsO w lo hi v L) (hb:Mk (fun g=>a≤g∧g<b) w w') (hd:hi≤a∨b≤lo):CmsO w' lo hi v L:=by
 obtain ⟨g,cs,rfl,h1,hK,hs,hl,hc⟩:=h
 have e:=hc.le
 exact ⟨g,cs,rfl,h1,hb.blk hK (by omega),hs,hl,hc.mk hb (by omega)⟩
theorem CmsO.mono (h:CmsO w lo hi v L) (e1:lo'≤lo) (e2:hi≤hi'):CmsO w lo' hi' v L:=by
 obtain ⟨g,cs,rfl,h1,hK,hs,hl,hc⟩:=h
 exact ⟨g,cs,rfl,by omega,hK,hs,hl,hc.mono e2⟩
theorem CmsO.len (h:CmsO w lo hi v L):L.len≤1049600:=by
 obtain ⟨g,cs,rfl,h1,hK,hs,hl,hc⟩:=h;exact hl
end
end Go.Proofs.YtjjokmlmknllhaaGreat

/- Programs: the laws' copies. -/
namespace Go.Proofs.YtjjokmlmknllhaaGreat
open Go Go.RowKit Go.Proofs
end Go.Proofs.YtjjokmlmknllhaaGreat

/- Programs: the laws' copies of whole lists. -/
namespace Go.Proofs.YtjjokmlmknllhaaGreat
open Go Go.RowKit Go.Proofs
def Cms.take:Nat→Cms→Cms
 | 0,_=>.nil
 | _+1,.nil=>.nil
 | n+1,.cons k a b t i body els r=>.cons k a b t i body els (r.take n)
section
variable {w w':World}
def put10 (cs:Array Value) (o:Nat) (v0 v1 v2 v3 v4 v5 v6 v7 v8 v9:Value):Array Value:=((((((((((cs).setIfInBounds (o) v0).setIfInBounds (o+1) v1).setIfInBounds (o+2) v2).setIfInBounds (o+3) v3).setIfInBounds (o+4) v4).setIfInBounds (o+5) v5).setIfInBounds (o+6) v6).setIfInBounds (o+7) v7).setIfInBounds (o+8) v8).setIfInBounds (o+9) v9
theorem Blk.put10 {g:Nat} {t:TypeId} {cs:Array Value} (h:Blk w g t cs) (o:Nat) (v0 v1 v2 v3 v4 v5 v6 v7 v8 v9:Value):Blk (((((((((((w).setCell ⟨g,o,none⟩ v0).setCell ⟨g,o+1,none⟩ v1).setCell ⟨g,o+2,none⟩ v2).setCell ⟨g,o+3,none⟩ v3).setCell ⟨g,o+4,none⟩ v4).setCell ⟨g,o+5,none⟩ v5).setCell ⟨g,o+6,none⟩ v6).setCell ⟨g,o+7,none⟩ v7).setCell ⟨g,o+8,none⟩ v8).setCell ⟨g,o+9,none⟩ v9) g t (Go.Proofs.YtjjokmlmknllhaaGreat.put10 cs o v0 v1 v2 v3 v4 v5 v6 v7 v8 v9):=
 ((((((((((h).set_ (o) v0).set_ (o+1) v1).set_ (o+2) v2).set_ (o+3) v3).set_ (o+4) v4).set_ (o+5) v5).set_ (o+6) v6).set_ (o+7) v7).set_ (o+8) v8).set_ (o+9) v9
end
end Go.Proofs.YtjjokmlmknllhaaGreat

/- Programs: comparison. -/
namespace Go.Proofs.YtjjokmlmknllhaaGreat
open Go Go.RowKit Go.Proofs
def eq1 (k a b:Int) (t:Fct) (i:Asn) (body els:Cms) (k' a' b':Int) (t':Fct) (i':Asn) (body' els':Cms):Bool:=decide (k=k'∧a=a'∧b=b'∧t=t'∧i=i'∧body=body'∧els=els')
end Go.Proofs.YtjjokmlmknllhaaGreat

/- Programs: the small tests. -/
namespace Go.Proofs.YtjjokmlmknllhaaGreat
open Go Go.RowKit Go.Proofs
def noAsn (i:Asn):Bool:=decide (i.facts.length=0)&&decide (i.atoms.length=0)
def noFct (t:Fct):Bool:=decide (t=⟨false,0,0⟩)
def basicB (k:Int):Bool:=decide (1≤k∧k≤5)
end Go.Proofs.YtjjokmlmknllhaaGreat
