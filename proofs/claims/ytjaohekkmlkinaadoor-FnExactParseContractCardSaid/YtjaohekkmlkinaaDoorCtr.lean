/- Words for the exact laws: contracts in blocks of their own. -/
import Derived.Test.YtjaohekkmlkinaaDoorKit
set_option linter.unusedSimpArgs false
set_option linter.unusedVariables false
namespace Go.Proofs.YtjaohekkmlkinaaDoor
open Go Go.RowKit Go.Proofs
def CtrI (w:World) (lo hi:Nat) (v:Value) (k:Ctr):Prop:=
 ∃ a1 a2 a3 a4 iv l1 h1 l2 h2,v=.agg #[a1,a2,a3,a4,iv]∧AsnI w l1 h1 (.agg #[a1,a2]) k.pre∧AsnI w l2 h2 (.agg #[a3,a4]) k.post∧IntsI w lo hi iv k.changes∧
  hi≤w.heap.size∧lo≤l1∧h1≤hi∧lo≤l2∧h2≤hi∧(h1≤l2∨h2≤l1)
def ctr0:Ctr:=⟨⟨[],[]⟩,⟨[],[]⟩,[]⟩
theorem ne_types {w:World} {b b':Nat} {t t':TypeId} {n n' s s':Nat} {v v':Value} {xs ys:List Value} (h:w.ownsRow b t s v n xs) (h':w.ownsRow b' t' s' v' n' ys) (ht:t≠t') (g:Nat) (hg:v.ownBlock=some g):v'.ownBlock≠some g:=by
 intro hg'
 obtain ⟨_,h2⟩:=h
 obtain ⟨_,h2'⟩:=h'
 rcases h2 with ⟨rfl,_⟩|⟨k,cap,cur,rfl,_,hh,_⟩
 ·simp[Value.ownBlock] at hg
 rcases h2' with ⟨rfl,_⟩|⟨k',cap',cur',rfl,_,hh',_⟩
 ·simp[Value.ownBlock] at hg'
 simp only[Value.ownBlock,Option.some.injEq] at hg hg'
 subst hg
 subst hg'
 exact Blk.ne_ (w:=w) hh hh' ht rfl
section
variable {w w':World} {lo hi lo' hi' a b:Nat} {v:Value}
theorem z1f {fv av:Value} {x:Asn} (h:AsnO w lo (.agg #[fv,av]) x):FactsO w lo fv x.facts:=by
 obtain ⟨fv',av',e,h1,h2⟩:=h
 injection e with e;injection e with e;injection e with e1 e2;injection e2 with e2;subst e1;subst e2
 exact h1
theorem z1a {fv av:Value} {x:Asn} (h:AsnO w lo (.agg #[fv,av]) x):AtomsO w lo av x.atoms:=by
 obtain ⟨fv',av',e,h1,h2⟩:=h
 injection e with e;injection e with e;injection e with e1 e2;injection e2 with e2;subst e1;subst e2
 exact h2
theorem CtrI.below {k:Ctr} (h:CtrI w lo hi v k) (hb:Below w.heap.size w w'):CtrI w' lo hi v k:=by
 obtain ⟨a1,a2,a3,a4,iv,l1,h1,l2,h2,e,p1,p2,p3,q⟩:=h
 have:=hb.size
 exact ⟨a1,a2,a3,a4,iv,l1,h1,l2,h2,e,p1.below hb,p2.below hb,p3.below hb,by omega⟩
theorem CtrI.mk {k:Ctr} (h:CtrI w lo hi v k) (hb:Mk (fun g=>a≤g∧g<b) w w') (hd:hi≤a∨b≤lo):CtrI w' lo hi v k:=by
 obtain ⟨a1,a2,a3,a4,iv,l1,h1,l2,h2,e,p1,p2,p3,q⟩:=h
 have:=hb.size
 exact ⟨a1,a2,a3,a4,iv,l1,h1,l2,h2,e,p1.mk hb (by omega),p2.mk hb (by omega),p3.mk hb (by omega),by omega⟩
theorem CtrI.up {k:Ctr} (h:CtrI w lo hi v k):CtrI w lo w.heap.size v k:=by
 obtain ⟨a1,a2,a3,a4,iv,l1,h1,l2,h2,e,p1,p2,p3,q⟩:=h
 exact ⟨a1,a2,a3,a4,iv,l1,h1,l2,h2,e,p1,p2,⟨p3.1,fun g hg=>by have:=p3.2 g hg;omega⟩,by omega⟩
theorem ctr_intro {a1 a2 a3 a4 iv:Value} {x:Ctr} {b1 b2 b3 u1 u2:Nat} (p1:AsnO w b1 (.agg #[a1,a2]) x.pre) (U1:Und a1 u1∧Und a2 u1) (p2:AsnO w b2 (.agg #[a3,a4]) x.post) (U2:Und a3 u2∧Und a4 u2)
  (p3:IntsO w b3 iv x.changes) (U3:Und iv hi) (hq:lo≤b1∧lo≤b2∧lo≤b3∧u1≤hi∧u2≤hi∧(u1≤b2∨u2≤b1)) (hs:hi≤w.heap.size):CtrI w lo hi (.agg #[a1,a2,a3,a4,iv]) x:=
 ⟨a1,a2,a3,a4,iv,b1,u1,b2,u2,rfl,⟨_,_,rfl,⟨z1f p1,U1.1⟩,⟨z1a p1,U1.2⟩⟩,⟨_,_,rfl,⟨z1f p2,U2.1⟩,⟨z1a p2,U2.2⟩⟩,⟨p3.lower (by omega),U3⟩,by omega⟩
theorem CtrI.form {k:Ctr} (h:CtrI w lo hi v k):∃ A c B d E e F f G g,v=.agg #[.slice A k.pre.facts.length c,.slice B k.pre.atoms.length d,.slice E k.post.facts.length e,.slice F k.post.atoms.length f,.slice G k.changes.length g]:=by
 obtain ⟨a1,a2,a3,a4,iv,l1,h1,l2,h2,e,p1,p2,p3,q⟩:=h
 obtain ⟨A,c,B,d,e1⟩:=p1.form
 obtain ⟨E,e',F,f,e2⟩:=p2.form
 obtain ⟨G,g,e3⟩:=p3.form
 simp only[Value.agg.injEq,Array.mk.injEq,List.cons.injEq,and_true] at e1 e2
 obtain ⟨rfl,rfl⟩:=e1
 obtain ⟨rfl,rfl⟩:=e2
 subst e3
 exact ⟨A,c,B,d,E,e',F,f,G,g,e⟩
theorem CtrI.reads {k:Ctr} (h:CtrI w lo hi v k):CtrV w lo w.heap.size v k:=by
 obtain ⟨a1,a2,a3,a4,iv,l1,h1,l2,h2,e,p1,p2,p3,q⟩:=h
 obtain ⟨G,g,rfl⟩:=p3.form
 exact ⟨a1,a2,a3,a4,G,g,e,p1.reads.mono (by omega) (Nat.le_refl _),p2.reads.mono (by omega) (Nat.le_refl _),p3.reads.mono (by omega) (Nat.le_refl _)⟩
theorem CtrI.len {k:Ctr} (h:CtrI w lo hi v k):k.pre.facts.length≤1049600∧k.pre.atoms.length≤1049600∧k.post.facts.length≤1049600∧k.post.atoms.length≤1049600∧k.changes.length≤1049600:=by
 obtain ⟨a1,a2,a3,a4,iv,l1,h1,l2,h2,e,p1,p2,p3,q⟩:=h
 have:=p1.len
 have:=p2.len
 have:=p3.len
 omega
theorem CtrI.zero (h1:lo≤hi) (h2:hi≤w.heap.size):CtrI w lo hi (.agg #[.slice none 0 0,.slice none 0 0,.slice none 0 0,.slice none 0 0,.slice none 0 0]) ctr0:=by
 have u:Und (.slice none 0 0) lo:=fun g h=>by cases h
 exact ⟨_,_,_,_,_,lo,lo,lo,lo,rfl,⟨_,_,rfl,⟨FactsO.nil _ _,u⟩,⟨AtomsO.nil _ _,u⟩⟩,⟨_,_,rfl,⟨FactsO.nil _ _,u⟩,⟨AtomsO.nil _ _,u⟩⟩,⟨⟨World.ownsRow_nil _ _ _ _,by simp[Lim,ctr0]⟩,fun g h=>by cases h⟩,by omega⟩
end
theorem t_ctr {lo hi lo' hi':Nat} (v v':Value) (x:Ctr) (w:World) (h:CtrV w lo hi v x) (h':CtrV w lo' hi' v' x):Calls Tryd.prog 13 #[v,v'] w fun e w'=>e=.returned (.bool true)∧Below w.heap.size w w':=c_eqContract v v' x w h h'
def markCtr (k:Int) (x:Ctr):Ctr:=⟨markAs k x.pre,markAs (k+3 * x.pre.facts.length+3 * x.pre.atoms.length) x.post,iota (k+3 * x.pre.facts.length+3 * x.pre.atoms.length+3 * x.post.facts.length+3 * x.post.atoms.length) x.changes.length⟩
set_option maxHeartbeats 800000 in
theorem m_asn2 (fv av:Value) (s:Asn) (k:Int) (lo hi:Nat) (w:World) (h:AsnI w lo hi (.agg #[fv,av]) s) (h0:0≤k) (h1:k≤549755813888):Calls Tryd.prog 41 #[.agg #[fv,av],.int .i64 k] w fun e w'=>e=.returned (.int .i64 (k+3 * s.facts.length+3 * s.atoms.length))∧AsnI w' lo hi (.agg #[fv,av]) (markAs k s)∧Mk (fun g=>fv.ownBlock=some g∨av.ownBlock=some g) w w':=by
 obtain ⟨fv',av',e,⟨o1,u1⟩,⟨o2,u2⟩⟩:=h
 injection e with e;injection e with e;injection e with e1 e2;injection e2 with e2;subst e1;subst e2
 have hd:=o1.ne_atoms o2
 have L1:s.facts.length≤1049600:=o1.2
 obtain ⟨F1,d1,e1,-⟩:=o1.reads
 obtain ⟨F2,d2,e2,-⟩:=o2.reads
 have o1b:=o1.below (w':=w.alloc (.cells #[fv,av] 31)) bel
 have o2b:=o2.below (w':=w.alloc (.cells #[fv,av] 31)) bel
 subst e1
 subst e2
 go_enter Tryd.func41,Tryd.ntmps41
 go_wp2_with fail
 refine (c_markFactS _ s.facts k lo _ o1b h0 (by omega)).mono ?_
 rintro e w1 ⟨rfl,p1,hM1⟩
 have k0:=hM1.blk (Blk.new w _ _) (fun e=>by have:=o1.und _ e;omega)
 have q0:=k0.cell
 have o2c:=o2b.mk hM1 (fun g e1 e2=>hd g e2 e1)
 have hM1':=(Mk.below_ (p:=fun g=>(Value.slice F1 s.facts.length d1).ownBlock=some g∨(Value.slice F2 s.atoms.length d2).ownBlock=some g) (w:=w) bel).trans (hM1.mono fun g e=>Or.inl e)
 clear hM1
 go_wp2_with fail
 refine (c_markAtomS _ s.atoms _ lo _ o2c (by omega) (by omega)).mono ?_
 rintro e w2 ⟨rfl,p2,hM2⟩
 have p1c:=p1.mk hM2 (fun g e1 e2=>hd g e1 e2)
 have hM2':=hM1'.trans (hM2.mono fun g e=>Or.inr e)
 go_wp2_with fail
 go_ret
 exact ⟨rfl,⟨_,_,rfl,⟨by simpa[markAs,markF_length] using p1c,u1⟩,⟨p2,u2⟩⟩,hM2'⟩
theorem AsnI.mk2 {p:Nat→Prop} {w w':World} {lo hi:Nat} {fv av:Value} {x:Asn} (h:AsnI w lo hi (.agg #[fv,av]) x) (hb:Mk p w w') (hd:∀ g,(fv.ownBlock=some g∨av.ownBlock=some g)→¬p g):AsnI w' lo hi (.agg #[fv,av]) x:=by
 obtain ⟨fv',av',e,⟨o1,u1⟩,⟨o2,u2⟩⟩:=h
 injection e with e;injection e with e;injection e with e1 e2;injection e2 with e2;subst e1;subst e2
 exact ⟨_,_,rfl,⟨o1.mk hb fun g hg=>hd g (Or.inl hg),u1⟩,⟨o2.mk hb fun g hg=>hd g (Or.inr hg),u2⟩⟩
theorem AsnI.own {w:World} {lo hi:Nat} {fv av:Value} {x:Asn} (h:AsnI w lo hi (.agg #[fv,av]) x) (g:Nat) (hg:fv.ownBlock=some g∨av.ownBlock=some g):lo≤g∧g<hi∧g<w.heap.size:=by
 obtain ⟨fv',av',e,⟨o1,u1⟩,⟨o2,u2⟩⟩:=h
 injection e with e;injection e with e;injection e with e1 e2;injection e2 with e2;subst e1;subst e2
 rcases hg with hg|hg
 ·have:=(o1.1.lt g hg);have:=u1 g hg;omega
 ·have:=(o2.1.lt g hg);have:=u2 g hg;omega
theorem AsnI.ne_ints {w:World} {lo hi b:Nat} {fv av iv:Value} {x:Asn} {xs:List Int} (h:AsnI w lo hi (.agg #[fv,av]) x) (h':IntsO w b iv xs) (g:Nat) (hg:fv.ownBlock=some g∨av.ownBlock=some g):iv.ownBlock≠some g:=by
 obtain ⟨fv',av',e,⟨o1,u1⟩,⟨o2,u2⟩⟩:=h
 injection e with e;injection e with e;injection e with e1 e2;injection e2 with e2;subst e1;subst e2
 rcases hg with hg|hg
 ·exact ne_types o1.1 h'.1 (by decide) g hg
 ·exact ne_types o2.1 h'.1 (by decide) g hg
set_option maxHeartbeats 800000 in
theorem m_ctr (v:Value) (x:Ctr) (k:Int) (lo hi:Nat) (w:World) (h:CtrI w lo hi v x) (h0:0≤k) (h1:k≤274877906944):Calls Tryd.prog 14 #[v,.int .i64 k] w fun e w'=>e=.returned (.int .i64 (k+3 * x.pre.facts.length+3 * x.pre.atoms.length+3 * x.post.facts.length+3 * x.post.atoms.length+x.changes.length))∧CtrI w' lo hi v (markCtr k x)∧Mk (fun g=>lo≤g∧g<hi) w w':=by
 have L:=h.len
 obtain ⟨a1,a2,a3,a4,iv,l1,u1,l2,u2,rfl,p1,p2,p3,q⟩:=h
 have ni1:=p1.ne_ints p3.1
 have ni2:=p2.ne_ints p3.1
 have w1:=p1.own
 have w2:=p2.own
 have w3:∀ g,iv.ownBlock=some g→lo≤g∧g<hi:=fun g hg=>⟨(p3.1.1.lt g hg).1,p3.2 g hg⟩
 replace p1:=p1.below (w':=w.alloc (.cells #[a1,a2,a3,a4,iv] 34)) bel
 replace p2:=p2.below (w':=w.alloc (.cells #[a1,a2,a3,a4,iv] 34)) bel
 replace p3:=p3.below (w':=w.alloc (.cells #[a1,a2,a3,a4,iv] 34)) bel
 go_enter Tryd.func14,Tryd.ntmps14
 go_wp2_with fail
 refine (m_asn2 _ _ x.pre k l1 u1 _ p1 h0 (by omega)).mono ?_
 rintro e v1 ⟨rfl,p1m,hM1⟩
 have k0:=hM1.blk (Blk.new w _ _) (fun e=>by have:=w1 _ e;omega)
 replace p2:=p2.mk2 hM1 (fun g e1 e2=>by have:=w2 g e1;have:=w1 g e2;omega)
 replace p3:IntsI v1 lo hi iv x.changes:=⟨p3.1.mk hM1 (fun g e1 e2=>ni1 g e2 e1),p3.2⟩
 have hM:Mk (fun g=>lo≤g∧g<hi) w v1:=(Mk.below_ (p:=fun g=>lo≤g∧g<hi) (w:=w) bel).trans (hM1.mono fun g e=>by have:=w1 g e;omega)
 clear hM1
 have q0:=k0.cell
 go_wp2_with fail
 refine (m_asn2 _ _ x.post _ l2 u2 _ p2 (by omega) (by omega)).mono ?_
 rintro e v2 ⟨rfl,p2m,hM2⟩
 replace k0:=hM2.blk k0 (fun e=>by have:=w2 _ e;omega)
 replace p1m:=p1m.mk2 hM2 (fun g e1 e2=>by have:=w1 g e1;have:=w2 g e2;omega)
 replace p3:IntsI v2 lo hi iv x.changes:=⟨p3.1.mk hM2 (fun g e1 e2=>ni2 g e2 e1),p3.2⟩
 replace hM:=hM.trans (hM2.mono fun g e=>by have:=w2 g e;omega)
 clear hM2 q0
 have q0:=k0.cell
 go_wp2_with fail
 refine (c_markIntS _ x.changes _ lo _ p3.1 (by omega) (by omega)).mono ?_
 rintro e v3 ⟨rfl,p3m,hM3⟩
 replace p1m:=p1m.mk2 hM3 (fun g e1 e2=>ni1 g e1 e2)
 replace p2m:=p2m.mk2 hM3 (fun g e1 e2=>ni2 g e1 e2)
 replace hM:=hM.trans (hM3.mono fun g e=>w3 g e)
 have hz:=hM.size
 have p3u:=p3.2
 go_wp2_with fail
 go_ret
 exact ⟨rfl,⟨_,_,_,_,_,l1,u1,l2,u2,rfl,p1m,p2m,⟨p3m,p3u⟩,by omega⟩,hM⟩
set_option maxHeartbeats 800000 in
theorem h_ctr {lo hi:Nat} {A B E F G:Option Addr} {c d e f g:Nat} (x:Ctr) (k:Int) (w:World) (h:CtrI w lo hi (.agg #[.slice A x.pre.facts.length c,.slice B x.pre.atoms.length d,.slice E x.post.facts.length e,.slice F x.post.atoms.length f,.slice G x.changes.length g]) (markCtr k x)) (h0:0≤k) (hk:k≤274877906944) :
  Calls Tryd.prog 15 #[.agg #[.slice A x.pre.facts.length c,.slice B x.pre.atoms.length d,.slice E x.post.facts.length e,.slice F x.post.atoms.length f,.slice G x.changes.length g],.int .i64 k] w fun e w'=>e=.returned (.int .i64 (k+3 * x.pre.facts.length+3 * x.pre.atoms.length+3 * x.post.facts.length+3 * x.post.atoms.length+x.changes.length))∧Below w.heap.size w w':=by
 have L:=h.len
 simp only[markCtr,markAs,markF_length,markA_length,iota_length] at L
 obtain ⟨a1,a2,a3,a4,iv,l1,u1,l2,u2,e1,p1,p2,p3,q⟩:=h
 simp only[Value.agg.injEq,Array.mk.injEq,List.cons.injEq,and_true] at e1
 obtain ⟨rfl,rfl,rfl,rfl,rfl⟩:=e1
 go_enter Tryd.func15,Tryd.ntmps15
 have k0:=Blk.new w 34 #[.slice A x.pre.facts.length c,.slice B x.pre.atoms.length d,.slice E x.post.facts.length e,.slice F x.post.atoms.length f,.slice G x.changes.length g]
 go_wp2_with fail
 refine (h_asn A B x.pre c d k _ (p1.below bel) h0 (by omega)).mono ?_
 rintro e w1 ⟨rfl,hB1⟩
 have hB:=bgo (w:=w) bel hB1
 replace k0:=k0.next hB1
 have q0:=k0.cell
 clear hB1
 go_wp2_with fail
 refine (h_asn E F x.post _ _ _ _ (p2.below hB) (by omega) (by omega)).mono ?_
 rintro e w2 ⟨rfl,hB2⟩
 replace hB:=bgo hB hB2
 replace k0:=k0.next hB2
 clear hB2 q0
 have q0:=k0.cell
 go_wp2_with fail
 refine (h_ints G x.changes _ _ _ (p3.below hB) (by omega) (by omega)).mono ?_
 rintro e w3 ⟨rfl,hB3⟩
 replace hB:=bgo hB hB3
 go_wp2_with fail
 go_ret
 exact ⟨rfl,hB⟩
end Go.Proofs.YtjaohekkmlkinaaDoor
