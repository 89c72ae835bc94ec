/- Contracts: fields of commands compared (impl.sameFields). -/
import Derived.Test.YtjbboklnegfohaaGreatDoorSame
import Derived.Test.YtjbboklnegfohaaGreatDoorMPrgM
import Derived.Deep.DeepCutAuto
import Derived.Test.YtjbboklnegfohaaGreatDoorMPsM
import Derived.Test.YtjbboklnegfohaaGreatDoorMFmtP
import Derived.Test.YtjbboklnegfohaaGreatDoorMRange
import Derived.Test.YtjbboklnegfohaaGreatDoorMRepl
import Derived.Test.YtjbboklnegfohaaGreatDoorMPgD
import Derived.Test.YtjbboklnegfohaaGreatDoorMPgP
import Derived.Test.YtjbboklnegfohaaGreatDoorMPrsQ
import Derived.Test.YtjbboklnegfohaaGreatDoorMCmdV
set_option linter.unusedSimpArgs false
set_option linter.unusedVariables false
namespace Go.Proofs.YtjbboklnegfohaaGreatDoor
open Go Go.RowKit Go.Proofs
set_option maxRecDepth 100000 in
set_option maxHeartbeats 12800000 in
theorem c_sameFields {lo hi lo' hi':Nat} (k a b:Int) (t:Fct) (i:Asn) (A6 A7 A8 A9 B6 B7 B8 B9:Option Addr) (c6 c7 n8 c8 n9 c9 d6 d7 m8 d8 m9 d9:Nat) (w:World)
  (h:AsnV w lo hi (.agg #[.slice A6 i.facts.length c6,.slice A7 i.atoms.length c7]) i) (h':AsnV w lo' hi' (.agg #[.slice B6 i.facts.length d6,.slice B7 i.atoms.length d7]) i) :
  Calls Tryz.prog 20 #[.agg #[.int .i64 k,.int .i64 a,.int .i64 b,.bool t.eq,.int .i64 t.a,.int .i64 t.b,.slice A6 i.facts.length c6,.slice A7 i.atoms.length c7,.slice A8 n8 c8,.slice A9 n9 c9],.agg #[.int .i64 k,.int .i64 a,.int .i64 b,.bool t.eq,.int .i64 t.a,.int .i64 t.b,.slice B6 i.facts.length d6,.slice B7 i.atoms.length d7,.slice B8 m8 d8,.slice B9 m9 d9]] w fun e w'=>
   e=.returned (.bool true)∧Below w.heap.size w w':=by
 have CS:=Lib.hid fun W hb=>c_impl_Same _ _ i i W (h.below (w':=W) hb) (h'.below (w':=W) hb)
 clear h h'
 go_enter Tryz.func20,Tryz.ntmps20
 go_upto_region 1 with fail
 refine bx2 (w:=w) (F:=Code.wp _ _ _ _) ?_
 rintro W k0 k1 hB -
 have HB:=Lib.hid hB
 have q0:=k0.cell
 have q1:=k1.cell
 clear hB
 go_wp2_with fail
 refine (CS.out W HB.out).mono ?_
 rintro e w1 ⟨rfl,hB1⟩
 have hd:decide (i=i)=true:=by simp
 go_wp2_with fail
 go_ret
 exact ⟨by simp,bgo HB.out hB1⟩
end Go.Proofs.YtjbboklnegfohaaGreatDoor

/- Contracts: equality of programs (impl.ProgramSame), where both are the same and one is our own. -/
namespace Go.Proofs.YtjbboklnegfohaaGreatDoor
open Go Go.RowKit Go.Proofs
def Cms.wt:Cms→Nat
 | .nil=>1
 | .cons _ _ _ _ _ body els r=>body.wt+els.wt+r.wt
theorem Cms.wt_pos:∀ L:Cms,1≤L.wt
 | .nil=>Nat.le_refl _
 | .cons _ _ _ _ _ body els r=>by have:=Cms.wt_pos r;simp only[Cms.wt];omega
theorem Cms.wt_sz:∀ L:Cms,L.wt≤2 * L.sz+1
 | .nil=>by simp[Cms.wt]
 | .cons _ _ _ _ _ body els r=>by
  have h1:=Cms.wt_sz body
  have h2:=Cms.wt_sz els
  have h3:=Cms.wt_sz r
  simp only[Cms.wt,Cms.sz];omega
structure Ent where
 lo:Nat
 hi:Nat
 L:Cms
 A:Option Addr
 c:Nat
 B:Option Addr
 d:Nat
def entCs (es:List Ent):List Value:=es.flatMap fun e=>[.slice e.A e.L.len e.c,.slice e.B e.L.len e.d]
def entWt (es:List Ent):Nat:=(es.map fun e=>e.L.wt).sum
theorem entCs_len (es:List Ent):(entCs es).length=es.length * 2:=by
 induction es with
 | nil=>rfl
 | cons e es ih=>simp only[entCs,List.flatMap_cons,List.length_append,List.length_cons,List.length_nil] at ih ⊢;omega
theorem entWt_len (es:List Ent):es.length≤entWt es:=by
 induction es with
 | nil=>simp
 | cons e es ih=>have:=Cms.wt_pos e.L;simp only[entWt,List.map_cons,List.sum_cons,List.length_cons] at ih ⊢;omega
theorem entCs_app (es fs:List Ent):entCs (es++fs)=entCs es++entCs fs:=by simp[entCs]
theorem entWt_app (es fs:List Ent):entWt (es++fs)=entWt es+entWt fs:=by simp[entWt]
theorem own_pop {w:World} {base n size:Nat} {e:TypeId} {v:Value} {xs:List Value} (h:w.ownsRow base e size v (n+1) xs):∃ g c,v=.slice (some ⟨g,0,none⟩) (n+1) c∧w.ownsRow base e size (.slice (some ⟨g,0,none⟩) n c) n (xs.take (n * size))∧(∀ j u,xs[j]? = some u→w.cell? ⟨g,j,none⟩=some u)∧n+1≤c∧c≤maxLen:=by
 obtain ⟨hl,h2⟩:=h
 rcases h2 with ⟨-,e⟩|⟨g,cap,cur,rfl,hb,hg,hn,hm,hs,ht⟩
 ·omega
 ·refine ⟨g,cap,rfl,⟨by rw[List.length_take,hl,Nat.add_mul];omega,Or.inr ⟨g,cap,cur,rfl,hb,hg,by omega,hm,hs,?_⟩⟩,fun j u hu=>?_,hn,hm⟩
  ·rw[←ht,List.take_take,Nat.min_eq_left (by rw[Nat.add_mul];omega)]
  ·rw[cell_of_row w g j cur e (0,0) hg]
   rw[←ht,List.getElem?_take] at hu
   split at hu
   ·simpa using hu
   ·cases hu
abbrev tBP:TypeId:=40
def EntOk (w0:World) (e:Ent):Prop:=QR w0 e.lo e.hi (.slice e.A e.L.len e.c) e.L∧CmsV w0 0 w0.heap.size e.B e.L
def StkOk (w0:World) (es:List Ent) (K:List Nat):Prop:=(∀ e∈es,EntOk w0 e)∧es.Pairwise (fun e f=>e.hi≤f.lo∨f.hi≤e.lo)∧∀ k∈K,∀ e∈es,k<e.lo∨e.hi≤k
theorem infoBP:(Tryz.prog.info? tBP).map (fun i=>(i.zero,i.size,i.bytes))=some (some (.agg #[.slice none 0 0,.slice none 0 0]),2,48):=by kernel_rfl
theorem MapOk.ne {w0 w:World} {r g:Nat} {K:List Nat} (h:MapOk w0 w r K) {t:TypeId} {cs:Array Value} (hk:Blk w g t cs):r≠g:=by
 rintro rfl
 obtain ⟨es,c,h1,-⟩:=h
 unfold Blk at hk
 rw[h1] at hk
 cases hk
theorem MapOk.lt {w0 w:World} {r:Nat} {K:List Nat} (h:MapOk w0 w r K):r<w.heap.size:=by
 obtain ⟨es,c,h1,-⟩:=h
 exact (Array.getElem?_eq_some_iff.1 h1).1
theorem MapOk.go {w0 w w':World} {r:Nat} {K:List Nat} (h:MapOk w0 w r K) (hb:Below w.heap.size w w'):MapOk w0 w' r K:=h.keep (hb.block r h.lt)
theorem StkOk.pop {w:World} {fs:List Ent} {e:Ent} {K:List Nat} (h:StkOk w (fs++[e]) K):StkOk w fs K∧EntOk w e∧(∀ f∈fs,f.hi≤e.lo∨e.hi≤f.lo)∧(∀ k∈K,k<e.lo∨e.hi≤k):=by
 obtain ⟨h1,h2,h3⟩:=h
 rw[List.pairwise_append] at h2
 exact ⟨⟨fun x hx=>h1 x (List.mem_append_left _ hx),h2.1,fun k hk x hx=>h3 k hk x (List.mem_append_left _ hx)⟩,h1 e (by simp),fun f hf=>h2.2.2 f hf e (by simp),fun k hk=>h3 k hk e (by simp)⟩
theorem StkOk.push {w:World} {es:List Ent} {K:List Nat} {e1 e2:Ent} (h:StkOk w es K) (h1:EntOk w e1) (h2:EntOk w e2) (hp:∀ f∈es,(f.hi≤e1.lo∨e1.hi≤f.lo)∧(f.hi≤e2.lo∨e2.hi≤f.lo)) (h12:e1.hi≤e2.lo∨e2.hi≤e1.lo) (hk:∀ k∈K,(k<e1.lo∨e1.hi≤k)∧(k<e2.lo∨e2.hi≤k)):StkOk w (es++[e1,e2]) K:=by
 obtain ⟨q1,q2,q3⟩:=h
 refine ⟨fun e he=>?_,?_,fun k hK e he=>?_⟩
 ·simp only[List.mem_append,List.mem_cons,List.not_mem_nil,or_false] at he
  rcases he with he|rfl|rfl
  ·exact q1 e he
  ·exact h1
  ·exact h2
 ·rw[List.pairwise_append]
  refine ⟨q2,?_,fun f hf e he=>?_⟩
  ·rw[List.pairwise_cons]
   exact ⟨fun e he=>by rw[List.mem_singleton] at he;subst he;exact h12,List.pairwise_singleton _ _⟩
  ·simp only[List.mem_cons,List.not_mem_nil,or_false] at he
   rcases he with rfl|rfl
   ·exact (hp f hf).1
   ·exact (hp f hf).2
 ·simp only[List.mem_append,List.mem_cons,List.not_mem_nil,or_false] at he
  rcases he with he|rfl|rfl
  ·exact q3 k hK e he
  ·exact (hk k hK).1
  ·exact (hk k hK).2
theorem own_ne {w:World} {base n size x:Nat} {e:TypeId} {v:Value} {xs:List Value} (h:w.ownsRow base e size v n xs) (hx:x=w.heap.size):∀ g,v.ownBlock=some g→g≠x:=fun g hg=>by have:=(h.lt g hg).2;omega
theorem own_map {w0 w:World} {r base n size:Nat} {e:TypeId} {v:Value} {xs:List Value} {K:List Nat} (h:w.ownsRow base e size v n xs) (hM:MapOk w0 w r K):∀ g,v.ownBlock=some g→g≠r:=by
 intro g hg
 obtain ⟨-,h2⟩:=h
 rcases h2 with ⟨rfl,-⟩|⟨g',cap,cur,rfl,hb,hg',-⟩
 ·simp[Value.ownBlock] at hg
 ·simp only[Value.ownBlock,if_true,Option.some.injEq] at hg
  subst hg
  exact (hM.ne (show Blk w g' e cur from hg')).symm
theorem stepBP {o:Oper} {a:Act} {K:Act→World→Prop} {Q:Exit→Act→World→Prop} {w:World} (s x:Operand) (ho:o.op=.call { callee:=.builtin .append,args:=#[s,x],argTypes:=#[41,41] })
  {base n:Nat} {v:Value} {xs:List Value} (hs:a.eval s=v) (hown:w.ownsRow base tBP 2 v n xs) {g0 c:Nat} (A1 A2 A3 A4:Option Addr) (n1 n2 n3 n4 c1 c2 c3 c4:Nat) (hx:a.eval x=.slice (some ⟨g0,0,none⟩) 2 c) (hk:Blk w g0 tBP #[.slice A1 n1 c1,.slice A2 n2 c2,.slice A3 n3 c3,.slice A4 n4 c4])
  (hn:n+2≤1049600) (hb:base≤w.heap.size)
  (h:∀ v' w',w'.ownsRow base tBP 2 v' (n+2) (xs++[.slice A1 n1 c1,.slice A2 n2 c2,.slice A3 n3 c3,.slice A4 n4 c4])→w.grownBy w' v.ownBlock→Below base w w'→(v'.ownBlock=v.ownBlock∨v'.ownBlock=some w.heap.size)→K (a.put o.dst v') w'):Oper.wp Tryz.prog o a w K Q:=by
 have hadd:∀ j,(⟨g0,0,none⟩:Addr).add j=⟨g0,j,none⟩:=fun j=>by unfold Addr.add;split<;>simp_all
 refine wp_appX (news:=[.slice A1 n1 c1,.slice A2 n2 c2,.slice A3 n3 c3,.slice A4 n4 c4]) s x 41 ho Tryz.underlying41 infoBP rfl (by decide) (by decide) hs hown hx rfl (fun j u hu=>?_) (fun u hu=>?_) hn hb fun v' w' q1 q2 q3 q4=>h v' w' q1 q2 q3 q4
 ·rw[hadd,hk.cell];simpa using hu
 ·simp only[List.mem_cons,List.not_mem_nil,or_false] at hu
  rcases hu with rfl|rfl|rfl|rfl<;>rfl
set_option maxRecDepth 100000 in
set_option maxHeartbeats 12800000 in
theorem c_ProgramSame {lo hi:Nat} (L:Cms) (A B:Option Addr) (c d:Nat) (w:World) (hA:QR w lo hi (.slice A L.len c) L) (hB:CmsV w 0 w.heap.size B L) (hz:L.sz≤400000) :
  Calls Tryz.prog 10 #[.slice A L.len c,.slice B L.len d] w fun e w'=>e=.returned (.bool true)∧Below w.heap.size w w':=by
 have hwt:=Cms.wt_sz L
 have S0:StkOk w [⟨lo,hi,L,A,c,B,d⟩] []:=⟨fun e he=>by rw[List.mem_singleton] at he;subst he;exact ⟨hA,hB⟩,List.pairwise_singleton _ _,fun k hk=>by cases hk⟩
 replace S0:=Lib.hid S0
 clear hA hB
 have hmm:=@run_makeMap Tryz.prog
 go_enter Tryz.func10,Tryz.ntmps10
 go_wp2_with fail
 obtain ⟨r,hr⟩:∃ r,r=w.heap.size+1:=⟨_,rfl⟩
 have hK:=Blk.new w tBP #[.slice A L.len c,.slice B L.len d]
 rw[←hr]
 replace hr:=Lib.hid hr
 go_loopg [5] L.wt (fun gh s5 wr=>∃ (es:List Ent) (K:List Nat),Hid (wr.ownsRow w.heap.size tBP 2 s5 es.length (entCs es))∧Hid (StkOk w es K)∧Hid (MapOk w wr r K)∧entWt es≤gh∧entWt es≤L.wt∧Hid (Below w.heap.size w wr))
 case atStart=>
  refine ⟨[⟨lo,hi,L,A,c,B,d⟩],[],Lib.hid ?_,S0,Lib.hid ⟨#[],0,?_,fun e he=>by simp at he⟩,by simp[entWt],by simp[entWt],Lib.hid ?_⟩
  ·exact own_of_blk (hK.alloc _) (Nat.le_refl _) (by simp[entCs]) (fun j hj=>by simp[entCs]) (Nat.le_refl _) (by decide) (by simp)
  ·rw[hr.out];have:=heap_alloc_new (w.alloc (.cells #[.slice A L.len c,.slice B L.len d] tBP)) (Obj.map #[] 0);simpa using this
  ·exact ((Below.refl _ _).alloc (Nat.le_refl _) _).alloc (by simp) _
 case round=>
  clear hK S0 hmm
  obtain ⟨es,K,hO,hS,hM,hg,hgL,HB⟩:=hrel
  have hzw:=HB.out.size
  rcases List.eq_nil_or_concat es with h|⟨fs,e,h⟩
  ·subst h
   obtain ⟨hl,h2⟩:=hO.out
   rcases h2 with ⟨rfl,-⟩|⟨g,cap,cur,rfl,-⟩
   ·clear hO hl
    go_wp2_with fail
    go_ret
    exact ⟨rfl,HB.out⟩
   ·clear hO hl
    simp only[List.length_nil]
    go_wp2_with fail
    go_ret
    exact ⟨rfl,HB.out⟩
  ·rw[List.concat_eq_append] at h
   subst h
   obtain ⟨elo,ehi,eL,eA,ec,eB,ed⟩:=e
   have hln:=entWt_len (fs++[⟨elo,ehi,eL,eA,ec,eB,ed⟩])
   rw[List.length_append,List.length_singleton] at hln
   have hO':=hO.out
   rw[List.length_append,List.length_singleton] at hO'
   obtain ⟨g,cp,rfl,hO1,hcl,hcap,hmx⟩:=own_pop hO'
   have c0:=hcl (fs.length * 2) (.slice eA eL.len ec) (by rw[entCs_app,List.getElem?_append_right (by rw[entCs_len];omega),entCs_len,Nat.sub_self];rfl)
   have c1:=hcl (fs.length * 2+1) (.slice eB eL.len ed) (by rw[entCs_app,List.getElem?_append_right (by rw[entCs_len];omega),entCs_len,Nat.add_sub_cancel_left];rfl)
   have hO2:wr.ownsRow w.heap.size tBP 2 (.slice (some ⟨g,0,none⟩) fs.length cp) fs.length (entCs fs):=by
    rw[entCs_app,List.take_append_of_le_length (by rw[entCs_len];omega),List.take_of_length_le (by rw[entCs_len];omega)] at hO1
    exact hO1
   obtain ⟨hS1,hE,hD,hKe⟩:=hS.out.pop
   have hn1:((fs.length+1:Nat):Int) - 1=(fs.length:Int):=by omega
   have hwe:=Cms.wt_pos eL
   rw[entWt_app] at hg hgL
   have hw1:entWt [⟨elo,ehi,eL,eA,ec,eB,ed⟩]=eL.wt:=by simp[entWt]
   rw[hw1] at hg hgL
   have hfl:fs.length+1≤800001:=by rw[entWt_app,hw1] at hln;omega
   have hcpm:cp≤9223372036854775807:=hmx
   replace hO2:=Lib.hid hO2
   replace hS1:=Lib.hid hS1
   replace hE:=Lib.hid hE
   replace hD:=Lib.hid hD
   replace hKe:=Lib.hid hKe
   clear hO' hcl hO1 hO hS hw1
   go_upto_region 5 with fail
   refine bx1 (w:=wr) (F:=Code.wp _ _ _ _) ?_
   rintro w1 kb hB1 hz1
   replace hz1:wr.heap.size<w1.heap.size:=by omega
   obtain ⟨y,hy⟩:∃ y,y=wr.heap.size:=⟨_,rfl⟩
   rw[←hy] at kb ⊢
   replace HB:=Lib.hid (bgo HB.out hB1)
   replace hM:=Lib.hid (hM.out.go hB1)
   have hO9:=hO2
   replace hO2:=Lib.hid (own_below hO2.out hB1)
   have hwy:w.heap.size≤y:=by omega
   have hyl:y<w1.heap.size:=by omega
   have hgy:g<y:=by have:=(hO9.out.lt g (by simp[Value.ownBlock])).2;omega
   clear hB1 c0 c1 hy hO9
   have qb:=kb.cell
   have hfc:(fs.length:Int)≤cp:=by omega
   go_upto_region 6 with fail
   by_cases h0:eL.len=0
   ·have e0:eL=.nil:=by
     cases eL with
     | nil=>rfl
     | cons=>simp[Cms.len] at h0
    subst e0
    simp only[Cms.len] at kb qb
    clear h0 hE
    go_wp2_with fail
    go_roundg (gk - 1)
    case rel=>exact ⟨fs,K,hO2,hS1,hM,by omega,by omega,HB⟩
    case measure=>omega
   ·have hpos:0<eL.len:=by omega
    obtain ⟨⟨cs,⟨hcl,hrow⟩,hU,hlim,hQ⟩,hEB⟩:=hE.out
    rcases hrow with ⟨-,e0⟩|⟨ga,cap,cur,e1,hga,hgA,hgn,hgm,hgs,hgt⟩
    ·simp only at e0;omega
    injection e1 with e1 e2 e3
    subst e1 e3
    have hgU:=hU ga (by simp[Value.ownBlock])
    have hkk:(Value.slice (some ⟨ga,0,none⟩) eL.len ec).ownBlock.getD 0=ga:=by simp[Value.ownBlock]
    simp only at hga hgU hQ
    rw[hkk] at hQ
    obtain ⟨gb,ob,e1,-,-,hBt⟩:=hEB hpos
    simp only at e1 hlim hBt
    subst e1
    have hPl:Pl w ga:=⟨cur,tC,hgA⟩
    have hKA:ga∉K:=fun hk=>by have:=hKe.out ga hk;simp only at this;omega
    have hKB:Blk w ga tC cur:=hgA
    have hPre:Pre cur cs (eL.len * 10):=by
     intro j hj
     rw[←hgt,List.getElem?_take,if_pos hj];simp
    replace hPl:=Lib.hid hPl
    replace hKA:=Lib.hid hKA
    replace hKB:=Lib.hid hKB
    replace hPre:=Lib.hid hPre
    replace hQ:=Lib.hid hQ
    replace hBt:=Lib.hid hBt
    replace hcl:=Lib.hid hcl
    replace hgs:=Lib.hid hgs
    clear hE hEB hU hgt hgA hkk e2
    go_upto_region 9 with fail
    refine wp_region_noPanic ?_
    refine wp_region_held_drew (S:=(fun w'=>∀ j:Nat,w'.cell? ⟨y,j,none⟩=#[.slice (some ⟨ga,0,none⟩) eL.len ec,.slice (some ⟨gb,ob,none⟩) eL.len ed][j]?)) (by kernel_rfl) (kb.drew.cell) (fun hHeld=>?_)
    refine tk 0 ?_ rfl (fun w hSw=>?_) hHeld ?_
    rotate_left
    ·((try dsimp only at hSw);go_split_ands;go_simp;(try with_reducible rfl))
    try simp only[Act.put,zA,zB,zC,zD,zE,zF]
    refine tk 1 ?_ rfl (fun w hSw=>?_) hHeld ?_
    rotate_left
    ·((try dsimp only at hSw);go_split_ands;go_simp;(try with_reducible rfl))
    try simp only[Act.put,zA,zB,zC,zD,zE,zF]
    refine tk 2 ?_ rfl (fun w hSw=>?_) hHeld ?_
    rotate_left
    ·((try dsimp only at hSw);go_split_ands;go_simp;(try with_reducible rfl))
    try simp only[Act.put,zA,zB,zC,zD,zE,zF]
    refine tk 3 ?_ rfl (fun w hSw=>?_) hHeld ?_
    rotate_left
    ·((try dsimp only at hSw);go_split_ands;go_simp;(try with_reducible rfl))
    try simp only[Act.put,zA,zB,zC,zD,zE,zF]
    refine tk 4 ?_ rfl (fun w hSw=>?_) hHeld ?_
    rotate_left
    ·((try dsimp only at hSw);go_split_ands;go_simp;(try with_reducible rfl))
    try simp only[Act.put,zA,zB,zC,zD,zE,zF]
    refine tk 5 ?_ rfl (fun w hSw=>?_) hHeld ?_
    rotate_left
    ·((try dsimp only at hSw);go_split_ands;go_simp;(try with_reducible rfl))
    try simp only[Act.put,zA,zB,zC,zD,zE,zF]
    refine tk 6 ?_ rfl (fun w hSw=>?_) hHeld ?_
    rotate_left
    ·((try dsimp only at hSw);go_split_ands;go_simp;(try with_reducible rfl))
    try simp only[Act.put,zA,zB,zC,zD,zE,zF]
    refine tk 7 ?_ rfl (fun w hSw=>?_) hHeld ?_
    rotate_left
    ·((try dsimp only at hSw);go_split_ands;go_simp;(try with_reducible rfl))
    try simp only[Act.put,zA,zB,zC,zD,zE,zF]
    refine tk 8 ?_ rfl (fun w hSw=>?_) hHeld ?_
    rotate_left
    ·((try dsimp only at hSw);go_split_ands;go_simp;(try with_reducible rfl))
    try simp only[Act.put,zA,zB,zC,zD,zE,zF]
    refine tk 9 ?_ rfl (fun w hSw=>?_) hHeld ?_
    rotate_left
    ·((try dsimp only at hSw);go_split_ands;go_simp;(try with_reducible rfl))
    try simp only[Act.put,zA,zB,zC,zD,zE,zF]
    refine rdc 10 rfl fun K hK=>?_
    try simp only[zA,zB,zC]
    (go_simp)
    refine hK.out _ _ ((kb.drew.alloc _).cell) ?_
    clear hHeld hK K
    intro hHeld
    try simp only[Act.put,zA,zB,zC,zD,zE,zF]
    refine rdc 11 rfl fun K hK=>?_
    try simp only[zA,zB,zC]
    (go_simp)
    refine hK.out _ _ ((kb.drew.alloc _).cell) ?_
    clear hHeld hK K
    intro hHeld
    try simp only[Act.put,zA,zB,zC,zD,zE,zF]
    refine wpAnyH_done (by kernel_rfl) ?_ _
    refine NoPanic.normal ?_
    have kq:=(Blk.new w1 tPK #[.pointer (some ⟨ga,0,none⟩),.pointer (some ⟨gb,ob,none⟩),.int .i64 eL.len]).drew
    have hBd:Below w1.heap.size w1 (w1.alloc (.cells #[.pointer (some ⟨ga,0,none⟩),.pointer (some ⟨gb,ob,none⟩),.int .i64 eL.len] tPK)).drew:=(bbox (Below.refl _ _) _).drew
    have hzd:w1.heap.size<(w1.alloc (.cells #[.pointer (some ⟨ga,0,none⟩),.pointer (some ⟨gb,ob,none⟩),.int .i64 eL.len] tPK)).drew.heap.size:=by simp
    generalize (w1.alloc (.cells #[.pointer (some ⟨ga,0,none⟩),.pointer (some ⟨gb,ob,none⟩),.int .i64 eL.len] tPK)).drew=W1 at kq hBd hzd ⊢
    obtain ⟨z,hzz⟩:∃ z,z=w1.heap.size:=⟨_,rfl⟩
    rw[←hzz] at kq ⊢
    have hyz:y<z:=by omega
    have hzW:z<W1.heap.size:=by omega
    replace HB:=Lib.hid (bgo HB.out hBd)
    replace hM:=Lib.hid (hM.out.go hBd)
    replace hO2:=Lib.hid (own_below hO2.out hBd)
    replace kb:=kb.next hBd
    clear hBd hzd hzz
    replace qb:=kb.cell
    have qq:=kq.cell
    have hlook:=hM.out.look (q:=⟨gb,ob,none⟩) (n:=eL.len) HB.out hPl.out hKA.out
    obtain ⟨w2,hput,hM2,hF2⟩:=hM.out.put (q:=⟨gb,ob,none⟩) (n:=eL.len) HB.out hPl.out hKA.out
    simp only[pk] at hlook hput
    go_upto_region 12 with fail
    have hrw:w.heap.size≤r:=by have:=hr.out;omega
    have hry:=hM.out.ne kb
    have hO3:=Lib.hid (own_kp hO2.out fun g hg hl=>hF2.block g hl (own_map hO2.out hM.out g hg))
    replace kb:=kb.fr hF2 (fun h=>hry h.symm)
    replace HB:=Lib.hid (HB.out.trans (hF2.below hrw (by omega)))
    replace hM2:=Lib.hid hM2
    have hz2:=hF2.size
    replace qb:=kb.cell
    have hS3:Hid (StkOk w fs (ga :: K)):=Lib.hid ⟨hS1.out.1,hS1.out.2.1,fun k hk f hf=>by
     rcases List.mem_cons.1 hk with rfl|hk
     ·have:=hD.out f hf
      simp only at this
      omega
     ·exact hS1.out.2.2 k hk f hf⟩
    have hQl:=hQ.out.le
    clear hlook hput hF2 qq kq hM hO2 hS1 hry
    go_wp2_with fail
    obtain ⟨gk0,hgk0⟩:∃ z,z=gk:=⟨_,rfl⟩
    have hKe9:=hKe
    go_loopw [5,60] (fun s5 s60 wi=>∃ (j mid:Nat) (ps:List Ent) (done todo:List Value),j≤eL.len∧s60=.int .i64 j∧Hid (wi.ownsRow w.heap.size tBP 2 s5 (fs++ps).length (entCs (fs++ps)))∧Hid (StkOk w (fs++ps) (ga :: K))∧Hid (∀ e∈ps,elo≤e.lo∧e.hi≤mid)∧Hid (QT w (eL.drop j) todo ga mid ehi)∧Hid (cs=done++todo)∧done.length=j * 10∧Hid (CmsAt w 0 w.heap.size (eL.drop j) gb (ob+j * 10))∧entWt (fs++ps)+(eL.drop j).wt=entWt fs+eL.wt∧Hid (MapOk w wi r (ga :: K))∧Blk wi y tBP #[.slice (some ⟨ga,0,none⟩) eL.len ec,.slice (some ⟨gb,ob,none⟩) eL.len ed]∧Hid (Below w.heap.size w wi)∧elo≤mid∧Hid (∀ g',s5.ownBlock=some g'→g'≠y)) (fun _ s60 _=>eL.len - (intOf s60).toNat)
    case atStart=>exact ⟨0,elo,[],[],cs,Nat.zero_le _,rfl,Lib.hid (by rw[List.append_nil];exact hO3.out),Lib.hid (by rw[List.append_nil];exact hS3.out),Lib.hid (fun e he=>by cases he),Lib.hid (by simpa[Cms.drop] using hQ.out),Lib.hid rfl,rfl,Lib.hid (by simpa[Cms.drop] using hBt.out),by rw[List.append_nil];rfl,hM2,kb,HB,Nat.le_refl _,Lib.hid (fun g' h=>by simp[Value.ownBlock] at h;omega)⟩
    case round=>
     clear kb qb HB hO3 hS3 hM2 hQ hBt hQl
     obtain ⟨j,mid,ps,done,todo,hj,rfl,hO,hS,hps,hQ,hcs,hdl,hBt,hwt2,hM,kb,HB,hmid,hne⟩:=hrel
     by_cases hlt:j<eL.len
     ·have hposj:0<(eL.drop j).len:=by rw[Cms.drop_len];omega
      obtain ⟨k,a,b,t,i,body,els,R,eq⟩:=Cms.cons_of_len hposj
      have hQ':=hQ.out
      have hB':=hBt.out.below HB.out
      have hB0:=hBt.out
      have hDs:=Cms.drop_succ j eL eq
      rw[eq] at hQ' hB' hB0 hwt2
      obtain ⟨l0,vF,vA,vB,vE,m1,m2,m3,rest,csB,csE,et,ho,hI,xB,xE,xr⟩:=hQ'
      obtain ⟨fv,av,ef,xF,xA⟩:=hI
      injection ef with ef;injection ef with ef;injection ef with ef ea;injection ea with ea
      subst ef ea
      obtain ⟨AF,cF,rfl⟩:=xF.form
      obtain ⟨AA,cA,rfl⟩:=xA.form
      have hI:AsnI w l0 m1 (.agg #[.slice AF i.facts.length cF,.slice AA i.atoms.length cA]) i:=⟨_,_,rfl,xF,xA⟩
      have hIl:=hI.len
      have hIr:=Lib.hid hI.reads
      have xB:QR w m1 m2 vB body:=⟨csB,xB⟩
      have xE:QR w m2 m3 vE els:=⟨csE,xE⟩
      obtain ⟨AB,cB,rfl,-⟩:=xB.reads
      obtain ⟨AE,cE,rfl,-⟩:=xE.reads
      obtain ⟨o1,o2,o3,o4,o5⟩:=ho
      have i3:m3≤ehi:=xr.le
      have kA:Blk wr ga tC cur:=hKB.out.below HB.out hKB.out.lt
      have hcA:∀ x u,(tenL k a b t (.slice AF i.facts.length cF) (.slice AA i.atoms.length cA) (.slice AB body.len cB) (.slice AE els.len cE))[x]? = some u→wr.cell? ⟨ga,j * 10+x,none⟩=some u:=by
       intro x u hx
       have hx10:x<10:=by
        have:=(List.getElem?_eq_some_iff.mp hx).1
        simpa[tenL] using this
       rw[kA.cell,hPre.out _ (by omega),hcs.out,et,List.getElem?_append_right (by omega),show j * 10+x - done.length=x by omega,List.getElem?_append_left (by simpa[tenL] using hx10)]
       exact hx
      have a0:wr.cell? ⟨ga,j * 10,none⟩=some (.int .i64 k):=hcA 0 _ rfl
      have a1:wr.cell? ⟨ga,j * 10+1,none⟩=some (.int .i64 a):=hcA 1 _ rfl
      have a2:wr.cell? ⟨ga,j * 10+2,none⟩=some (.int .i64 b):=hcA 2 _ rfl
      have a3:wr.cell? ⟨ga,j * 10+3,none⟩=some (.bool t.eq):=hcA 3 _ rfl
      have a4:wr.cell? ⟨ga,j * 10+4,none⟩=some (.int .i64 t.a):=hcA 4 _ rfl
      have a5:wr.cell? ⟨ga,j * 10+5,none⟩=some (.int .i64 t.b):=hcA 5 _ rfl
      have a6:wr.cell? ⟨ga,j * 10+6,none⟩=some (.slice AF i.facts.length cF):=hcA 6 _ rfl
      have a7:wr.cell? ⟨ga,j * 10+7,none⟩=some (.slice AA i.atoms.length cA):=hcA 7 _ rfl
      have a8:wr.cell? ⟨ga,j * 10+8,none⟩=some (.slice AB body.len cB):=hcA 8 _ rfl
      have a9:wr.cell? ⟨ga,j * 10+9,none⟩=some (.slice AE els.len cE):=hcA 9 _ rfl
      have rA2:=kA.frozen
      obtain ⟨⟨b0,b1,b2,b3,b4,b5⟩,⟨B6,d6,b6,rF⟩,⟨B7,d7,b7,rA⟩,⟨B8,d8,b8,pB⟩,⟨B9,d9,b9,pE⟩,hBr⟩:=hB0
      have hgb:=block_lt_of_cell b0
      have hBF:∀ W,Below w.heap.size w W→(W.cell? ⟨gb,ob+j * 10,none⟩=some (.int .i64 k)∧W.cell? ⟨gb,ob+j * 10+1,none⟩=some (.int .i64 a)∧W.cell? ⟨gb,ob+j * 10+2,none⟩=some (.int .i64 b)∧W.cell? ⟨gb,ob+j * 10+3,none⟩=some (.bool t.eq)∧W.cell? ⟨gb,ob+j * 10+4,none⟩=some (.int .i64 t.a)∧W.cell? ⟨gb,ob+j * 10+5,none⟩=some (.int .i64 t.b)∧W.cell? ⟨gb,ob+j * 10+6,none⟩=some (.slice B6 i.facts.length d6)∧W.cell? ⟨gb,ob+j * 10+7,none⟩=some (.slice B7 i.atoms.length d7)∧W.cell? ⟨gb,ob+j * 10+8,none⟩=some (.slice B8 body.len d8)∧W.cell? ⟨gb,ob+j * 10+9,none⟩=some (.slice B9 els.len d9)):=fun W hW=>⟨((bcell hW).1 gb _ hgb).trans b0,((bcell hW).1 gb _ hgb).trans b1,((bcell hW).1 gb _ hgb).trans b2,((bcell hW).1 gb _ hgb).trans b3,((bcell hW).1 gb _ hgb).trans b4,((bcell hW).1 gb _ hgb).trans b5,((bcell hW).1 gb _ hgb).trans b6,((bcell hW).1 gb _ hgb).trans b7,((bcell hW).1 gb _ hgb).trans b8,((bcell hW).1 gb _ hgb).trans b9⟩
      replace hBF:=Lib.hid hBF
      have hJr:Hid (AsnV w 0 w.heap.size (.agg #[.slice B6 i.facts.length d6,.slice B7 i.atoms.length d7]) i):=Lib.hid ⟨B6,d6,B7,d7,rfl,⟨rF,hIl.1⟩,⟨rA,hIl.2⟩⟩
      have hE1:Hid (EntOk w ⟨m1,m2,body,AB,cB,B8,d8⟩):=Lib.hid ⟨xB,pB⟩
      have hE2:Hid (EntOk w ⟨m2,m3,els,AE,cE,B9,d9⟩):=Lib.hid ⟨xE,pE⟩
      replace hBr:=Lib.hid hBr
      replace xr:=Lib.hid xr
      replace et:=Lib.hid et
      replace hDs:=Lib.hid hDs
      replace eq:=Lib.hid eq
      simp only[Cms.wt] at hwt2
      have hps2:=entWt_len (fs++ps)
      have hln2:(fs++ps).length+2≤1049600:=by
       have h1:=Cms.wt_pos body
       have h2:=Cms.wt_pos els
       have h3:=Cms.wt_pos R
       omega
      replace hln2:=Lib.hid hln2
      have hzi:=HB.out.size
      clear b0 b1 b2 b3 b4 b5 b6 b7 b8 b9 rF rA pB pE hB' hQ hBt hI xF xA xB xE hcA kA hps2 hposj
      go_upto_region 15 with fail
      refine bx1 (w:=wr) (F:=Code.wp _ _ _ _) ?_
      rintro w3 kx hB3 hz3
      replace hz3:wr.heap.size<w3.heap.size:=by omega
      obtain ⟨xb,hxb⟩:∃ z,z=wr.heap.size:=⟨_,rfl⟩
      have hOx:=Lib.hid (own_ne hO.out hxb)
      have hyx:y<xb:=by have:=kb.lt;omega
      have hxl:xb<w3.heap.size:=by omega
      rw[←hxb] at kx ⊢
      replace HB:=Lib.hid (bgo HB.out hB3)
      replace hM:=Lib.hid (hM.out.go hB3)
      replace hO:=Lib.hid (own_below hO.out hB3)
      replace kb:=kb.next hB3
      clear hB3 hxb a0 a1 a2 a3 a4 a5 a6 a7 a8 a9 rA2
      refine wp_region_noPanic ?_
      refine wp_region_held_drew (S:=(fun w'=>(∀ q:Nat,w'.cell? ⟨xb,q,none⟩=#[.int .i64 k,.int .i64 a,.int .i64 b,.bool t.eq,.int .i64 t.a,.int .i64 t.b,.slice AF i.facts.length cF,.slice AA i.atoms.length cA,.slice AB body.len cB,.slice AE els.len cE][q]?)∧(∀ q:Nat,w'.cell? ⟨y,q,none⟩=#[.slice (some ⟨ga,0,none⟩) eL.len ec,.slice (some ⟨gb,ob,none⟩) eL.len ed][q]?)∧w'.cell? ⟨gb,ob+j * 10,none⟩=some (.int .i64 k)∧w'.cell? ⟨gb,ob+j * 10+1,none⟩=some (.int .i64 a)∧w'.cell? ⟨gb,ob+j * 10+2,none⟩=some (.int .i64 b)∧w'.cell? ⟨gb,ob+j * 10+3,none⟩=some (.bool t.eq)∧w'.cell? ⟨gb,ob+j * 10+4,none⟩=some (.int .i64 t.a)∧w'.cell? ⟨gb,ob+j * 10+5,none⟩=some (.int .i64 t.b)∧w'.cell? ⟨gb,ob+j * 10+6,none⟩=some (.slice B6 i.facts.length d6)∧w'.cell? ⟨gb,ob+j * 10+7,none⟩=some (.slice B7 i.atoms.length d7)∧w'.cell? ⟨gb,ob+j * 10+8,none⟩=some (.slice B8 body.len d8)∧w'.cell? ⟨gb,ob+j * 10+9,none⟩=some (.slice B9 els.len d9))) (by kernel_rfl) (⟨kx.drew.cell,kb.drew.cell,hBF.out _ HB.out.drew⟩) (fun hHeld=>?_)
      refine tk 0 ?_ rfl (fun w hSw=>?_) hHeld ?_
      rotate_left
      ·((try dsimp only at hSw);go_split_ands;go_simp;(try with_reducible rfl))
      try simp only[Act.put,zA,zB,zC,zD,zE,zF]
      refine tk 1 ?_ rfl (fun w hSw=>?_) hHeld ?_
      rotate_left
      ·((try dsimp only at hSw);go_split_ands;go_simp;(try with_reducible rfl))
      try simp only[Act.put,zA,zB,zC,zD,zE,zF]
      refine tk 2 ?_ rfl (fun w hSw=>?_) hHeld ?_
      rotate_left
      ·((try dsimp only at hSw);go_split_ands;go_simp;(try with_reducible rfl))
      try simp only[Act.put,zA,zB,zC,zD,zE,zF]
      refine tk 3 ?_ rfl (fun w hSw=>?_) hHeld ?_
      rotate_left
      ·((try dsimp only at hSw);go_split_ands;go_simp;(try with_reducible rfl))
      try simp only[Act.put,zA,zB,zC,zD,zE,zF]
      refine tk 4 ?_ rfl (fun w hSw=>?_) hHeld ?_
      rotate_left
      ·((try dsimp only at hSw);go_split_ands;go_simp;(try with_reducible rfl))
      try simp only[Act.put,zA,zB,zC,zD,zE,zF]
      refine tk 5 ?_ rfl (fun w hSw=>?_) hHeld ?_
      rotate_left
      ·((try dsimp only at hSw);go_split_ands;go_simp;(try with_reducible rfl))
      try simp only[Act.put,zA,zB,zC,zD,zE,zF]
      refine rdc 6 rfl fun K hK=>?_
      try simp only[zA,zB,zC]
      (go_simp;refine (c_sameFields k a b t i AF AA AB AE B6 B7 B8 B9 cF cA body.len cB els.len cE d6 d7 body.len d8 els.len d9 _ (hIr.out.below HB.out.drew) (hJr.out.below HB.out.drew)).mono ?_;rintro e w5 ⟨rfl,hB5⟩;replace hB5:Below w3.heap.size w3 w5:=(Below.refl _ _).drew.trans hB5;have kx5:=kx.next hB5;have kb5:=kb.next hB5;have HB5:=bgo HB.out hB5)
      refine hK.out _ _ (⟨kx5.cell,kb5.cell,hBF.out _ HB5⟩) ?_
      clear hHeld hK K
      intro hHeld
      try simp only[Act.put,zA,zB,zC,zD,zE,zF]
      refine tk 7 ?_ rfl (fun w hSw=>?_) hHeld ?_
      rotate_left
      ·((try dsimp only at hSw);go_split_ands;go_simp;(try with_reducible rfl))
      try simp only[Act.put,zA,zB,zC,zD,zE,zF]
      refine wpAnyH_done (by kernel_rfl) ?_ _
      refine NoPanic.normal ?_
      have hz5:=hB5.size
      replace hM:=Lib.hid (hM.out.go hB5)
      replace hO:=Lib.hid (own_below hO.out hB5)
      replace HB:=Lib.hid HB5
      clear kx kb HB5 hB5 hIr hJr
      go_upto_region 17 with fail
      refine wp_region_noPanic ?_
      refine wp_region_held_drew (S:=(fun w'=>(∀ q:Nat,w'.cell? ⟨xb,q,none⟩=#[.int .i64 k,.int .i64 a,.int .i64 b,.bool t.eq,.int .i64 t.a,.int .i64 t.b,.slice AF i.facts.length cF,.slice AA i.atoms.length cA,.slice AB body.len cB,.slice AE els.len cE][q]?)∧(∀ q:Nat,w'.cell? ⟨y,q,none⟩=#[.slice (some ⟨ga,0,none⟩) eL.len ec,.slice (some ⟨gb,ob,none⟩) eL.len ed][q]?)∧w'.cell? ⟨gb,ob+j * 10,none⟩=some (.int .i64 k)∧w'.cell? ⟨gb,ob+j * 10+1,none⟩=some (.int .i64 a)∧w'.cell? ⟨gb,ob+j * 10+2,none⟩=some (.int .i64 b)∧w'.cell? ⟨gb,ob+j * 10+3,none⟩=some (.bool t.eq)∧w'.cell? ⟨gb,ob+j * 10+4,none⟩=some (.int .i64 t.a)∧w'.cell? ⟨gb,ob+j * 10+5,none⟩=some (.int .i64 t.b)∧w'.cell? ⟨gb,ob+j * 10+6,none⟩=some (.slice B6 i.facts.length d6)∧w'.cell? ⟨gb,ob+j * 10+7,none⟩=some (.slice B7 i.atoms.length d7)∧w'.cell? ⟨gb,ob+j * 10+8,none⟩=some (.slice B8 body.len d8)∧w'.cell? ⟨gb,ob+j * 10+9,none⟩=some (.slice B9 els.len d9))) (by kernel_rfl) (⟨kx5.drew.cell,kb5.drew.cell,hBF.out _ HB.out.drew⟩) (fun hHeld=>?_)
      refine tk 0 ?_ rfl (fun w hSw=>?_) hHeld ?_
      rotate_left
      ·((try dsimp only at hSw);go_split_ands;go_simp;(try with_reducible rfl))
      try simp only[Act.put,zA,zB,zC,zD,zE,zF]
      refine tk 1 ?_ rfl (fun w hSw=>?_) hHeld ?_
      rotate_left
      ·((try dsimp only at hSw);go_split_ands;go_simp;(try with_reducible rfl))
      try simp only[Act.put,zA,zB,zC,zD,zE,zF]
      refine tk 2 ?_ rfl (fun w hSw=>?_) hHeld ?_
      rotate_left
      ·((try dsimp only at hSw);go_split_ands;go_simp;(try with_reducible rfl))
      try simp only[Act.put,zA,zB,zC,zD,zE,zF]
      refine tk 3 ?_ rfl (fun w hSw=>?_) hHeld ?_
      rotate_left
      ·((try dsimp only at hSw);go_split_ands;go_simp;(try with_reducible rfl))
      try simp only[Act.put,zA,zB,zC,zD,zE,zF]
      refine tk 4 ?_ rfl (fun w hSw=>?_) hHeld ?_
      rotate_left
      ·((try dsimp only at hSw);go_split_ands;go_simp;(try with_reducible rfl))
      try simp only[Act.put,zA,zB,zC,zD,zE,zF]
      refine tk 5 ?_ rfl (fun w hSw=>?_) hHeld ?_
      rotate_left
      ·((try dsimp only at hSw);go_split_ands;go_simp;(try with_reducible rfl))
      try simp only[Act.put,zA,zB,zC,zD,zE,zF]
      refine tk 6 ?_ rfl (fun w hSw=>?_) hHeld ?_
      rotate_left
      ·((try dsimp only at hSw);go_split_ands;go_simp;(try with_reducible rfl))
      try simp only[Act.put,zA,zB,zC,zD,zE,zF]
      refine tk 7 ?_ rfl (fun w hSw=>?_) hHeld ?_
      rotate_left
      ·((try dsimp only at hSw);go_split_ands;go_simp;(try with_reducible rfl))
      try simp only[Act.put,zA,zB,zC,zD,zE,zF]
      refine tk 8 ?_ rfl (fun w hSw=>?_) hHeld ?_
      rotate_left
      ·((try dsimp only at hSw);go_split_ands;go_simp;(try with_reducible rfl))
      try simp only[Act.put,zA,zB,zC,zD,zE,zF]
      refine tk 9 ?_ rfl (fun w hSw=>?_) hHeld ?_
      rotate_left
      ·((try dsimp only at hSw);go_split_ands;go_simp;(try with_reducible rfl))
      try simp only[Act.put,zA,zB,zC,zD,zE,zF]
      refine tk 10 ?_ rfl (fun w hSw=>?_) hHeld ?_
      rotate_left
      ·((try dsimp only at hSw);go_split_ands;go_simp;(try with_reducible rfl))
      try simp only[Act.put,zA,zB,zC,zD,zE,zF]
      refine tk 11 ?_ rfl (fun w hSw=>?_) hHeld ?_
      rotate_left
      ·((try dsimp only at hSw);go_split_ands;go_simp;(try with_reducible rfl))
      try simp only[Act.put,zA,zB,zC,zD,zE,zF]
      refine tk 12 ?_ rfl (fun w hSw=>?_) hHeld ?_
      rotate_left
      ·((try dsimp only at hSw);go_split_ands;go_simp;(try with_reducible rfl))
      try simp only[Act.put,zA,zB,zC,zD,zE,zF]
      refine tk 13 ?_ rfl (fun w hSw=>?_) hHeld ?_
      rotate_left
      ·((try dsimp only at hSw);go_split_ands;go_simp;(try with_reducible rfl))
      try simp only[Act.put,zA,zB,zC,zD,zE,zF]
      refine tk 14 ?_ rfl (fun w hSw=>?_) hHeld ?_
      rotate_left
      ·((try dsimp only at hSw);go_split_ands;go_simp;(try with_reducible rfl))
      try simp only[Act.put,zA,zB,zC,zD,zE,zF]
      refine tk 15 ?_ rfl (fun w hSw=>?_) hHeld ?_
      rotate_left
      ·((try dsimp only at hSw);go_split_ands;go_simp;(try with_reducible rfl))
      try simp only[Act.put,zA,zB,zC,zD,zE,zF]
      refine tk 16 ?_ rfl (fun w hSw=>?_) hHeld ?_
      rotate_left
      ·((try dsimp only at hSw);go_split_ands;go_simp;(try with_reducible rfl))
      try simp only[Act.put,zA,zB,zC,zD,zE,zF]
      refine tk 17 ?_ rfl (fun w hSw=>?_) hHeld ?_
      rotate_left
      ·((try dsimp only at hSw);go_split_ands;go_simp;(try with_reducible rfl))
      try simp only[Act.put,zA,zB,zC,zD,zE,zF]
      refine tk 18 ?_ rfl (fun w hSw=>?_) hHeld ?_
      rotate_left
      ·((try dsimp only at hSw);go_split_ands;go_simp;(try with_reducible rfl))
      try simp only[Act.put,zA,zB,zC,zD,zE,zF]
      refine rdc 19 rfl fun K hK=>?_
      try simp only[zA,zB,zC]
      (go_simp)
      refine hK.out _ _ (⟨(kx5.drew.alloc _).cell,(kb5.drew.alloc _).cell,hBF.out _ (HB.out.drew.alloc (by simp;omega) _)⟩) ?_
      clear hHeld hK K
      intro hHeld
      try simp only[Act.put,zA,zB,zC,zD,zE,zF]
      refine rdc 20 rfl fun K hK=>?_
      skip
      (refine stepBP (base:=w.heap.size) _ _ rfl rfl (own_below hO.out (bbox (Below.refl _ _) _).drew) AB B8 AE B9 body.len body.len els.len els.len cB d8 cE d9 rfl (Blk.new _ _ _).drew hln2.out (by simp;omega) ?_;intro v8 w8 o8 g8 q8 e8;have kx8:=((kx5.alloc _).drew).grown g8 (fun h=>hOx.out xb h.symm rfl);have kb8:=((kb5.alloc _).drew).grown g8 (fun h=>hne.out y h.symm rfl);have HB8:=((HB.out.alloc (by omega) _).drew.trans q8))
      refine hK.out _ _ (⟨kx8.cell,kb8.cell,hBF.out _ HB8⟩) ?_
      clear hHeld hK K
      intro hHeld
      try simp only[Act.put,zA,zB,zC,zD,zE,zF]
      refine tk 21 ?_ rfl (fun w hSw=>?_) hHeld ?_
      rotate_left
      ·((try dsimp only at hSw);go_split_ands;go_simp;(try with_reducible rfl))
      try simp only[Act.put,zA,zB,zC,zD,zE,zF]
      refine wpAnyH_done (by kernel_rfl) ?_ _
      refine NoPanic.normal ?_
      have hM8:=Lib.hid (((hM.out.go (bbox (Below.refl _ _) _).drew).keep (g8.block r (by have:=hM.out.lt;simp;omega) (fun e=>own_map hO.out hM.out r e.symm rfl))))
      have hne8:Hid (∀ g',v8.ownBlock=some g'→g'≠y):=Lib.hid fun g' hg=>by
       rcases e8 with e|e
       ·rw[e] at hg;exact hne.out g' hg
       ·rw[e] at hg
        injection hg with hg
        simp at hg
        omega
      replace o8:=Lib.hid o8
      replace HB8:=Lib.hid HB8
      clear kx5 kb5 kx8 g8 q8 e8 hO hM hBF hne hOx
      go_wp2_with fail
      go_round
      case rel=>
       have hlen:(fs++(ps++[(⟨m1,m2,body,AB,cB,B8,d8⟩:Ent),⟨m2,m3,els,AE,cE,B9,d9⟩])).length=(fs++ps).length+2:=by simp;omega
       refine ⟨j+1,m3,ps++[⟨m1,m2,body,AB,cB,B8,d8⟩,⟨m2,m3,els,AE,cE,B9,d9⟩],done++tenL k a b t (.slice AF i.facts.length cF) (.slice AA i.atoms.length cA) (.slice AB body.len cB) (.slice AE els.len cE),rest,by omega,by go_num,Lib.hid ?_,Lib.hid ?_,Lib.hid ?_,Lib.hid (by rw[hDs.out];exact xr.out),Lib.hid (by rw[hcs.out,et.out,List.append_assoc]),by rw[List.length_append,hdl];simp[tenL];omega,Lib.hid ?_,?_,hM8,kb8,HB8,by omega,hne8⟩
       ·rw[hlen,←List.append_assoc,entCs_app]
        exact o8.out
       ·rw[←List.append_assoc]
        refine StkOk.push hS.out hE1.out hE2.out (fun f hf=>?_) (Or.inl (Nat.le_refl _)) (fun q hq=>?_)
        ·rcases List.mem_append.1 hf with hf|hf
         ·have:=hD.out f hf
          simp only at this ⊢
          omega
         ·have:=(hps.out f hf).2
          simp only
          omega
        ·rcases List.mem_cons.1 hq with rfl|hq
         ·simp only;omega
         ·have:=hKe.out q hq
          simp only at this ⊢
          omega
       ·intro f hf
        simp only[List.mem_append,List.mem_cons,List.not_mem_nil,or_false] at hf
        rcases hf with hf|rfl|rfl
        ·have:=hps.out f hf
         omega
        ·simp only;omega
        ·simp only;omega
       ·rw[hDs.out,show ob+(j+1) * 10=ob+j * 10+10 by omega]
        exact hBr.out
       ·rw[←List.append_assoc,entWt_app,hDs.out]
        simp only[entWt,List.map_cons,List.map_nil,List.sum_cons,List.sum_nil] at hwt2 ⊢
        omega
      case measure=>simp[intOf];omega
     ·go_wp2_with fail
      go_roundg (gk0 - 1)
      case rel=>
       have e1:eL.drop j=.nil:=by rw[show j=eL.len by omega];exact Cms.drop_all eL
       rw[e1] at hwt2
       simp only[Cms.wt] at hwt2
       exact ⟨fs++ps,ga :: K,hO,hS,hM,by omega,by omega,HB⟩
      case measure=>omega
end Go.Proofs.YtjbboklnegfohaaGreatDoor

/- 'laws.FnProgramText' returns true for all bytes that can be read, where the names of the terms hold what the program lays. -/
namespace Go.Proofs.YtjbboklnegfohaaGreatDoor
open Go Go.RowKit Go.Proofs
theorem pPI_fmt (L:Cms):(pPI (fmtP L)).isSome=true∧(L.prog=true→(pPI (fmtP L)).getD .nil=L):=by
 cases hp:L.prog with
 | true=>
  have e:pPI (fmtP L)=some L:=pPI_iff.2 ⟨hp,(if_pos hp).symm⟩
  rw[e]
  exact ⟨rfl,fun _=>rfl⟩
 | false=>
  have e0:fmtP L=[]:=if_neg (by rw[hp];decide)
  have e:pPI (fmtP L)=some .nil:=pPI_iff.2 ⟨by decide,by rw[e0];rfl⟩
  rw[e]
  exact ⟨rfl,fun h=>by cases h⟩
theorem pPI_fine (l:Bs) (h:(pPI l).isSome=true):fmtP ((pPI l).getD .nil)=l:=by
 cases hp:pPI l with
 | none=>rw[hp] at h;cases h
 | some L=>
  obtain ⟨h1,h2⟩:=pPI_iff.1 hp
  exact (if_pos h1).trans h2
theorem Cms.invs_costT:∀ {L:Cms},L.invs→L.len+L.cost≤19 * L.sz
 | .nil,_=>Nat.le_refl _
 | .cons k a b t i body els r,h=>by
  have h1:=Cms.invs_costT h.2.1
  have h2:=Cms.invs_costT h.2.2.1
  have h3:=Cms.invs_costT h.2.2.2
  have h4:=h.1
  simp only[Cms.len,Cms.cost,Cms.sz]
  omega
theorem parseP_lenT (l:Bs):(parseP l).len+(parseP l).cost≤903∧(parseP l).sz≤16:=by
 unfold parseP
 split
 ·rename_i h
  unfold parsesP at h
  simp only[Bool.and_eq_true,decide_eq_true_eq] at h
  have h1:=Cms.invs_costT (L:=readP l) (blkF_invs _ _ _ _)
  have h2:=(prog_shape h.2.2).2
  exact ⟨by omega,h2⟩
 ·simp[Cms.len,Cms.cost,Cms.sz]
theorem BytesR.belowT {w w':World} {A:Option Addr} {n c:Nat} (h:BytesR w A n c) (hb:Below w.heap.size w w'):BytesR w' A n c:=by
 obtain ⟨bs,h1,h2,h3⟩:=h
 exact ⟨bs,h1,(h2.below hb).mono (Nat.le_refl _) hb.size,h3⟩
set_option maxRecDepth 100000 in
set_option maxHeartbeats 12800000 in
theorem c_FnProgramText (v0:Value) (a0:Option Addr×Nat×Nat) (v1:Value) (a1:Option Addr×Nat×Nat) (w:World) (hT:TM w) (h0:v0=.slice a0.1 a0.2.1 a0.2.2∧BytesR w a0.1 a0.2.1 a0.2.2) (h1:v1=.slice a1.1 a1.2.1 a1.2.2∧BytesR w a1.1 a1.2.1 a1.2.2):Calls Tryz.prog 3 #[v0,v1] w fun e w'=>e=.returned (.bool true)∧Below w.heap.size w w':=by
 obtain ⟨A,n,c⟩:=a0
 obtain ⟨A1,n1,c1⟩:=a1
 obtain ⟨rfl,hR⟩:=h0
 obtain ⟨rfl,hR1⟩:=h1
 simp only at hR hR1 ⊢
 have HR:=Lib.hid hR
 have HR1:=Lib.hid hR1
 have HT:=Lib.hid hT
 clear hR hR1 hT
 by_cases hn:1048576<n
 ·have hni:(1048576:Int)<(n:Int):=by omega
  clear hn
  go_enter Tryz.func3,Tryz.ntmps3
  go_wp2_with fail
  go_ret
  exact ⟨rfl,bel⟩
 have hni:¬(1048576:Int)<(n:Int):=by omega
 clear hn
 by_cases hn:1048576<n1
 ·have hni1:(1048576:Int)<(n1:Int):=by omega
  clear hn
  go_enter Tryz.func3,Tryz.ntmps3
  go_wp2_with fail
  go_ret
  exact ⟨rfl,bel⟩
 have hni1:¬(1048576:Int)<(n1:Int):=by omega
 clear hn
 go_enter Tryz.func3,Tryz.ntmps3
 go_wp2_with fail
 refine (c_DrawFormat A n c w HR.out).mono ?_
 rintro e w1 ⟨AL,cL,L,rfl,hV,hLS,hB1⟩
 have hsz:=Cms.sz_cost L
 have HV:=Lib.hid hV
 have HB:=Lib.hid hB1
 replace HT:=Lib.hid (HT.out.below hB1)
 have z1:=hB1.size
 clear hV hB1 HR
 have hsm:Hid (L.small 1049600):=Lib.hid (Cms.cost_small (by omega))
 go_wp2_with fail
 refine (c_iFP L AL cL w1 HV.out (by omega) hsm.out HT.out.1).mono ?_
 rintro e w2 ⟨rfl,hB2⟩
 have HS:=Lib.hid (pPI_fmt L)
 have hsl:=fmtP_len L
 obtain ⟨s,hs⟩:∃ s,s=fmtP L:=⟨_,rfl⟩
 have CS:=Lib.hid fun W (hB:Below w1.heap.size w1 W)=>c_FormatProgram L AL cL W (HV.out.below hB) (by omega) hsm.out (by omega)
 rw[←hs] at HS hsl CS ⊢
 clear hs
 have HB2:=Lib.hid hB2
 replace HT:=Lib.hid (HT.out.below hB2)
 have z2:=hB2.size
 clear hB2
 go_wp2_with fail
 refine (c_iPP s w2 HT.out (by omega)).mono ?_
 rintro e w3 ⟨rv,rfl,Q,hB3⟩
 rw[HS.out.1]
 obtain ⟨P,hP⟩:∃ P,P=(pPI s).getD .nil:=⟨_,rfl⟩
 rw[←hP] at Q
 have hPL:Hid (L.prog=true→P=L):=Lib.hid (by rw[hP];exact HS.out.2)
 have HB3:=Lib.hid (bgo HB2.out hB3)
 replace HT:=Lib.hid (HT.out.below hB3)
 have z3:=hB3.size
 have HQ:=Lib.hid Q
 obtain ⟨AP,cP,rfl,-⟩:=Q.reads
 clear hB3 hP HS Q
 go_wp2_with fail
 refine (CS.out w3 HB3.out).mono ?_
 rintro e w4 ⟨rfl,hB4⟩
 have HB4:=Lib.hid (bgo HB3.out hB4)
 replace HT:=Lib.hid (HT.out.below hB4)
 replace HQ:=Lib.hid (HQ.out.below hB4)
 have z4:=hB4.size
 have CI:=Lib.hid fun W (hB:Below w1.heap.size w1 W)=>c_impl_ProgramValid L AL cL W (HV.out.below hB) (by omega) hsm.out
 have CP:=Lib.hid fun W (hB:Below w1.heap.size w1 W)=>c_spec_ProgramValid L AL cL W (HV.out.below hB) (by omega) hsm.out (by omega)
 have hss:(s == s)=true:=by rw[bytes_eq];simp
 clear hB4 CS
 go_wp2_with fail
 refine (CI.out w4 HB4.out).mono ?_
 rintro e w5 ⟨rfl,hB5⟩
 have HB5:=Lib.hid (bgo HB4.out hB5)
 replace HT:=Lib.hid (HT.out.below hB5)
 replace HQ:=Lib.hid (HQ.out.below hB5)
 have z5:=hB5.size
 clear hB5
 go_wp2_with fail
 refine (CP.out w5 HB5.out).mono ?_
 rintro e w6 ⟨rfl,hB6⟩
 have HB6:=Lib.hid (bgo HB5.out hB6)
 replace HT:=Lib.hid (HT.out.below hB6)
 replace HQ:=Lib.hid (HQ.out.below hB6)
 have z6:=hB6.size
 clear hB6 CP
 obtain ⟨pr,hpr⟩:∃ p,p=L.prog:=⟨_,rfl⟩
 rw[←hpr] at CI hPL ⊢
 clear hpr
 have hbb:(pr == pr)=true:=by cases pr<;>rfl
 go_wp2_with fail
 refine (CI.out w6 HB6.out).mono ?_
 rintro e w7 ⟨rfl,hB7⟩
 have HB7:=Lib.hid (bgo HB6.out hB7)
 replace HT:=Lib.hid (HT.out.below hB7)
 replace HQ:=Lib.hid (HQ.out.below hB7)
 have z7:=hB7.size
 clear hB7 CI
 have HB7w:=Lib.hid (HB.out.trans (HB7.out.mono z1))
 cases pr
 case' true=>
  obtain rfl:P=L:=hPL.out rfl
  go_wp2_with fail
  refine (c_ProgramSame P AP AL cP cL w7 HQ.out (HV.out.below HB7.out |>.mono (Nat.zero_le _) (by omega)) (by omega)).mono ?_
  rintro e w8 ⟨rfl,hB8⟩
  replace HB7w:=Lib.hid (bgo HB7w.out hB8)
  replace HT:=Lib.hid (HT.out.below hB8)
  clear hB8 HQ hPL
  go_upto_region 8 with fail
 case' false=>
  go_upto_region 8 with fail
  obtain ⟨w8,rfl⟩:∃ z,z=w7:=⟨_,rfl⟩
  clear HQ hPL
 all_goals
  clear HB2 HB3 HB4 HB5 HB6 HB7 z2 z3 z4 z5 z6 z7 hss hbb
  go_wp2_with fail
  refine (c_DrawParse A1 n1 c1 w8 (HR1.out.belowT HB7w.out)).mono ?_
  rintro e w9 ⟨t,htl,rfl,hB9⟩
  have HB9:=Lib.hid (bgo HB7w.out hB9)
  replace HT:=Lib.hid (HT.out.below hB9)
  clear hB9 HB7w
  go_wp2_with fail
  refine (c_iPP t w9 HT.out (by omega)).mono ?_
  rintro e w10 ⟨rg,rfl,Qg,hB10⟩
  have hfin:=Lib.hid (pPI_fine t)
  rw[(pPI_parses t).1,(pPI_parses t).2] at hfin
  rw[(pPI_parses t).1]
  rw[(pPI_parses t).2] at Qg
  have hDl:=parseP_lenT t
  have CW:=Lib.hid fun W=>c_ParseProgram t W (by omega)
  obtain ⟨D,hD⟩:∃ D,D=parseP t:=⟨_,rfl⟩
  obtain ⟨b,hb⟩:∃ b,b=parsesP t:=⟨_,rfl⟩
  rw[←hD,←hb] at hfin CW
  rw[←hD] at hDl Qg
  rw[←hb]
  obtain ⟨hDl,hDs⟩:=hDl
  have HB10:=Lib.hid (bgo HB9.out hB10)
  replace HT:=Lib.hid (HT.out.below hB10)
  have HQ:=Lib.hid Qg
  obtain ⟨Ag,cg,rfl,-⟩:=Qg.reads
  clear hB10 HB9 hD hb Qg
  go_wp2_with fail
  refine (CW.out w10).mono ?_
  rintro e w11 ⟨rw0,rfl,Xw,hB11⟩
  obtain ⟨Aw,cw,rfl,Vw⟩:=Xw.reads
  have HB11:=Lib.hid (bgo HB10.out hB11)
  replace HT:=Lib.hid (HT.out.below hB11)
  replace HQ:=Lib.hid (HQ.out.below hB11)
  replace Vw:=Lib.hid Vw
  have hbb:(b == b)=true:=by cases b<;>rfl
  clear hB11 HB10 Xw CW
  go_wp2_with fail
  refine (c_ProgramSame D Ag Aw cg cw w11 HQ.out (Vw.out.mono (Nat.zero_le _) (Nat.le_refl _)) (by omega)).mono ?_
  rintro e w12 ⟨rfl,hB12⟩
  have HB12:=Lib.hid (bgo HB11.out hB12)
  replace HT:=Lib.hid (HT.out.below hB12)
  replace HQ:=Lib.hid (HQ.out.below hB12)
  obtain ⟨Ah,ch,e',Vg⟩:=HQ.out.reads
  injection e' with e1 e2 e3
  subst e1
  replace Vg:=Lib.hid Vg
  clear hB12 HB11 Vw e2 e3
  cases b
  ·go_wp2_with fail
   go_ret
   exact ⟨rfl,HB12.out⟩
  ·have hf:fmtP D=t:=hfin.out rfl
   go_wp2_with fail
   refine (c_iFP D Ag cg w12 Vg.out (by omega) (Cms.cost_small (by omega)) HT.out.1).mono ?_
   rintro e w13 ⟨rfl,hB13⟩
   rw[hf]
   have htt:(t == t)=true:=by rw[bytes_eq];simp
   replace hf:=Lib.hid hf
   go_wp2_with fail
   go_ret
   exact ⟨by simp,bgo HB12.out hB13⟩
end Go.Proofs.YtjbboklnegfohaaGreatDoor
