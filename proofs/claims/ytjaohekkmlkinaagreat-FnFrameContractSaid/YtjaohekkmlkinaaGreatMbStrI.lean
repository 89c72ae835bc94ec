/- Contracts: atoms from texts (spec). -/
import Derived.Test.YtjaohekkmlkinaaGreatMbStrH
set_option linter.unusedSimpArgs false
set_option linter.unusedVariables false
set_option maxRecDepth 100000
set_option maxHeartbeats 25600000
namespace Go.Proofs.YtjaohekkmlkinaaGreat
section
open Go Go.RowKit Go.Proofs
theorem parseX_cut {l:Bs} {k:Nat} (hl:l.length≤7) (hk:k<l.length) (h:sign2 l[k]=true) (hn:∀ j (hj:j<k),sign2 l[j]=false) :
  parseX l=pairX (if l[k]=126 then 2 else 1) (parseT (l.take k)) (parseT (l.drop (k+1))):=by
 unfold parseX;rw[if_neg (by omega),cutX_at hk h hn]
theorem parseX_no {l:Bs} (hn:∀ j (hj:j<l.length),sign2 l[j]=false):parseX l=none:=by
 unfold parseX;rw[cutX_no hn]
 split<;>rfl
theorem pairX_isSome (kd:Int) (a:Nat) (pb:Option Nat):(pairX kd (some a) pb).isSome=pb.isSome:=by cases pb<;>rfl
theorem c_ParseAtom (l:Bs) (w:World):Calls Tryz.prog 191 #[sv l] w fun e w'=>∃ y:Atm,e=.returned (.tuple #[.agg #[.int .i64 y.kind,.int .i64 y.a,.int .i64 y.b],.bool (parseX l).isSome])∧(∀ z,parseX l=some z→y=z)∧Below w.heap.size w w':=by
 by_cases hl:l.length≤7
 ·have hli:(l.length:Int)≤7:=by omega
  (go_enter Tryz.func191,Tryz.ntmps191);(go_wp2_with fail)
  go_loopw [4] (fun i wr=>∃ k:Nat,k≤l.length∧i=.int .i64 k∧aJ (∀ j (hj:j<k) (hj2:j<l.length),sign2 l[j]=false)∧wr=w.alloc (.cells #[.int .i64 0,.int .i64 0,.int .i64 0] tA)) (fun i _=>l.length - (intOf i).toNat)
  case atStart=>exact ⟨0,by omega,rfl,ax fun j h=>by omega,rfl⟩
  case round=>
   obtain ⟨k,hk,rfl,HN,rfl⟩:=hrel;by_cases hlt:k<l.length
   ·have hki:(k:Int)<(l.length:Int):=by omega
    have hx:=bidx l k hlt;cases hc:sign2 l[k]
    ·obtain ⟨c,hcc⟩:∃ c,c=l[k]:=⟨_,rfl⟩
     have HM:aJ (∀ j (hj:j<k+1) (hj2:j<l.length),sign2 l[j]=false):=ax fun j hj hj2=>by
      by_cases e:j=k
      ·subst e;exact hc
      ·exact HN.o j (by omega) hj2
     rw[←hcc] at hx hc;have h2:¬c=62∧¬c=126:=by unfold sign2 at hc;simpa using hc
     have hb1:((c.toNat:Int) == 62)=false:=by rw[show (62:Int)=((62:Nat):Int) from rfl,u8_eq c 62 (by decide)];simpa using h2.1
     have hb1x:¬((c.toNat:Int)=62):=by simpa using hb1
     have hb1y:((c.toNat:Int) != 62)=true:=by simpa using hb1
     have hb2:((c.toNat:Int) == 126)=false:=by rw[show (126:Int)=((126:Nat):Int) from rfl,u8_eq c 126 (by decide)];simpa using h2.2
     have hb2x:¬((c.toNat:Int)=126):=by simpa using hb2
     have hb2y:((c.toNat:Int) != 126)=true:=by simpa using hb2
     clear hcc hc h2;(go_wp2_with fail)
     go_round
     case rel=>exact ⟨k+1,by omega,by go_num,HM,by first|rfl|trivial⟩
     case measure=>simp[intOf];omega
    ·have HP:=ax (parseX_cut hl hlt hc fun j hj=>HN.o j hj (by omega));obtain ⟨c,hcc⟩:∃ c,c=l[k]:=⟨_,rfl⟩;rw[←hcc] at hx hc HP;have h2:c=62∨c=126:=by unfold sign2 at hc;simpa using hc
     clear hcc hc;obtain ⟨pa,hpa⟩:∃ x,x=parseT ((l.drop 0).take (k - 0)):=⟨_,rfl⟩;have ca:=fun w=>c_ParseTermX l 0 k w;rw[←hpa] at ca;replace ca:=ax ca;obtain ⟨pb,hpb⟩:∃ x,x=parseT ((l.drop (k+1)).take (l.length - (k+1))):=⟨_,rfl⟩;have cb:=fun w=>c_ParseTermX l (k+1) l.length w;rw[←hpb] at cb;replace cb:=ax cb
     have hE:aJ (parseX l=pairX (if c=126 then 2 else 1) pa pb):=ax (by
      rw[HP.o,hpa,hpb,List.drop_zero,Nat.sub_zero,List.take_of_length_le (l:=l.drop (k+1)) (by simp)])
     clear hpa hpb HP;rcases h2 with h2|h2
     ·replace hE:aJ (parseX l=pairX 1 pa pb):=ax (by rw[hE.o,h2];rfl);subst h2
      cases pa with
      | none=>
       have hR:aJ (parseX l=none):=ax hE.o;clear hE;(go_wp2_with fail);refine (ca.o _).mono ?_;rintro e w2 ⟨rfl,rfl⟩;(go_wp2_with fail);refine (cb.o _).mono ?_;rintro e w2 ⟨rfl,rfl⟩;obtain ⟨nb,hnb⟩:∃ nb:Nat,nb=pb.getD 0:=⟨_,rfl⟩;rw[←hnb];clear hnb;(go_wp2_with fail);refine bodyPost_ret (v:=.tuple #[.agg #[.int .i64 1,.int .i64 0,.int .i64 nb],.bool false]) (by simp[results,Tryz.results191,go_sem]) rfl ⟨⟨1,0,nb⟩,by rw[hR.o];rfl,(by rw[hR.o];intro z h;cases h),bel⟩
      | some a=>
       have hS:aJ ((parseX l).isSome=pb.isSome):=ax (by rw[hE.o,pairX_isSome]);obtain ⟨nb,hnb⟩:∃ nb:Nat,nb=pb.getD 0:=⟨_,rfl⟩
       have hZ:aJ (∀ z,parseX l=some z→(⟨1,(a:Int),(nb:Int)⟩:Atm)=z):=ax (by
        intro z hz;rw[hE.o,hnb] at *
        cases pb with
        | none=>cases hz
        | some b=>injection hz)
       clear hE;(go_wp2_with fail);refine (ca.o _).mono ?_;rintro e w2 ⟨rfl,rfl⟩;(go_wp2_with fail);refine (cb.o _).mono ?_;rintro e w2 ⟨rfl,rfl⟩;obtain ⟨sb,hsb⟩:∃ sb:Bool,sb=pb.isSome:=⟨_,rfl⟩;rw[←hsb] at hS ⊢;rw[←hnb];clear hnb hsb;(go_wp2_with fail);refine bodyPost_ret (v:=.tuple #[.agg #[.int .i64 1,.int .i64 a,.int .i64 nb],.bool sb]) (by simp[results,Tryz.results191,go_sem]) rfl ⟨⟨1,a,nb⟩,by rw[hS.o],hZ.o,bel⟩
     ·replace hE:aJ (parseX l=pairX 2 pa pb):=ax (by rw[hE.o,h2];rfl);subst h2
      cases pa with
      | none=>
       have hR:aJ (parseX l=none):=ax hE.o;clear hE;(go_wp2_with fail);refine (ca.o _).mono ?_;rintro e w2 ⟨rfl,rfl⟩;(go_wp2_with fail);refine (cb.o _).mono ?_;rintro e w2 ⟨rfl,rfl⟩;obtain ⟨nb,hnb⟩:∃ nb:Nat,nb=pb.getD 0:=⟨_,rfl⟩;rw[←hnb];clear hnb;(go_wp2_with fail);refine bodyPost_ret (v:=.tuple #[.agg #[.int .i64 2,.int .i64 0,.int .i64 nb],.bool false]) (by simp[results,Tryz.results191,go_sem]) rfl ⟨⟨2,0,nb⟩,by rw[hR.o];rfl,(by rw[hR.o];intro z h;cases h),bel⟩
      | some a=>
       have hS:aJ ((parseX l).isSome=pb.isSome):=ax (by rw[hE.o,pairX_isSome]);obtain ⟨nb,hnb⟩:∃ nb:Nat,nb=pb.getD 0:=⟨_,rfl⟩
       have hZ:aJ (∀ z,parseX l=some z→(⟨2,(a:Int),(nb:Int)⟩:Atm)=z):=ax (by
        intro z hz;rw[hE.o,hnb] at *
        cases pb with
        | none=>cases hz
        | some b=>injection hz)
       clear hE;(go_wp2_with fail);refine (ca.o _).mono ?_;rintro e w2 ⟨rfl,rfl⟩;(go_wp2_with fail);refine (cb.o _).mono ?_;rintro e w2 ⟨rfl,rfl⟩;obtain ⟨sb,hsb⟩:∃ sb:Bool,sb=pb.isSome:=⟨_,rfl⟩;rw[←hsb] at hS ⊢;rw[←hnb];clear hnb hsb;(go_wp2_with fail);refine bodyPost_ret (v:=.tuple #[.agg #[.int .i64 2,.int .i64 a,.int .i64 nb],.bool sb]) (by simp[results,Tryz.results191,go_sem]) rfl ⟨⟨2,a,nb⟩,by rw[hS.o],hZ.o,bel⟩
   ·obtain rfl:k=l.length:=by omega
    have HP:=ax (parseX_no fun j hj=>HN.o j hj hj);(go_wp2_with fail);refine bodyPost_ret (v:=.tuple #[.agg #[.int .i64 0,.int .i64 0,.int .i64 0],.bool false]) (by simp[results,Tryz.results191,go_sem]) rfl ⟨⟨0,0,0⟩,by rw[HP.o];rfl,(by rw[HP.o];intro z h;cases h),bel⟩
 ·have hli:¬(l.length:Int)≤7:=by omega
  have hl0:(0:Int)<(l.length:Int):=by omega
  have HP:=ax (show parseX l=none by unfold parseX;rw[if_pos (by omega)]);clear hl;(go_enter Tryz.func191,Tryz.ntmps191);(go_wp2_with fail)
  go_loopw [4] (fun i wr=>i=.int .i64 0∧wr=w.alloc (.cells #[.int .i64 0,.int .i64 0,.int .i64 0] tA)) (fun _ _=>0)
  case atStart=>exact ⟨rfl,rfl⟩
  case round=>
   obtain ⟨rfl,rfl⟩:=hrel;(go_wp2_with fail);refine bodyPost_ret (v:=.tuple #[.agg #[.int .i64 0,.int .i64 0,.int .i64 0],.bool false]) (by simp[results,Tryz.results191,go_sem]) rfl ⟨⟨0,0,0⟩,by rw[HP.o];rfl,(by rw[HP.o];intro z h;cases h),bel⟩
theorem u8_eq2 (x c:UInt8):((x.toNat:Int) == (c.toNat:Int))=decide (x=c):=by
 rw[Bool.eq_iff_iff,beq_iff_eq,decide_eq_true_iff];constructor
 ·intro h;exact UInt8.toNat_inj.1 (by omega)
 ·rintro rfl;rfl
def cutSt (c:UInt8) (l:Bs) (i fr:Nat) (xs:List Bs):Prop:=
 fr≤i∧xs.length≤i∧(i≤l.length→splitL c l=xs++splitA c ((l.drop fr).take (i - fr)) (l.drop i))∧(l.length<i→splitL c l=xs)
theorem cutSt.start (c:UInt8) (l:Bs):cutSt c l 0 0 []:=⟨Nat.le_refl _,Nat.le_refl _,fun _=>by simp[splitL],fun h=>by omega⟩
theorem cutSt.hit {c:UInt8} {l:Bs} {i fr:Nat} {xs:List Bs} (h:cutSt c l i fr xs) (hi:i<l.length) (hc:l[i]=c):cutSt c l (i+1) (i+1) (xs++[(l.drop fr).take (i - fr)]):=by
 obtain ⟨h1,h2,h3,h4⟩:=h;refine ⟨Nat.le_refl _,by simpa using h2,fun _=>?_,fun h=>by omega⟩;rw[h3 (by omega),List.drop_eq_getElem_cons hi,splitA,if_pos hc];simp
theorem cutSt.miss {c:UInt8} {l:Bs} {i fr:Nat} {xs:List Bs} (h:cutSt c l i fr xs) (hi:i<l.length) (hc:l[i]≠c):cutSt c l (i+1) fr xs:=by
 obtain ⟨h1,h2,h3,h4⟩:=h;refine ⟨by omega,by omega,fun _=>?_,fun h=>by omega⟩;rw[h3 (by omega),List.drop_eq_getElem_cons hi,splitA,if_neg hc]
 congr 2
 rw[show i+1 - fr=(i - fr)+1 by omega,List.take_add_one,List.getElem?_drop,show fr+(i - fr)=i by omega,List.getElem?_eq_getElem hi];rfl
theorem cutSt.last {c:UInt8} {l:Bs} {i fr:Nat} {xs:List Bs} (h:cutSt c l i fr xs) (hi:i=l.length):cutSt c l (i+1) (i+1) (xs++[(l.drop fr).take (i - fr)]):=by
 obtain ⟨h1,h2,h3,h4⟩:=h;refine ⟨Nat.le_refl _,by simpa using h2,fun h=>by omega,fun _=>?_⟩;rw[h3 (by omega),hi,List.drop_length,splitA]
theorem box_ext (w:World) (l:Bs) (i j:Nat) (t:TypeId):(w.alloc (.cells #[.string ((ByteArray.mk l.toArray).extract i j)] t)).cell? ⟨w.heap.size,0,none⟩=some (sv ((l.drop i).take (j - i))):=by
 rw[bext];exact cell_box w _ t
theorem c_l18Cut (l:Bs) (c:UInt8) (w:World) (hl:l.length≤1049000):Calls Tryz.prog 194 #[sv l,.int .u8 (c.toNat:Nat)] w fun e w'=>∃ r,e=.returned r∧StrsO w' w.heap.size r (splitL c l)∧Below w.heap.size w w':=by
 (go_enter Tryz.func194,Tryz.ntmps194);have hO:StrsO (w.alloc (.cells #[] tS)) w.heap.size (.slice (some ⟨w.heap.size,0,none⟩) 0 0) []:=StrsO.empty _ rfl;have hB:Below w.heap.size w (w.alloc (.cells #[] tS)):=bel;(go_wp2_with fail)
 go_loopw [5,6,7] (fun u fr i wr=>∃ (k f:Nat) (A:Option Addr) (d:Nat) (xs:List Bs),k≤l.length+1∧i=.int .i64 k∧fr=.int .i64 f∧u=.slice A xs.length d∧StrsO wr w.heap.size (.slice A xs.length d) xs∧aJ (cutSt c l k f xs)∧aJ (Below w.heap.size w wr)) (fun _ _ i _=>l.length+1 - (intOf i).toNat)
 case atStart=>exact ⟨0,0,_,0,[],by omega,rfl,rfl,rfl,hO,ax (cutSt.start c l),hB⟩
 case round=>
  clear hO hB;obtain ⟨k,f,A,d,xs,hk,rfl,rfl,rfl,hO,hC,HB⟩:=hrel;have HO:=ax hO;have hf:=hC.o.1;have hx:=hC.o.2.1;have hz:=HB.o.size;clear hO;by_cases hle:k≤l.length
  ·have hkl:(k:Int)≤(l.length:Int):=by omega
   by_cases hlt:k<l.length
   ·have hki:(k:Int)<(l.length:Int):=by omega
    have hke:((k:Int) == (l.length:Int))=false:=by simp;omega
    have hb:=bidx l k hlt;by_cases hc:l[k]=c
    ·have hN:=ax (hC.o.hit hlt hc);obtain ⟨x,hxx⟩:∃ x,x=l[k]:=⟨_,rfl⟩;rw[←hxx] at hb hc;have hbc:((x.toNat:Int) == (c.toNat:Int))=true:=by rw[u8_eq2];simpa using hc
     clear hc hxx;(go_wp2_with (at_builtin;refine appS rfl _ _ rfl (v:=.slice A xs.length d) rfl (StrsO.bz (w:=wr) HO.o bel) wr.heap.size ((l.drop f).take (k - f)) rfl (box_ext wr l f k _) (by omega) (by simp;omega) ?_;intro g2 d2 w2 o2 hg2 hB2));have hBB:Below w.heap.size w w2:=((HB.o.alloc hz _).trans hB2)
     go_round
     case rel=>exact ⟨k+1,k+1,some ⟨g2,0,none⟩,d2,xs++[(l.drop f).take (k - f)],by omega,by go_num,by go_num,by simp,by simpa using o2,hN,hBB⟩
     case measure=>simp[intOf];omega
    ·have hN:=ax (hC.o.miss hlt hc);obtain ⟨x,hxx⟩:∃ x,x=l[k]:=⟨_,rfl⟩;rw[←hxx] at hb hc;have hbc:((x.toNat:Int) == (c.toNat:Int))=false:=by rw[u8_eq2];simpa using hc
     clear hc hxx;(go_wp2_with fail)
     go_round
     case rel=>exact ⟨k+1,f,A,d,xs,by omega,by go_num,rfl,rfl,HO.o,hN,HB.o⟩
     case measure=>simp[intOf];omega
   ·have hke:((k:Int) == (l.length:Int))=true:=by simp;omega
    have hN:=ax (hC.o.last (by omega));(go_wp2_with (at_builtin;refine appS rfl _ _ rfl (v:=.slice A xs.length d) rfl (StrsO.bz (w:=wr) HO.o bel) wr.heap.size ((l.drop f).take (k - f)) rfl (box_ext wr l f k _) (by omega) (by simp;omega) ?_;intro g2 d2 w2 o2 hg2 hB2));have hBB:Below w.heap.size w w2:=((HB.o.alloc hz _).trans hB2)
    go_round
    case rel=>exact ⟨k+1,k+1,some ⟨g2,0,none⟩,d2,xs++[(l.drop f).take (k - f)],by omega,by go_num,by go_num,by simp,by simpa using o2,hN,hBB⟩
    case measure=>simp[intOf];omega
  ·have hkl:¬(k:Int)≤(l.length:Int):=by omega
   have hE:=ax (hC.o.2.2.2 (by omega));(go_wp2_with fail);go_ret;exact ⟨_,rfl,by rw[hE.o];exact HO.o,HB.o⟩
theorem words_take {ss:List Bs} {k:Nat} (hk:k<ss.length):(ss.take (k+1)).filter (fun x=>decide (x≠[]))=(ss.take k).filter (fun x=>decide (x≠[]))++(if ss[k]=[] then [] else [ss[k]]):=by
 rw[List.take_add_one,List.filter_append,List.getElem?_eq_getElem hk]
 congr 1
 by_cases h:ss[k]=[]<;>simp[h]
theorem c_l18Words (l:Bs) (w:World) (hl:l.length≤1049000):Calls Tryz.prog 189 #[sv l] w fun e w'=>∃ r,e=.returned r∧StrsO w' w.heap.size r (wordsL l)∧Below w.heap.size w w':=by
 (go_enter Tryz.func189,Tryz.ntmps189);(go_wp2_with fail);refine (c_l18Cut l 32 _ hl).mono ?_;rintro e w1 ⟨r1,rfl,o1,hB1⟩;obtain ⟨A1,d1,rfl,v1⟩:=o1.rj;have hW:=ax (show wordsL l=((splitL 32 l).take (splitL 32 l).length).filter fun x=>decide (x≠[]) by rw[List.take_length];rfl);have hn:=splitA_len 32 l []
 change (splitL 32 l).length≤_ at hn
 obtain ⟨ss,hss⟩:∃ ss,ss=splitL 32 l:=⟨_,rfl⟩;rw[←hss] at v1 hW hn ⊢;have HV:=ax v1;have z1:=hB1.size;have HW1:=ax hB1;have hO:StrsO (w1.alloc (.cells #[] tS)) w1.heap.size (.slice (some ⟨w1.heap.size,0,none⟩) 0 0) []:=StrsO.empty _ rfl;have hB:Below w1.heap.size w1 (w1.alloc (.cells #[] tS)):=bel;clear v1 o1 hB1 hss;(go_wp2_with fail)
 go_loopw [4,5] (fun u i wr=>∃ (k:Nat) (A:Option Addr) (d:Nat) (xs:List Bs),k≤ss.length∧i=.int .i64 k∧u=.slice A xs.length d∧StrsO wr w1.heap.size (.slice A xs.length d) xs∧aJ (xs=(ss.take k).filter fun x=>decide (x≠[]))∧aJ (Below w1.heap.size w1 wr)) (fun _ i _=>ss.length - (intOf i).toNat)
 case atStart=>exact ⟨0,_,0,[],by omega,rfl,rfl,hO,ax rfl,hB⟩
 case round=>
  clear hO hB;obtain ⟨k,A,d,xs,hk,rfl,rfl,hO,hC,HB⟩:=hrel;have HO:=ax hO;have hx:xs.length≤k:=by rw[hC.o];exact Nat.le_trans (List.length_filter_le _ _) (by simp;omega)
  have hz:=HB.o.size;clear hO;by_cases hlt:k<ss.length
  ·have hki:(k:Int)<(ss.length:Int):=by omega
   have hN:=ax (words_take hlt);obtain ⟨b,o,rfl,hc⟩:=(HV.o.bz HB.o).at hlt;have hbl:=block_lt_of_cell hc;obtain ⟨x,hxx⟩:∃ x,x=ss[k]:=⟨_,rfl⟩;rw[←hxx] at hc hN;clear hxx;by_cases he:x=[]
   ·subst he;have hN2:aJ (xs=(ss.take (k+1)).filter fun x=>decide (x≠[])):=ax (by rw[hN.o,hC.o];simp);clear hN;(go_wp2_with fail)
    go_round
    case rel=>exact ⟨k+1,A,d,xs,by omega,by go_num,rfl,HO.o,hN2,HB.o⟩
    case measure=>simp[intOf];omega
   ·have hN2:aJ (xs++[x]=(ss.take (k+1)).filter fun x=>decide (x≠[])):=ax (by rw[hN.o,hC.o,if_neg he]);have heb:(x == [])=false:=by rw[bytes_eq];simpa using he
    clear hN;(go_wp2_with (at_builtin;refine appS rfl _ _ rfl (v:=.slice A xs.length d) rfl (StrsO.bz (w:=wr) HO.o bel) wr.heap.size x rfl (cell_box wr _ _) (by omega) (by simp;omega) ?_;intro g2 d2 w2 o2 hg2 hB2));have hBB:Below w1.heap.size w1 w2:=((HB.o.alloc hz _).trans hB2)
    go_round
    case rel=>exact ⟨k+1,some ⟨g2,0,none⟩,d2,xs++[x],by omega,by go_num,by simp,by simpa using o2,hN2,hBB⟩
    case measure=>simp[intOf];omega
  ·obtain rfl:k=ss.length:=by omega
   (go_wp2_with fail);go_ret;exact ⟨_,rfl,by rw[hW.o,←hC.o];exact HO.o.bq z1,bgo HW1.o HB.o⟩
end
end Go.Proofs.YtjaohekkmlkinaaGreat
