/- Contracts: atoms from texts (spec). -/
import Derived.Test.YtjaohekkmlkinaaDoorStrH
set_option linter.unusedSimpArgs false
set_option linter.unusedVariables false
namespace Go.Proofs.YtjaohekkmlkinaaDoor
open Go Go.RowKit Go.Proofs
theorem parseX_cut {l:Bs} {k:Nat} (hl:l.length≤7) (hk:k<l.length) (h:sign2 l[k]=true) (hn:∀ j (hj:j<k),sign2 l[j]=false) :
  parseX l=pairX (if l[k]=126 then 2 else 1) (parseT (l.take k)) (parseT (l.drop (k+1))):=by
 unfold parseX
 rw[if_neg (by omega),cutX_at hk h hn]
theorem parseX_no {l:Bs} (hn:∀ j (hj:j<l.length),sign2 l[j]=false):parseX l=none:=by
 unfold parseX
 rw[cutX_no hn]
 split<;>rfl
theorem pairX_isSome (kd:Int) (a:Nat) (pb:Option Nat):(pairX kd (some a) pb).isSome=pb.isSome:=by cases pb<;>rfl
set_option maxRecDepth 100000 in
set_option maxHeartbeats 6400000 in
theorem c_ParseAtom (l:Bs) (w:World):Calls Tryd.prog 66 #[sv l] w fun e w'=>∃ y:Atm,e=.returned (.tuple #[.agg #[.int .i64 y.kind,.int .i64 y.a,.int .i64 y.b],.bool (parseX l).isSome])∧(∀ z,parseX l=some z→y=z)∧Below w.heap.size w w':=by
 by_cases hl:l.length≤7
 ·have hli:(l.length:Int)≤7:=by omega
  go_enter Tryd.func66,Tryd.ntmps66
  go_wp2_with fail
  go_loopw [4] (fun i wr=>∃ k:Nat,k≤l.length∧i=.int .i64 k∧Hid (∀ j (hj:j<k) (hj2:j<l.length),sign2 l[j]=false)∧wr=w.alloc (.cells #[.int .i64 0,.int .i64 0,.int .i64 0] tA)) (fun i _=>l.length - (intOf i).toNat)
  case atStart=>exact ⟨0,by omega,rfl,Lib.hid fun j h=>by omega,rfl⟩
  case round=>
   obtain ⟨k,hk,rfl,HN,rfl⟩:=hrel
   by_cases hlt:k<l.length
   ·have hki:(k:Int)<(l.length:Int):=by omega
    have hx:=bidx l k hlt
    cases hc:sign2 l[k]
    ·obtain ⟨c,hcc⟩:∃ c,c=l[k]:=⟨_,rfl⟩
     have HM:Hid (∀ j (hj:j<k+1) (hj2:j<l.length),sign2 l[j]=false):=Lib.hid fun j hj hj2=>by
      by_cases e:j=k
      ·subst e;exact hc
      ·exact HN.out j (by omega) hj2
     rw[←hcc] at hx hc
     have h2:¬c=62∧¬c=126:=by unfold sign2 at hc;simpa using hc
     have hb1:((c.toNat:Int) == 62)=false:=by rw[show (62:Int)=((62:Nat):Int) from rfl,u8_eq c 62 (by decide)];simpa using h2.1
     have hb1x:¬((c.toNat:Int)=62):=by simpa using hb1
     have hb1y:((c.toNat:Int) != 62)=true:=by simpa using hb1
     have hb2:((c.toNat:Int) == 126)=false:=by rw[show (126:Int)=((126:Nat):Int) from rfl,u8_eq c 126 (by decide)];simpa using h2.2
     have hb2x:¬((c.toNat:Int)=126):=by simpa using hb2
     have hb2y:((c.toNat:Int) != 126)=true:=by simpa using hb2
     clear hcc hc h2
     go_wp2_with fail
     go_round
     case rel=>exact ⟨k+1,by omega,by go_num,HM,by first|rfl|trivial⟩
     case measure=>simp[intOf];omega
    ·have HP:=Lib.hid (parseX_cut hl hlt hc fun j hj=>HN.out j hj (by omega))
     obtain ⟨c,hcc⟩:∃ c,c=l[k]:=⟨_,rfl⟩
     rw[←hcc] at hx hc HP
     have h2:c=62∨c=126:=by unfold sign2 at hc;simpa using hc
     clear hcc hc
     obtain ⟨pa,hpa⟩:∃ x,x=parseT ((l.drop 0).take (k - 0)):=⟨_,rfl⟩
     have ca:=fun w=>c_ParseTermX l 0 k w
     rw[←hpa] at ca
     replace ca:=Lib.hid ca
     obtain ⟨pb,hpb⟩:∃ x,x=parseT ((l.drop (k+1)).take (l.length - (k+1))):=⟨_,rfl⟩
     have cb:=fun w=>c_ParseTermX l (k+1) l.length w
     rw[←hpb] at cb
     replace cb:=Lib.hid cb
     have hE:Hid (parseX l=pairX (if c=126 then 2 else 1) pa pb):=Lib.hid (by
      rw[HP.out,hpa,hpb,List.drop_zero,Nat.sub_zero,List.take_of_length_le (l:=l.drop (k+1)) (by simp)])
     clear hpa hpb HP
     rcases h2 with h2|h2
     ·replace hE:Hid (parseX l=pairX 1 pa pb):=Lib.hid (by rw[hE.out,h2];rfl)
      subst h2
      cases pa with
      | none=>
       have hR:Hid (parseX l=none):=Lib.hid hE.out
       clear hE
       go_wp2_with fail
       refine (ca.out _).mono ?_
       rintro e w2 ⟨rfl,rfl⟩
       go_wp2_with fail
       refine (cb.out _).mono ?_
       rintro e w2 ⟨rfl,rfl⟩
       obtain ⟨nb,hnb⟩:∃ nb:Nat,nb=pb.getD 0:=⟨_,rfl⟩
       rw[←hnb]
       clear hnb
       go_wp2_with fail
       refine bodyPost_ret (v:=.tuple #[.agg #[.int .i64 1,.int .i64 0,.int .i64 nb],.bool false]) (by simp[results,Tryd.results66,go_sem]) rfl ⟨⟨1,0,nb⟩,by rw[hR.out];rfl,(by rw[hR.out];intro z h;cases h),bel⟩
      | some a=>
       have hS:Hid ((parseX l).isSome=pb.isSome):=Lib.hid (by rw[hE.out,pairX_isSome])
       obtain ⟨nb,hnb⟩:∃ nb:Nat,nb=pb.getD 0:=⟨_,rfl⟩
       have hZ:Hid (∀ z,parseX l=some z→(⟨1,(a:Int),(nb:Int)⟩:Atm)=z):=Lib.hid (by
        intro z hz
        rw[hE.out,hnb] at *
        cases pb with
        | none=>cases hz
        | some b=>injection hz)
       clear hE
       go_wp2_with fail
       refine (ca.out _).mono ?_
       rintro e w2 ⟨rfl,rfl⟩
       go_wp2_with fail
       refine (cb.out _).mono ?_
       rintro e w2 ⟨rfl,rfl⟩
       obtain ⟨sb,hsb⟩:∃ sb:Bool,sb=pb.isSome:=⟨_,rfl⟩
       rw[←hsb] at hS ⊢
       rw[←hnb]
       clear hnb hsb
       go_wp2_with fail
       refine bodyPost_ret (v:=.tuple #[.agg #[.int .i64 1,.int .i64 a,.int .i64 nb],.bool sb]) (by simp[results,Tryd.results66,go_sem]) rfl ⟨⟨1,a,nb⟩,by rw[hS.out],hZ.out,bel⟩
     ·replace hE:Hid (parseX l=pairX 2 pa pb):=Lib.hid (by rw[hE.out,h2];rfl)
      subst h2
      cases pa with
      | none=>
       have hR:Hid (parseX l=none):=Lib.hid hE.out
       clear hE
       go_wp2_with fail
       refine (ca.out _).mono ?_
       rintro e w2 ⟨rfl,rfl⟩
       go_wp2_with fail
       refine (cb.out _).mono ?_
       rintro e w2 ⟨rfl,rfl⟩
       obtain ⟨nb,hnb⟩:∃ nb:Nat,nb=pb.getD 0:=⟨_,rfl⟩
       rw[←hnb]
       clear hnb
       go_wp2_with fail
       refine bodyPost_ret (v:=.tuple #[.agg #[.int .i64 2,.int .i64 0,.int .i64 nb],.bool false]) (by simp[results,Tryd.results66,go_sem]) rfl ⟨⟨2,0,nb⟩,by rw[hR.out];rfl,(by rw[hR.out];intro z h;cases h),bel⟩
      | some a=>
       have hS:Hid ((parseX l).isSome=pb.isSome):=Lib.hid (by rw[hE.out,pairX_isSome])
       obtain ⟨nb,hnb⟩:∃ nb:Nat,nb=pb.getD 0:=⟨_,rfl⟩
       have hZ:Hid (∀ z,parseX l=some z→(⟨2,(a:Int),(nb:Int)⟩:Atm)=z):=Lib.hid (by
        intro z hz
        rw[hE.out,hnb] at *
        cases pb with
        | none=>cases hz
        | some b=>injection hz)
       clear hE
       go_wp2_with fail
       refine (ca.out _).mono ?_
       rintro e w2 ⟨rfl,rfl⟩
       go_wp2_with fail
       refine (cb.out _).mono ?_
       rintro e w2 ⟨rfl,rfl⟩
       obtain ⟨sb,hsb⟩:∃ sb:Bool,sb=pb.isSome:=⟨_,rfl⟩
       rw[←hsb] at hS ⊢
       rw[←hnb]
       clear hnb hsb
       go_wp2_with fail
       refine bodyPost_ret (v:=.tuple #[.agg #[.int .i64 2,.int .i64 a,.int .i64 nb],.bool sb]) (by simp[results,Tryd.results66,go_sem]) rfl ⟨⟨2,a,nb⟩,by rw[hS.out],hZ.out,bel⟩
   ·obtain rfl:k=l.length:=by omega
    have HP:=Lib.hid (parseX_no fun j hj=>HN.out j hj hj)
    go_wp2_with fail
    refine bodyPost_ret (v:=.tuple #[.agg #[.int .i64 0,.int .i64 0,.int .i64 0],.bool false]) (by simp[results,Tryd.results66,go_sem]) rfl ⟨⟨0,0,0⟩,by rw[HP.out];rfl,(by rw[HP.out];intro z h;cases h),bel⟩
 ·have hli:¬(l.length:Int)≤7:=by omega
  have hl0:(0:Int)<(l.length:Int):=by omega
  have HP:=Lib.hid (show parseX l=none by unfold parseX;rw[if_pos (by omega)])
  clear hl
  go_enter Tryd.func66,Tryd.ntmps66
  go_wp2_with fail
  go_loopw [4] (fun i wr=>i=.int .i64 0∧wr=w.alloc (.cells #[.int .i64 0,.int .i64 0,.int .i64 0] tA)) (fun _ _=>0)
  case atStart=>exact ⟨rfl,rfl⟩
  case round=>
   obtain ⟨rfl,rfl⟩:=hrel
   go_wp2_with fail
   refine bodyPost_ret (v:=.tuple #[.agg #[.int .i64 0,.int .i64 0,.int .i64 0],.bool false]) (by simp[results,Tryd.results66,go_sem]) rfl ⟨⟨0,0,0⟩,by rw[HP.out];rfl,(by rw[HP.out];intro z h;cases h),bel⟩
end Go.Proofs.YtjaohekkmlkinaaDoor
