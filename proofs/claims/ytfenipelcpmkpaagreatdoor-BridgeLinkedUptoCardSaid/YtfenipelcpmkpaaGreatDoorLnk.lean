/- bridge.Link: by value. -/
import Derived.Test.YtfenipelcpmkpaaGreatDoorLkR
set_option linter.all false
set_option maxHeartbeats 16000000
set_option maxRecDepth 20000
namespace Go.Proofs.YtfenipelcpmkpaaGreatDoor
open Go Go.Abs Go.RowKit Go.Proofs.YtfenipelcpmkpaaGreatDoor.Ty
attribute [local go_sem] List.map_cons List.map_nil
theorem Xv (k s:Int):PureD Tryz.prog 71 [intD k,intD s] (.agg ((encEv ⟨k,s,1,0,0,zeroMsg⟩).map .i)):=by
 refine ak fun R hR=>?_
 refine aa 8 Tryz.func71 rfl rfl rfl (fun _ _=>rfl) ?_
 exact wkl trivial
theorem abf (s:Int) (m:MsgD):PureD Tryz.prog 73 [intD s,Xq m] (.agg ((encEv ⟨5,s,0,0,0,m⟩).map .i)):=by
 refine ak fun R hR=>?_
 refine aa 8 Tryz.func73 rfl rfl rfl (fun _ _=>rfl) ?_
 exact wkl trivial
theorem Ue (es:List (List I)) (he:es=[evB 0,evB 1].map encEv):aN Tryz.prog 70 [.pt 0 0 0 0] (hF [(0,.box [.i (.s (.slice none 0 0))])]) (.tup []) (hOf (hF [(0,.box [.i (.s (.slice none 0 0))])]) [(0,.box [.os 2 67 0 2]),(2,.arr 67 es)]):=by
 refine gX fun R R' hR hR'=>?_
 have d1:iN [] [(2,1004)]:=⟨trivial⟩
 have c1:=Xv 1 0
 have c2:=Xv 1 1
 subst he
 simp only [evB,List.map_cons,List.map_nil] at hR'
 obtain ⟨rfl⟩:=hR
 obtain ⟨rfl⟩:=hR'
 refine aa 6 Tryz.func70 rfl rfl rfl (fun o ho=>by simp [hF,lk,show o≠0 by omega,show o≠1 by omega,show o≠2 by omega,show o≠3 by omega,show o≠4 by omega,show o≠5 by omega]) ?_
 exact wkl trivial
theorem XQ (es:List (List I)) (n:Nat) (hn:es.length=n) (hl:n<=100):aN Tryz.prog 70 [.pt 0 0 0 0] (hF [(0,.box [.os 1 67 0 n]),(1,.arr 67 es)]) (.tup []) (hOf (hF [(0,.box [.os 1 67 0 n]),(1,.arr 67 es)]) [(0,.box [.os 2 67 0 (n+2)]),(1,.dead),(2,.arr 67 (es++[encEv (evB 0),encEv (evB 1)]))]):=by
 subst hn
 refine gX fun R R' hR hR'=>?_
 have d1:iN [] [(2,1004)]:=⟨trivial⟩
 have c1:=Xv 1 0
 have c2:=Xv 1 1
 simp only [evB] at hR'
 obtain ⟨rfl⟩:=hR
 obtain ⟨rfl⟩:=hR'
 refine aa 6 Tryz.func70 rfl rfl rfl (fun o ho=>by simp [hF,lk,show o≠0 by omega,show o≠1 by omega,show o≠2 by omega,show o≠3 by omega,show o≠4 by omega,show o≠5 by omega]) ?_
 exact wkl trivial
theorem rA (L:List EvD) (es es':List (List I)) (n:Nat) (s:Int) (m:MsgD) (he:es=L.map encEv) (he':es'=(L++turnL s m).map encEv) (hn:n=L.length) (hl:n<=90) :
  aN Tryz.prog 72 [.i (.s (.int .i64 s)),.agg ((encMsg m).map .i),.pt 0 0 0 0,.pt 3 0 0 0] (hF [(0,.box [.os 1 67 0 n]),(1,.arr 67 es),(3,.box [.fn 70 [.pt 0 0 0 0]])]) (.tup [])
   (hOf (hF [(0,.box [.os 1 67 0 n]),(1,.arr 67 es),(3,.box [.fn 70 [.pt 0 0 0 0]])]) [(0,.box [.os 2 67 0 (n+5)]),(1,.dead),(2,.arr 67 es'),(3,.box [.fn 70 [.pt 0 0 0 0]])]):=by
 refine gX fun R R' hR hR'=>?_
 have d1:iN [] [(2,1772)]:=⟨trivial⟩
 have c1:=abf s m
 have c2:=Xv 3 0
 have c3:=Xv 3 1
 have hen:es.length=n:=by rw [he,List.length_map,hn]
 have e2:es'=es++[encEv (evS s m)]++[encEv (evB 0),encEv (evB 1)]++[encEv (evF 0),encEv (evF 1)]:=by
  rw [he',he]; simp [turnL,List.map_append]
 have p1:=XQ (es++[encEv (evS s m)]) (n+1) (by simp [hen]) (by omega)
 rw [e2] at hR'
 clear e2 he' he hn
 subst hen
 simp only [evS,evB,evF] at hR' p1
 obtain ⟨rfl⟩:=hR
 obtain ⟨rfl⟩:=hR'
 refine aa 19 Tryz.func72 rfl rfl rfl (fun o ho=>by simp [hF,lk,show o≠0 by omega,show o≠1 by omega,show o≠2 by omega,show o≠3 by omega,show o≠4 by omega,show o≠5 by omega]) ?_
 refine wkl ?_
 intros
 refine dz [(0,0),(1,1261)] [(0,0),(1261,1),(901,2)] [(0,.box [.os 901 67 0 (es.length+1+2)]),(1261,.dead),(901,.arr 67 (es++[encEv ⟨5,s,0,0,0,m⟩]++[encEv ⟨1,0,1,0,0,zeroMsg⟩,encEv ⟨1,1,1,0,0,zeroMsg⟩]))] p1 ?_
 exact wkl trivial
theorem YT (r:Bool) (trust:Int):PureD Tryz.prog 33 [boolD r,intD trust] (.i (.sl ((oW r trust).map encEv))):=by
 refine ak fun R hR=>?_
 obtain ⟨e0,h0⟩:∃ x,x=[evB 0,evB 1].map encEv:=⟨_,rfl⟩
 obtain ⟨e1,h1⟩:∃ x,x=[evB 0,evB 1,evC 0 trust].map encEv:=⟨_,rfl⟩
 obtain ⟨e2,h2⟩:∃ x,x=[evB 0,evB 1,evC 0 trust,evC 1 trust].map encEv:=⟨_,rfl⟩
 have p0:=Ue e0 h0
 have a1:e0++[encEv (evC 0 trust)]=e1:=by rw [h0,h1]; rfl
 have a2:e1++[encEv (evC 1 trust)]=e2:=by rw [h1,h2]; rfl
 have l0:e0.length=2:=by rw [h0]; rfl
 have l1:e1.length=3:=by rw [h1]; rfl
 simp only [evC,encEv,encMsg,zeroMsg,Jq,zSh,bI,bbI,valsI,votesI,List.map_nil,Int.natCast_zero] at a1 a2
 obtain ⟨L2,hL2⟩:∃ x,x=[evB 0,evB 1,evC 0 trust,evC 1 trust]:=⟨_,rfl⟩
 have m2:L2.length=4:=by rw [hL2]; rfl
 rw [<- hL2] at h2
 have mT:∀ s m,(turnL s m).length=5:=fun s m=>rfl
 have ml:∀ (L:List EvD) s m,(L++turnL s m).length=L.length+5:=fun L s m=>by rw [List.length_append,mT]
 have hend:oW r trust=L2++turnL 0 { zeroMsg with kind:=4 }++turnL 1 { zeroMsg with kind:=5 }++turnL 0 { zeroMsg with kind:=6 }++turnL 1 { zeroMsg with kind:=7 }++turnL 0 { zeroMsg with kind:=8,ord:=r }++turnL 1 { zeroMsg with kind:=9,ord:=r }++turnL 0 { zeroMsg with kind:=10 }++turnL 1 { zeroMsg with kind:=11 }:=by
  rw [hL2]; simp only [oW,List.append_assoc]
 rw [hend] at hR
 obtain ⟨e3,h3⟩:∃ x,x=(L2++turnL 0 { zeroMsg with kind:=4 }).map encEv:=⟨_,rfl⟩
 have p1:=rA L2 e2 e3 4 0 { zeroMsg with kind:=4 } h2 h3 m2.symm (by decide)
 generalize hL3:L2++turnL 0 { zeroMsg with kind:=4 }=L3 at *
 have m3:L3.length=9:=by rw [<- hL3,ml,m2]
 obtain ⟨e4,h4⟩:∃ x,x=(L3++turnL 1 { zeroMsg with kind:=5 }).map encEv:=⟨_,rfl⟩
 have p2:=rA L3 e3 e4 9 1 { zeroMsg with kind:=5 } h3 h4 m3.symm (by decide)
 generalize hL4:L3++turnL 1 { zeroMsg with kind:=5 }=L4 at *
 have m4:L4.length=14:=by rw [<- hL4,ml,m3]
 obtain ⟨e5,h5⟩:∃ x,x=(L4++turnL 0 { zeroMsg with kind:=6 }).map encEv:=⟨_,rfl⟩
 have p3:=rA L4 e4 e5 14 0 { zeroMsg with kind:=6 } h4 h5 m4.symm (by decide)
 generalize hL5:L4++turnL 0 { zeroMsg with kind:=6 }=L5 at *
 have m5:L5.length=19:=by rw [<- hL5,ml,m4]
 obtain ⟨e6,h6⟩:∃ x,x=(L5++turnL 1 { zeroMsg with kind:=7 }).map encEv:=⟨_,rfl⟩
 have p4:=rA L5 e5 e6 19 1 { zeroMsg with kind:=7 } h5 h6 m5.symm (by decide)
 generalize hL6:L5++turnL 1 { zeroMsg with kind:=7 }=L6 at *
 have m6:L6.length=24:=by rw [<- hL6,ml,m5]
 obtain ⟨e7,h7⟩:∃ x,x=(L6++turnL 0 { zeroMsg with kind:=8,ord:=r }).map encEv:=⟨_,rfl⟩
 have p5:=rA L6 e6 e7 24 0 { zeroMsg with kind:=8,ord:=r } h6 h7 m6.symm (by decide)
 generalize hL7:L6++turnL 0 { zeroMsg with kind:=8,ord:=r }=L7 at *
 have m7:L7.length=29:=by rw [<- hL7,ml,m6]
 obtain ⟨e8,h8⟩:∃ x,x=(L7++turnL 1 { zeroMsg with kind:=9,ord:=r }).map encEv:=⟨_,rfl⟩
 have p6:=rA L7 e7 e8 29 1 { zeroMsg with kind:=9,ord:=r } h7 h8 m7.symm (by decide)
 generalize hL8:L7++turnL 1 { zeroMsg with kind:=9,ord:=r }=L8 at *
 have m8:L8.length=34:=by rw [<- hL8,ml,m7]
 obtain ⟨e9,h9⟩:∃ x,x=(L8++turnL 0 { zeroMsg with kind:=10 }).map encEv:=⟨_,rfl⟩
 have p7:=rA L8 e8 e9 34 0 { zeroMsg with kind:=10 } h8 h9 m8.symm (by decide)
 generalize hL9:L8++turnL 0 { zeroMsg with kind:=10 }=L9 at *
 have m9:L9.length=39:=by rw [<- hL9,ml,m8]
 obtain ⟨e10,h10⟩:∃ x,x=(L9++turnL 1 { zeroMsg with kind:=11 }).map encEv:=⟨_,rfl⟩
 have p8:=rA L9 e9 e10 39 1 { zeroMsg with kind:=11 } h9 h10 m9.symm (by decide)
 rw [<- h10] at hR
 have l10:e10.length=44:=by rw [h10,List.length_map,ml,m9]
 have t10:e10.take 44=e10:=List.take_of_length_le (by omega)
 clear hend h0 h1 h2 h3 h4 h5 h6 h7 h8 h9 h10 m2 m3 m4 m5 m6 m7 m8 m9 hL2 hL3 hL4 hL5 hL6 hL7 hL8 hL9 mT ml
 refine aa 50 Tryz.func33 rfl rfl rfl (fun _ _=>rfl) ?_
 refine wkl ?_
 clear hR; intro hR
 intros
 refine dz [(0,1256)] [(1256,0),(901,2)] [(1256,.box [.os 901 67 0 2]),(901,.arr 67 e0)] p0 ?_
 refine wkl ?_
 clear hR; intro hR
 intros
 refine aZ (ι:=Nat) (fun k=>k<=2) (fun k=>ek [(0,boolD r),(1,intD trust),(5,.pt 100 0 0 0),(6,.pt 101 0 0 0),(12,intD k)]
  [(100,.box [.os 102 67 0 (2+k)]),(101,.box [.fn 70 [.pt 100 0 0 0]]),(102,.arr 67 (if k=0 then e0 else if k=1 then e1 else e2))]) (fun k=>2 - k) 0 (Nat.zero_le _) ?_ ?_
 ·exact dP [] [(100,1256),(101,1513),(102,901)]
 ·rintro k hk RL hL
  rw [au]
  match k,hk with
  | 0,_ =>
   have b1:=fun σ'=>bk [] [(100,100),(101,101),(102,2797)] (hL 1 σ' (by omega))
   simp only [if_true,Nat.reduceAdd,show ¬ (1:Nat)=0 by decide,if_false] at b1 ⊢
   clear hL
   exact wkl trivial
  | 1,_ =>
   have b1:=fun σ'=>bk [] [(100,100),(101,101),(102,2797)] (hL 2 σ' (by omega))
   simp only [if_true,Nat.reduceAdd,show ¬ (1:Nat)=0 by decide,show ¬ (2:Nat)=0 by decide,show ¬ (2:Nat)=1 by decide,if_false] at b1 ⊢
   clear hL
   exact wkl trivial
  | 2,_ =>
   clear hL
   simp only [Nat.reduceAdd,show ¬ (2:Nat)=0 by decide,show ¬ (2:Nat)=1 by decide,if_false]
   refine wkl ?_
   clear hR; intro hR; intros
   refine dz [(0,100),(1,102),(3,101)] [(100,0),(102,1),(901,2),(101,3)] [(100,.box [.os 901 67 0 (4+5)]),(102,.dead),(901,.arr 67 e3),(101,.box [.fn 70 [.pt 100 0 0 0]])] p1 ?_
   refine wkl ?_
   clear hR; intro hR; intros
   refine dz [(0,100),(1,901),(3,101)] [(100,0),(901,1),(902,2),(101,3)] [(100,.box [.os 902 67 0 (9+5)]),(901,.dead),(902,.arr 67 e4),(101,.box [.fn 70 [.pt 100 0 0 0]])] p2 ?_
   refine wkl ?_
   clear hR; intro hR; intros
   refine dz [(0,100),(1,902),(3,101)] [(100,0),(902,1),(903,2),(101,3)] [(100,.box [.os 903 67 0 (14+5)]),(902,.dead),(903,.arr 67 e5),(101,.box [.fn 70 [.pt 100 0 0 0]])] p3 ?_
   refine wkl ?_
   clear hR; intro hR; intros
   refine dz [(0,100),(1,903),(3,101)] [(100,0),(903,1),(904,2),(101,3)] [(100,.box [.os 904 67 0 (19+5)]),(903,.dead),(904,.arr 67 e6),(101,.box [.fn 70 [.pt 100 0 0 0]])] p4 ?_
   refine wkl ?_
   clear hR; intro hR; intros
   refine dz [(0,100),(1,904),(3,101)] [(100,0),(904,1),(905,2),(101,3)] [(100,.box [.os 905 67 0 (24+5)]),(904,.dead),(905,.arr 67 e7),(101,.box [.fn 70 [.pt 100 0 0 0]])] p5 ?_
   refine wkl ?_
   clear hR; intro hR; intros
   refine dz [(0,100),(1,905),(3,101)] [(100,0),(905,1),(906,2),(101,3)] [(100,.box [.os 906 67 0 (29+5)]),(905,.dead),(906,.arr 67 e8),(101,.box [.fn 70 [.pt 100 0 0 0]])] p6 ?_
   refine wkl ?_
   clear hR; intro hR; intros
   refine dz [(0,100),(1,906),(3,101)] [(100,0),(906,1),(907,2),(101,3)] [(100,.box [.os 907 67 0 (34+5)]),(906,.dead),(907,.arr 67 e9),(101,.box [.fn 70 [.pt 100 0 0 0]])] p7 ?_
   refine wkl ?_
   clear hR; intro hR; intros
   refine dz [(0,100),(1,907),(3,101)] [(100,0),(907,1),(908,2),(101,3)] [(100,.box [.os 908 67 0 (39+5)]),(907,.dead),(908,.arr 67 e10),(101,.box [.fn 70 [.pt 100 0 0 0]])] p8 ?_
   exact wkl trivial
end Go.Proofs.YtfenipelcpmkpaaGreatDoor
